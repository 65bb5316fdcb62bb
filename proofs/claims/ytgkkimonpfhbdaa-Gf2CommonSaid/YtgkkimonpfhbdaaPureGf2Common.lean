/- Gf2Common: both polynomials are multiples of the greatest common one, and so is it of any of which both are; of 0 and 0 it is 0. No condition: for all uint64. -/
import Derived.Test.YtgkkimonpfhbdaaAx5
import Derived.Test.YtgkkimonpfhbdaaRef
namespace Go.Proofs.Ytgkkimonpfhbdaa.Pure
open Go.RowKit Go.Proofs.Ytgkkimonpfhbdaa.A Go.Proofs.Ytgkkimonpfhbdaa.Law Go.Proofs.YtgkkimonpfhbdaaW.PrintWords Go.Proofs.YtgkkimonpfhbdaaW.PrintLast Go.Proofs.YtgkkimonpfhbdaaW.PrintMore

theorem gcd_comm (a b : Nat) : Gf.gcd a b = Gf.gcd b a :=
  Gf.dvd_antisymm (Gf.gcd_greatest (Gf.gcd_dvd b a).2 (Gf.gcd_dvd b a).1) (Gf.gcd_greatest (Gf.gcd_dvd a b).2 (Gf.gcd_dvd a b).1)
theorem gcd_ne {a b : Nat} (h : ¬ (a = 0 ∧ b = 0)) : Gf.gcd a b ≠ 0 := by
  intro e
  obtain ⟨h1, h2⟩ := Gf.gcd_dvd b a
  rw [e] at h1 h2
  obtain ⟨p, hp⟩ := h1
  obtain ⟨q, hq⟩ := h2
  rw [Gf.mul_zero] at hp hq
  exact h ⟨hp, hq⟩
theorem u_gcd {a b : Nat} (ha : U a) (hb : U b) : U (Gf.gcd a b) := by
  obtain ⟨h1, h2⟩ := Gf.gcd_dvd b a
  have lt : ∀ c, U c → c ≠ 0 → Gf.Dvd (Gf.gcd a b) c → U (Gf.gcd a b) := fun c hc c0 h => by
    have := (Gf.dvd_le h c0).2
    have h3 := Gf.lt_log2 (Gf.gcd a b)
    have h4 := log2_u hc c0
    have : 2 ^ ((Gf.gcd a b).log2 + 1) ≤ 2 ^ 64 := Nat.pow_le_pow_right (by omega) (by omega)
    unfold U; omega
  by_cases h : a = 0
  · by_cases h' : b = 0
    · subst h; subst h'; rw [Gf.gcd_zero]; exact ha
    · exact lt b hb h' h2
  · exact lt a ha h h1
theorem Gf2Common : hypogeumlaw12_Gf2Common.Pure := by
  intro a b f wa wb wf
  obtain ⟨a, rfl, ha⟩ := of_wf wa
  obtain ⟨b, rfl, hb⟩ := of_wf wb
  obtain ⟨f, rfl, hf⟩ := of_wf wf
  refine Ev.rounds (Ev.bind (ev_gcd b a ha hb) ?_)
  by_cases h : a = 0 ∧ b = 0
  · obtain ⟨rfl, rfl⟩ := h
    rw [Gf.gcd_zero]
    exact Ev.congr (fun k => by rw [if_pos (show ((0 : Nat) : Int) = 0 from rfl)]) (Ev.step (fun k => rfl) then_awake)
  · have hg0 := gcd_ne h
    have hgu := u_gcd ha hb
    obtain ⟨d1, d2⟩ := Gf.gcd_dvd b a
    refine Ev.congr (f := fun k => hypogeumlaw12_Gf2Common.j0 k (a : Int) (b : Int) (f : Int) (Gf.gcd a b : Int) false) (fun k => ?_) ?_
    · by_cases h1 : a = 0
      · have h2 : b ≠ 0 := fun e => h ⟨h1, e⟩
        rw [if_pos (show (a : Int) = 0 by omega), show ((b : Int) == 0) = false from beq_eq_false_iff_ne.mpr (nz h2)]
      · rw [if_neg (nz h1)]
    · refine Ev.step (fun k => by simp only [hypogeumlaw12_Gf2Common.j0]; rw [if_neg (by decide), if_neg (nz hg0)]) (Ev.bind (ev_divides hgu ha hg0) ?_)
      refine Ev.congr (fun k => by rw [if_pos ((div_true hg0).mpr d1)]) (Ev.bind (ev_divides hgu hb hg0) ?_)
      refine Ev.congr (fun k => by rw [if_pos ((div_true hg0).mpr d2)]) (Ev.bind (ev_gcd a b hb ha) ?_)
      rw [gcd_comm b a, show (((Gf.gcd a b : Nat) : Int) != (Gf.gcd a b : Int)) = false by simp]
      by_cases hf0 : f = 0
      · subst hf0
        exact Ev.step (fun k => rfl) then_awake
      · refine Ev.step (fun k => by simp only [hypogeumlaw12_Gf2Common.j1]; rw [if_neg (by decide), if_neg (nz hf0)]) (Ev.bind (ev_divides hf ha hf0) ?_)
        by_cases e1 : Gf.Dvd f a
        · refine Ev.congr (fun k => by rw [if_pos ((div_true hf0).mpr e1)]) (Ev.bind (ev_divides hf hb hf0) ?_)
          by_cases e2 : Gf.Dvd f b
          · refine Ev.congr (fun k => by rw [if_pos ((div_true hf0).mpr e2)]) (Ev.bind (ev_divides hf hgu hf0) ?_)
            exact Ev.congr (fun k => by rw [if_pos ((div_true hf0).mpr (Gf.gcd_greatest e1 e2))]) then_awake
          · exact Ev.congr (fun k => by rw [if_neg (fun z => e2 ((div_true hf0).mp z))]) then_awake
        · exact Ev.congr (fun k => by rw [if_neg (fun z => e1 ((div_true hf0).mp z))]) then_awake

end Go.Proofs.Ytgkkimonpfhbdaa.Pure
