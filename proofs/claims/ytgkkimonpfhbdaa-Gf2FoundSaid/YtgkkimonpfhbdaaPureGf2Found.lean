/- Gf2Found: what Find finds is irreducible, odd, of the degree that was asked, and the first one from the seed on (looked at up to 200 steps). No condition: for every uint64 and uint8. -/
import Derived.Test.YtgkkimonpfhbdaaAx6
import Derived.Test.YtgkkimonpfhbdaaBase
namespace Go.Proofs.Ytgkkimonpfhbdaa.Pure
open Go.RowKit Go.Proofs.Ytgkkimonpfhbdaa.A Go.Proofs.Ytgkkimonpfhbdaa.Law Go.Proofs.YtgkkimonpfhbdaaW.PrintWords Go.Proofs.YtgkkimonpfhbdaaW.PrintLast Go.Proofs.YtgkkimonpfhbdaaW.PrintMore

theorem of_wf8 {a : Int} (h : (Lit.int .u8 a).wf = true) : ∃ n : Nat, a = (n : Int) ∧ n < 256 := by
  simp only [Lit.wf, IntKind.min, IntKind.max, IntKind.signed, IntKind.bits, Bool.and_eq_true] at h
  refine ⟨a.toNat, ?_, ?_⟩
  · simp at h; omega
  · simp at h; omega
theorem ev_l {d seed j : Nat} (h1 : 2 ≤ d) (h2 : d ≤ 53) (hall : ∀ i, i < j → irr (cand d ((seed + i) % 2 ^ (d - 1))) = false) (n : Nat) : ∀ i : Nat, i + n = 200 → i ≤ j →
    Ev (fun k => hypogeumlaw12_Gf2Found.l0 k (d : Int) ((2 ^ (d - 1) : Nat) : Int) (((seed + i) % 2 ^ (d - 1) : Nat) : Int) (((seed + j) % 2 ^ (d - 1) : Nat) : Int) (i : Int)) true := by
  have hh := half_le h2
  have hpos := Nat.two_pow_pos (d - 1)
  induction n with
  | zero =>
    intro i hi hij
    refine Ev.step (fun k => ?_) then_awake
    simp only [hypogeumlaw12_Gf2Found.l0]
    rw [if_neg (by omega)]
  | succ n ih =>
    intro i hi hij
    have hs := Nat.mod_lt (seed + i) hpos
    by_cases e : (seed + i) % 2 ^ (d - 1) = (seed + j) % 2 ^ (d - 1)
    · refine Ev.step (fun k => ?_) then_awake
      simp only [hypogeumlaw12_Gf2Found.l0]
      rw [if_pos (by omega), if_pos (by rw [e])]
    · have hlt : i < j := by
        rcases Nat.lt_or_eq_of_le hij with h | h
        · exact h
        · exact absurd (by rw [h]) e
      have hnext : ((seed + i) % 2 ^ (d - 1) + 1) % 2 ^ (d - 1) = (seed + (i + 1)) % 2 ^ (d - 1) := by rw [Nat.mod_add_mod]; rfl
      refine Ev.step (f := fun k => (gf2_Irreducible.f k (cand d ((seed + i) % 2 ^ (d - 1)) : Int)).bind fun t228 => (if t228 = true then (some false) else (hypogeumlaw12_Gf2Found.l0 k (d : Int) ((2 ^ (d - 1) : Nat) : Int) (((seed + (i + 1)) % 2 ^ (d - 1) : Nat) : Int) (((seed + j) % 2 ^ (d - 1) : Nat) : Int) ((i + 1 : Nat) : Int)))) (fun k => ?_) ?_
      · simp only [hypogeumlaw12_Gf2Found.l0]
        rw [if_pos (by omega), if_neg (by omega), if_pos (by omega), cand_bits h1 h2 hs, if_neg (show ¬ ((2 ^ (d - 1) : Nat) : Int) = 0 by omega), wrapU,
          show (((seed + i) % 2 ^ (d - 1) : Nat) : Int) + 1 = (((seed + i) % 2 ^ (d - 1) + 1 : Nat) : Int) by omega,
          show (((seed + i) % 2 ^ (d - 1) + 1 : Nat) : Int) % 18446744073709551616 = (((seed + i) % 2 ^ (d - 1) + 1 : Nat) : Int) by omega, tmod_nat, hnext, wrap_succ (by omega) (by omega)]; rfl
      · refine Ev.bind (ev_irr (cand_u h2 hs h1)) ?_
        rw [hall i hlt]
        exact Ev.congr (fun k => by rw [if_neg (by decide)]) (ih (i + 1) (by omega) (by omega))
theorem cand_log {d s : Nat} (h1 : 2 ≤ d) (hs : s < 2 ^ (d - 1)) : (cand d s).log2 = d := by
  have hp := pow_half h1
  apply Gf.log2_eq
  · unfold cand; omega
  · rw [Nat.pow_succ]; unfold cand; omega
theorem Gf2Found : hypogeumlaw12_Gf2Found.Pure := by
  intro seed b ws wb
  obtain ⟨seed, rfl, hseed⟩ := of_wf ws
  obtain ⟨b, rfl, hb⟩ := of_wf8 wb
  obtain ⟨d, hd⟩ : ∃ d, d = b % 52 + 2 := ⟨_, rfl⟩
  have h1 : 2 ≤ d := by omega
  have h2 : d ≤ 53 := by omega
  have hh := half_le h2
  have hpos := Nat.two_pow_pos (d - 1)
  have e1 : wrap64 ((Int.tmod (wrap64 ((b : Nat) : Int)) 52) + 2) = (d : Int) := by
    rw [w64 (n := ((b : Nat) : Int)) (by omega) (by omega), show (52 : Int) = ((52 : Nat) : Int) from rfl, tmod_nat, w64 (by omega) (by omega)]; omega
  have e2 : wrap64 ((d : Int) - 1) = ((d - 1 : Nat) : Int) := by rw [w64 (by omega) (by omega)]; omega
  obtain ⟨j, hj, hall⟩ := exists_far h1 h2 seed
  have hs := Nat.mod_lt (seed + j) hpos
  have hcu := cand_u h2 hs h1
  have hc0 : cand d ((seed + j) % 2 ^ (d - 1)) ≠ 0 := by have := Nat.two_pow_pos d; unfold cand; omega
  refine Ev.rounds (Ev.congr (f := fun k => (gf2_Find.f k (seed : Int) (d : Int)).bind fun bt222 => (if bt222.2 = 0 then ((gf2_Degree.f k bt222.1).bind fun t224 => (if t224 = (d : Int) then (if (Int.tmod bt222.1 2) = 1 then ((gf2_Irreducible.f k bt222.1).bind fun t225 => (hypogeumlaw12_Gf2Found.j0 k (seed : Int) (d : Int) bt222.1 ((2 ^ (d - 1) : Nat) : Int) (!t225))) else (hypogeumlaw12_Gf2Found.j0 k (seed : Int) (d : Int) bt222.1 ((2 ^ (d - 1) : Nat) : Int) true)) else (hypogeumlaw12_Gf2Found.j0 k (seed : Int) (d : Int) bt222.1 ((2 ^ (d - 1) : Nat) : Int) true))) else (hypogeumlaw12_Gf2Found.j0 k (seed : Int) (d : Int) bt222.1 ((2 ^ (d - 1) : Nat) : Int) true))) (fun k => ?_) ?_)
  · unfold hypogeumlaw12_Gf2Found.f
    rw [e1, e2, shl_one (by omega)]
    refine congrArg (Option.bind _) (funext fun bt => ?_)
    rw [if_pos (by omega)]
  · refine Ev.bind (ev_find hseed h1 h2 hj hall) ?_
    refine Ev.congr (f := fun k => (gf2_Degree.f k (cand d ((seed + j) % 2 ^ (d - 1)) : Int)).bind fun t224 => (if t224 = (d : Int) then ((gf2_Irreducible.f k (cand d ((seed + j) % 2 ^ (d - 1)) : Int)).bind fun t225 => (hypogeumlaw12_Gf2Found.j0 k (seed : Int) (d : Int) (cand d ((seed + j) % 2 ^ (d - 1)) : Int) ((2 ^ (d - 1) : Nat) : Int) (!t225))) else (hypogeumlaw12_Gf2Found.j0 k (seed : Int) (d : Int) (cand d ((seed + j) % 2 ^ (d - 1)) : Int) ((2 ^ (d - 1) : Nat) : Int) true))) (fun k => ?_) ?_
    · rw [if_pos rfl]
      refine congrArg (Option.bind _) (funext fun t => ?_)
      rw [if_pos (show Int.tmod ((cand d ((seed + j) % 2 ^ (d - 1)) : Nat) : Int) 2 = 1 by
        rw [show (2 : Int) = ((2 : Nat) : Int) from rfl, tmod_nat]
        have hp := pow_half h1
        unfold cand; omega)]
    · refine Ev.bind (ev_degree hcu) ?_
      rw [deg_ne hc0, cand_log h1 hs]
      refine Ev.congr (f := fun k => (gf2_Irreducible.f k (cand d ((seed + j) % 2 ^ (d - 1)) : Int)).bind fun t225 => (hypogeumlaw12_Gf2Found.j0 k (seed : Int) (d : Int) (cand d ((seed + j) % 2 ^ (d - 1)) : Int) ((2 ^ (d - 1) : Nat) : Int) (!t225))) (fun k => by rw [if_pos rfl]) ?_
      refine Ev.bind (ev_irr hcu) ?_
      rw [hj]
      have hend : cand d ((seed + j) % 2 ^ (d - 1)) / 2 % 2 ^ (d - 1) = (seed + j) % 2 ^ (d - 1) := by
        have hp := pow_half h1
        have : cand d ((seed + j) % 2 ^ (d - 1)) / 2 = 2 ^ (d - 1) + (seed + j) % 2 ^ (d - 1) := by unfold cand; omega
        rw [this, Nat.add_mod_left, Nat.mod_mod]
      refine Ev.step (fun k => ?_) (ev_l h1 h2 hall 200 0 rfl (Nat.zero_le _))
      simp only [hypogeumlaw12_Gf2Found.j0]
      rw [if_neg (by decide), if_neg (show ¬ ((2 ^ (d - 1) : Nat) : Int) = 0 by omega), tmod_nat, show ((cand d ((seed + j) % 2 ^ (d - 1)) : Nat) : Int) / 2 = ((cand d ((seed + j) % 2 ^ (d - 1)) / 2 : Nat) : Int) by omega, tmod_nat, hend]
      rfl
end Go.Proofs.Ytgkkimonpfhbdaa.Pure
