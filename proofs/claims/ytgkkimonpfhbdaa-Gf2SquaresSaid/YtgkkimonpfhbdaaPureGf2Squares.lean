/- Gf2Squares: what is left of a polynomial squared any number of times is the reference's, or it is 0 with ErrRange where the modulus is 0 or the number is not from 0 to 64. No condition: for all uint64 and int. -/
import Derived.Test.YtgkkimonpfhbdaaAx5
import Derived.Test.YtgkkimonpfhbdaaRef
namespace Go.Proofs.Ytgkkimonpfhbdaa.Pure
open Go.RowKit Go.Proofs.Ytgkkimonpfhbdaa.A Go.Proofs.Ytgkkimonpfhbdaa.Law Go.Proofs.YtgkkimonpfhbdaaW.PrintWords Go.Proofs.YtgkkimonpfhbdaaW.PrintLast Go.Proofs.YtgkkimonpfhbdaaW.PrintMore

theorem Gf2Squares : hypogeumlaw12_Gf2Squares.Pure := by
  intro a m n wa wm wn
  obtain ⟨a, rfl, ha⟩ := of_wf wa
  obtain ⟨m, rfl, hm⟩ := of_wf wm
  by_cases h : (m : Int) = 0 ∨ n < 0 ∨ n > 64
  · refine Ev.rounds (Ev.bind (ev_square_bad h) ?_)
    refine Ev.congr (f := fun k => hypogeumlaw12_Gf2Squares.j0 k (a : Int) (m : Int) n 0 6 true) (fun k => ?_) (Ev.step (fun k => ?_) then_awake)
    · by_cases h1 : (m : Int) = 0
      · rw [if_pos h1]
      · rw [if_neg h1]
        by_cases h2 : n < 0
        · rw [if_pos h2]
        · rw [if_neg h2, show decide (n > 64) = true from decide_eq_true (by omega)]
    · rfl
  · obtain ⟨n, rfl⟩ : ∃ j : Nat, n = (j : Int) := ⟨n.toNat, by omega⟩
    have h0 : m ≠ 0 := by omega
    refine Ev.rounds (Ev.bind (ev_square (n := n) ha hm h0 (by omega)) ?_)
    refine Ev.congr (f := fun k => hypogeumlaw12_Gf2Squares.j0 k (a : Int) (m : Int) (n : Int) (Gf.rem (Gf.frob n a) m : Int) 0 false) (fun k => by rw [if_neg (nz h0), if_neg (by omega), show decide ((n : Int) > 64) = false from decide_eq_false (by omega)]) ?_
    refine Ev.step (fun k => by simp only [hypogeumlaw12_Gf2Squares.j0]; rw [if_neg (by decide)]) (Ev.bind (ev_rsquare (n := n) ha hm h0 (by omega)) ?_)
    exact Ev.congr (fun k => by rw [if_pos rfl, if_pos trivial]) then_awake

end Go.Proofs.Ytgkkimonpfhbdaa.Pure
