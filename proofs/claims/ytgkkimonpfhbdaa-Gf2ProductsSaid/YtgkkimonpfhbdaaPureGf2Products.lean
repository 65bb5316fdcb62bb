/- Gf2Products: what is left of any product by any polynomial is the reference's, or it is 0 with ErrRange by 0. No condition: for all uint64. -/
import Derived.Test.YtgkkimonpfhbdaaAx4
import Derived.Test.YtgkkimonpfhbdaaRef
namespace Go.Proofs.Ytgkkimonpfhbdaa.Pure
open Go.RowKit Go.Proofs.Ytgkkimonpfhbdaa.A Go.Proofs.Ytgkkimonpfhbdaa.Law Go.Proofs.YtgkkimonpfhbdaaW.PrintWords Go.Proofs.YtgkkimonpfhbdaaW.PrintLast Go.Proofs.YtgkkimonpfhbdaaW.PrintMore

theorem Gf2Products : hypogeumlaw12_Gf2Products.Pure := by
  intro a b m wa wb wm
  obtain ⟨a, rfl, ha⟩ := of_wf wa
  obtain ⟨b, rfl, hb⟩ := of_wf wb
  obtain ⟨m, rfl, hm⟩ := of_wf wm
  by_cases h0 : m = 0
  · subst h0
    refine Ev.rounds (Ev.bind (ev_mul0 (a : Int) (b : Int)) ?_)
    exact Ev.congr (fun k => by rw [if_pos (show ((0 : Nat) : Int) = 0 from rfl), if_pos rfl, if_pos rfl]) then_awake
  · refine Ev.rounds (Ev.bind (ev_mul ha hb hm h0) ?_)
    refine Ev.congr (fun k => by rw [if_neg (nz h0)]) (Ev.bind (ev_rmul ha hb hm h0) ?_)
    exact Ev.congr (fun k => by rw [if_pos rfl, if_pos rfl]) then_awake
end Go.Proofs.Ytgkkimonpfhbdaa.Pure
