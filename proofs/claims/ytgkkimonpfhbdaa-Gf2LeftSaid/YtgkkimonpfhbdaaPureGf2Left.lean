/- Gf2Left: the degree of any polynomial, and what is left of it by any, are the reference's, or it is 0 with ErrRange by 0. No condition: for all uint64. -/
import Derived.Test.YtgkkimonpfhbdaaAx3
import Derived.Test.YtgkkimonpfhbdaaRef
namespace Go.Proofs.Ytgkkimonpfhbdaa.Pure
open Go.RowKit Go.Proofs.Ytgkkimonpfhbdaa.A Go.Proofs.Ytgkkimonpfhbdaa.Law Go.Proofs.YtgkkimonpfhbdaaW.PrintWords Go.Proofs.YtgkkimonpfhbdaaW.PrintLast Go.Proofs.YtgkkimonpfhbdaaW.PrintMore

theorem Gf2Left : hypogeumlaw12_Gf2Left.Pure := by
  intro a m wa wm
  obtain ⟨a, rfl, ha⟩ := of_wf wa
  obtain ⟨m, rfl, hm⟩ := of_wf wm
  by_cases h0 : m = 0
  · subst h0
    refine Ev.rounds (Ev.bind (ev_mod0 (a : Int)) ?_)
    refine Ev.congr (fun k => by rw [if_pos (show ((0 : Nat) : Int) = 0 from rfl), if_pos rfl, if_pos rfl]) (Ev.bind (ev_degree ha) (Ev.bind (ev_rdeg ha) ?_))
    exact Ev.congr (fun k => by rw [if_pos rfl]) then_awake
  · refine Ev.rounds (Ev.bind (ev_mod ha hm h0) ?_)
    refine Ev.congr (fun k => by rw [if_neg (nz h0)]) (Ev.bind (ev_rmod ha hm h0) ?_)
    refine Ev.congr (fun k => by rw [if_pos rfl, if_pos rfl]) (Ev.bind (ev_degree ha) (Ev.bind (ev_rdeg ha) ?_))
    exact Ev.congr (fun k => by rw [if_pos rfl]) then_awake
end Go.Proofs.Ytgkkimonpfhbdaa.Pure
