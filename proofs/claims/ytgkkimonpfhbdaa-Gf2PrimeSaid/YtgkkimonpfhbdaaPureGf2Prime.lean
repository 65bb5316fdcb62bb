/- Gf2Prime: whether any polynomial of a degree up to 20 is irreducible is what the reference says, by trying. No condition: for every uint64, reduced by 2^21. -/
import Derived.Test.YtgkkimonpfhbdaaAx5
import Derived.Test.YtgkkimonpfhbdaaRef
namespace Go.Proofs.Ytgkkimonpfhbdaa.Pure
open Go.RowKit Go.Proofs.Ytgkkimonpfhbdaa.A Go.Proofs.Ytgkkimonpfhbdaa.Law Go.Proofs.YtgkkimonpfhbdaaW.PrintWords Go.Proofs.YtgkkimonpfhbdaaW.PrintLast Go.Proofs.YtgkkimonpfhbdaaW.PrintMore

theorem Gf2Prime : hypogeumlaw12_Gf2Prime.Pure := by
  intro m wm
  obtain ⟨m, rfl, hm⟩ := of_wf wm
  have hu : U (m % 2097152) := u_le hm (Nat.mod_le _ _)
  have e : Int.tmod (m : Int) 2097152 = ((m % 2097152 : Nat) : Int) := rfl
  refine Ev.rounds (Ev.congr (fun k => by unfold hypogeumlaw12_Gf2Prime.f; rw [e]) (Ev.bind (ev_irr hu) (Ev.bind (ev_rirr hu) ?_)))
  exact Ev.congr (fun k => by rw [if_pos (by simp)]) then_awake
end Go.Proofs.Ytgkkimonpfhbdaa.Pure
