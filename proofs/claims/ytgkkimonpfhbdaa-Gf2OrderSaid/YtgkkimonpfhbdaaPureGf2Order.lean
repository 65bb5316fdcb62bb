/- Gf2Order: what is left of a sum is the sum of what is left; a product hangs on no order and no brackets, and goes over a sum. No condition: for all uint64. -/
import Derived.Test.YtgkkimonpfhbdaaAx7
import Derived.Test.YtgkkimonpfhbdaaBase
namespace Go.Proofs.Ytgkkimonpfhbdaa.Pure
open Go.RowKit Go.Proofs.Ytgkkimonpfhbdaa.A Go.Proofs.Ytgkkimonpfhbdaa.Law Go.Proofs.YtgkkimonpfhbdaaW.PrintWords Go.Proofs.YtgkkimonpfhbdaaW.PrintLast

theorem mul_left {m : Nat} (h0 : m ≠ 0) (a b : Nat) : Gf.rem (Gf.mul (Gf.rem a m) b) m = Gf.rem (Gf.mul a b) m := Gf.rem_mul_left a b h0
theorem mul_right {m : Nat} (h0 : m ≠ 0) (a b : Nat) : Gf.rem (Gf.mul a (Gf.rem b m)) m = Gf.rem (Gf.mul a b) m := by
  rw [Gf.mul_comm, mul_left h0, Gf.mul_comm]
theorem Gf2Order : hypogeumlaw12_Gf2Order.Pure := by
  intro a b c m wa wb wc wm
  obtain ⟨a, rfl, ha⟩ := of_wf wa
  obtain ⟨b, rfl, hb⟩ := of_wf wb
  obtain ⟨c, rfl, hc⟩ := of_wf wc
  obtain ⟨m, rfl, hm⟩ := of_wf wm
  by_cases h0 : m = 0
  · subst h0
    exact Ev.rounds (Ev.congr (fun k => by unfold hypogeumlaw12_Gf2Order.f; rw [if_pos (show ((0 : Nat) : Int) = 0 from rfl)]) then_awake)
  · refine Ev.rounds (Ev.congr (fun k => by unfold hypogeumlaw12_Gf2Order.f; rw [if_neg (nz h0), xor64 hb hc, xor64 ha hb]) ?_)
    have ur := fun x => u_rem x hm h0
    refine Ev.bind (ev_mul ha hb hm h0) ?_
    refine Ev.bind (ev_mul hb ha hm h0) ?_
    refine Ev.bind (ev_mul hb hc hm h0) ?_
    refine Ev.bind (ev_mul (ur _) hc hm h0) ?_
    refine Ev.bind (ev_mul ha (ur _) hm h0) ?_
    refine Ev.bind (ev_mul ha (u_xor hb hc) hm h0) ?_
    refine Ev.bind (ev_mul ha hc hm h0) ?_
    refine Ev.bind (ev_mod (u_xor ha hb) hm h0) ?_
    refine Ev.bind (ev_mod ha hm h0) ?_
    refine Ev.bind (ev_mod hb hm h0) ?_
    refine Ev.congr (fun k => ?_) then_awake
    (repeat rw [if_pos rfl])
    rw [if_pos (by rw [Gf.mul_comm]), if_pos (by rw [mul_left h0, mul_right h0, Gf.mul_assoc]), if_pos (by rw [xor64 (ur _) (ur _), ← Gf.rem_xor _ _ h0, Gf.mul_xor]),
      if_pos (by rw [xor64 (ur _) (ur _), ← Gf.rem_xor _ _ h0])]
end Go.Proofs.Ytgkkimonpfhbdaa.Pure
