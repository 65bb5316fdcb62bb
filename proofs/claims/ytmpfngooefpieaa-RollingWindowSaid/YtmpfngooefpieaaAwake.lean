/- The walk of the law's own example: awake. -/
import Derived.Test.YtmpfngooefpieaaOf
namespace Go.Proofs.Ytmpfngooefpieaa.Law
open Go.RowKit Go.Proofs.Ytmpfngooefpieaa Go.Proofs.Ytmpfngooefpieaa.D Go.Proofs.Ytmpfngooefpieaa.Roll Go.Proofs.YtmpfngooefpieaaW.PrintWords Go.Proofs.YtmpfngooefpieaaW.PrintLast Go.Proofs.YtmpfngooefpieaaW.PrintMore
theorem may_own : May 17349423945073011 := ⟨by unfold U; omega, by decide +kernel, by decide +kernel⟩
theorem may_not : ¬ May 283 := fun h => absurd h.lo (by decide +kernel)
theorem fp_own : fp 17349423945073011 ((nat [1, 0]).drop (([1, 0] : List Int).length - 16)) = 256 := by
  show Gf.rem 256 17349423945073011 = 256
  exact Gf.rem_small (by decide +kernel)
theorem two_C (w : World) (T : TypeId) : Kd.C (Kd.int .u8) (w.alloc (.cells #[.int .u8 1, .int .u8 0] T)) (some ⟨w.heap.size, 0, none⟩) 2 [1, 0] := by
  refine Kd.C_of_reads (enc := Value.int .u8) (d := (0 : Int)) (h1 := fun _ => rfl) ⟨rfl, by omega, fun _ => ⟨_, rfl, fun j hj => ?_⟩⟩
  have hb := Blk.new w [.int .u8 1, .int .u8 0] T
  rw [addr_add, Nat.zero_add]
  have := hb.cell j hj
  rcases (show j = 0 ∨ j = 1 by omega) with rfl | rfl
  · exact this
  · exact this
theorem bytes_own : Bytes [1, 0] := fun x hx => by
  rcases List.mem_cons.mp hx with rfl | hx
  · omega
  · rw [List.mem_singleton.mp hx]; omega
set_option maxRecDepth 100000 in
theorem awake_calls (w : World) : Calls Try.prog 9 #[] w fun e w' => e = .returned (.bool true) ∧ Below w.heap.size w w' := by
  go_enter Try.func9, Try.ntmps9
  go_wp2_with (first | (go_at_call 10; go_loud (refine (of_good 17349423945073011 may_own _ 2 [1, 0] _ (two_C w 5) (Nat.le_refl _) bytes_own).mono ?_; rw [fp_own]; rintro e w' ⟨rfl, hbe⟩; have HB := Aside0.mk (below_step (below_alloc (Below.refl w.heap.size w) _) hbe); clear hbe)) | (go_at_call 13; refine (inv_bad (m := 283) (by unfold U; omega) may_not _).mono ?_; rintro e w' ⟨rfl, ⟨n, rfl⟩⟩))
  go_ret
  exact ⟨rfl, HB.out.trans (pw_below_drewN (Below.refl _ _) _)⟩
end Go.Proofs.Ytmpfngooefpieaa.Law
namespace Go.Proofs.Ytmpfngooefpieaa.A
open Go.RowKit Go.Proofs.Ytmpfngooefpieaa.Law Go.Proofs.YtmpfngooefpieaaW.PrintWords Go.Proofs.YtmpfngooefpieaaW.PrintLast Go.Proofs.YtmpfngooefpieaaW.PrintMore
def hypogeumlaw13_awake.f : Option Bool := some true
theorem hypogeumlaw13_awake.calls (r : Bool) (w : World) (h : hypogeumlaw13_awake.f = some r) :
    Calls Try.prog 9 #[] w fun e w' => e = .returned (.bool r) ∧ Below w.heap.size w w' := by
  obtain rfl := Option.some.inj h
  exact awake_calls w
end Go.Proofs.Ytmpfngooefpieaa.A
