/- RollingNobody: the walk. -/
import Derived.Test.YtmpfngooefpieaaAwake
namespace Go.Proofs.Ytmpfngooefpieaa.Law
open Go.RowKit Go.Proofs.Ytmpfngooefpieaa Go.Proofs.Ytmpfngooefpieaa.D Go.Proofs.Ytmpfngooefpieaa.Roll Go.Proofs.YtmpfngooefpieaaW.PrintWords Go.Proofs.YtmpfngooefpieaaW.PrintLast Go.Proofs.YtmpfngooefpieaaW.PrintMore
set_option maxRecDepth 100000 in
theorem nobody_walk (b : Int) (w : World) (_ : (Lit.int .u8 b).wf = true) : Calls Try.prog 8 #[.int .u8 b] w fun e w' => e = .returned (.bool true) ∧ Below w.heap.size w w' := by
  go_enter Try.func8, Try.ntmps8
  go_wp2_with (first | (go_at_call 9; refine (awake_calls _).mono ?_; rintro e w' ⟨rfl, hb⟩) | (go_at_call 16; refine (reset_nil _).mono ?_; rintro e w' ⟨rfl, rfl⟩) | (go_at_call 15; refine (push_nil b _).mono ?_; rintro e w' ⟨rfl, rfl⟩) | (go_at_call 14; refine (value_nil _).mono ?_; rintro e w' ⟨rfl, rfl⟩) | (go_at_call 17; refine (copy_nil _).mono ?_; rintro e w' ⟨rfl, rfl⟩))
  go_ret
  exact ⟨rfl, hb⟩
end Go.Proofs.Ytmpfngooefpieaa.Law
