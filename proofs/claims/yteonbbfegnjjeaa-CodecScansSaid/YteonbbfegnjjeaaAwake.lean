/- The walk of awake. -/
import Derived.Test.YteonbbfegnjjeaaScanF
namespace Go.Proofs.Yteonbbfegnjjeaa.Law
open Go.RowKit Go.Proofs.Yteonbbfegnjjeaa Go.Proofs.YteonbbfegnjjeaaW.PrintWords Go.Proofs.YteonbbfegnjjeaaW.PrintLast Go.Proofs.YteonbbfegnjjeaaW.PrintMore Go.Proofs.Yteonbbfegnjjeaa.D
theorem rd_lit (w : World) (l : List Int) (T : TypeId) (h : l.length ≤ 1000) : Rd (w.alloc (.cells (l.map (Value.int .u8)).toArray T)) (.slice (some ⟨w.heap.size, 0, none⟩) l.length l.length) l := by
  refine ⟨_, l.length, rfl, Kd.C_of_reads (enc := Value.int .u8) (d := (0 : Int)) ⟨rfl, by omega, fun _ => ⟨_, rfl, fun j hj => ?_⟩⟩, Nat.le_refl _⟩
  have hadd : (⟨w.heap.size, 0, none⟩ : Addr).add j = ⟨w.heap.size, j, none⟩ := by unfold Addr.add; split <;> simp_all
  rw [hadd, cell_of_row _ w.heap.size j _ T (0, 0) (heap_alloc_new w _)]
  simp [List.getD_eq_getElem?_getD, List.getElem?_eq_getElem hj]
theorem numB_256 : numB [] 256 = [2, 1, 0] := by
  have e : clamp 256 = 256 := by decide
  have e1 : dg 256 = [1, 0] := by rw [dg_pos (by decide), show 256 / 256 = 1 from rfl, dg_pos (by decide), show 1 / 256 = 0 from rfl, dg_zero]; rfl
  unfold numB
  rw [e, e1]; rfl
theorem bytes_aw : Bytes [1, 9, 2, 0, 1] := by intro x hx; simp at hx; omega
theorem num_a : numP [1, 9, 2, 0, 1] 0 0 9 = (9, 2, 0) := by decide
theorem num_b : numP [2, 0, 1] 0 0 9 = (0, 0, 5) := by decide
theorem cell_row {e base g p : Nat} {w w' : World} {l : List Int} (h : Kd.R (Kd.int .u8) e w base (fun _ => True) (.slice (some ⟨g, 0, none⟩) l.length p) l) (hb : Below w.heap.size w w') (i : Nat) (hi : i < l.length) : w'.cell? ⟨g, i, none⟩ = some (.int .u8 (l.getD i 0)) := by
  have hc := (Kd.R_cell (enc := Value.int .u8) (d := (0 : Int)) (h1 := fun _ => rfl) h (i : Int) (by omega) (by omega)).1
  rw [Int.toNat_natCast] at hc
  have := (hb.cell (World.block_lt_of_cell? w _ hc)).trans hc
  rw [this]; unfold rdOf; rw [Int.toNat_natCast]
set_option maxHeartbeats 2000000 in
set_option maxRecDepth 100000 in
theorem awake_calls (w : World) : Calls Try.prog 14 #[] w fun e w' => e = .returned (.bool true) ∧ Below w.heap.size w w' := by
  go_enter Try.func14, Try.ntmps14
  go_wp2_with (first | (go_at_call 10; refine (number_calls (Rd.nil w) (by decide) 256).mono ?_; rw [numB_256]; rintro e w1 ⟨V1, rfl, hv, hb⟩; obtain ⟨g1, p1, rfl, hg1, hg2, _⟩ := Kd.R_form hv (by decide); have HV1 := Aside0.mk hv; have HB1 := Aside0.mk hb; clear hv hb) | (go_at_call 15; refine (from_calls (rd_lit w1 [1, 9, 2, 0, 1] 5 (by decide)) (by decide)).mono ?_; rintro e w2 ⟨V2, rfl, hv, hb⟩; have HB2 := Aside0.mk (below_step (below_alloc HB1.out (.cells #[.int .u8 1, .int .u8 9, .int .u8 2, .int .u8 0, .int .u8 1] 5)) hb); have HC2 := Aside0.mk (below_step (below_alloc (Below.refl w1.heap.size w1) (.cells #[.int .u8 1, .int .u8 9, .int .u8 2, .int .u8 0, .int .u8 1] 5)) hb); have HS2 := Aside0.mk (Scn.own hv bytes_aw 0); clear hv hb) | (go_at_call 16; (with_reducible refine (num_calls HS2.out ?hw 0 9).mono ?_); (case hw => exact Below.refl _ _); rw [num_a]; rintro e w3 ⟨v3, rfl, ⟨A3, c3, rfl, hr3, hc3, hy3⟩, hb⟩; have HS3 := Aside0.mk (show Scn w2 (.agg #[.slice A3 3 c3, .int .i64 0]) [2, 0, 1] 0 from ⟨A3, c3, rfl, hr3, hc3, hy3⟩); have HB3 := Aside0.mk hb; clear hr3 hc3 hy3 hb) | (go_at_call 16; (with_reducible refine (num_calls HS3.out ?hw 0 9).mono ?_); (case hw => exact below_alloc HB3.out _); rw [num_b]; rintro e w4 ⟨v4, rfl, ⟨A4, c4, rfl, hr4, hc4, hy4⟩, hb⟩; have HS4 := Aside0.mk (show Scn w2 (.agg #[.slice A4 3 c4, .int .i64 5]) [2, 0, 1] 5 from ⟨A4, c4, rfl, hr4, hc4, hy4⟩); have K3 := Aside0.mk (blk_below (blk_below (heap_alloc_new w3 (.cells #[.slice A3 3 c3, .int .i64 0] 30)) hb) (below_alloc (Below.refl w4.heap.size w4) (.cells #[.slice A4 3 c4, .int .i64 5] 30))); have HB4 := Aside0.mk (below_alloc (below_step (below_alloc HB3.out (.cells #[.slice A3 3 c3, .int .i64 0] 30)) hb) (.cells #[.slice A4 3 c4, .int .i64 5] 30)); have z0_ := (blk_cell K3.out 0).trans rfl; have z1_ := (blk_cell K3.out 1).trans rfl; have hq0 := cell_row HV1.out (below_step HC2.out HB4.out) 0 (by decide); have hq1 := cell_row HV1.out (below_step HC2.out HB4.out) 1 (by decide); clear hr4 hc4 hy4 hb) | (go_at_call 19; (with_reducible refine (left_calls (l := [2, 0, 1]) (er := 0) ?hs).mono ?_); (case hs => exact Scn.below HS3.out HB4.out); rintro e w5 ⟨rfl, hb⟩; have K5 := Aside0.mk (blk_below (heap_alloc_new w4 (.cells #[.slice A4 3 c4, .int .i64 5] 30)) hb); have HB5 := Aside0.mk (below_step HB4.out hb); have y0_ := (blk_cell K5.out 0).trans rfl; have y1_ := (blk_cell K5.out 1).trans rfl; clear hb) | (go_at_call 18; refine (err_calls (Scn.below HS4.out HB5.out)).mono ?_; rintro e w6 ⟨rfl, hb⟩; have K6 := Aside0.mk (blk_below K5.out hb); have HB6 := Aside0.mk (below_step HB5.out hb); have x0_ := (blk_cell K6.out 0).trans rfl; have x1_ := (blk_cell K6.out 1).trans rfl; clear hb) | (go_at_call 19; refine (left_calls (Scn.below HS4.out HB6.out)).mono ?_; rintro e w7 ⟨rfl, hb⟩; have HB7 := Aside0.mk (below_step HB6.out hb); clear hb))
  go_ret
  exact ⟨rfl, below_step HB2.out HB7.out⟩
end Go.Proofs.Yteonbbfegnjjeaa.Law
