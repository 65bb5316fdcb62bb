/- The spans that the document fixes: the walk of awake. -/
import Derived.Test.YtghbcnmkbmaloaaPi
namespace Go.Proofs.Ytghbcnmkbmaloaa.Law
open Go.RowKit Go.Proofs.Ytghbcnmkbmaloaa Go.Proofs.YtghbcnmkbmaloaaW.PrintWords Go.Proofs.YtghbcnmkbmaloaaW.PrintLast Go.Proofs.YtghbcnmkbmaloaaW.PrintMore Go.Proofs.Ytghbcnmkbmaloaa.D Go.Proofs.Ytghbcnmkbmaloaa.Fl
set_option linter.unusedSimpArgs false
set_option linter.unusedVariables false
theorem f_1 : floatOfInt .f64 1 = 4607182418800017408 := by decide
theorem f_2 : floatOfInt .f64 2 = 4611686018427387904 := by decide
theorem f_5 : floatOfInt .f64 5 = 4617315517961601024 := by decide
theorem f_6 : floatOfInt .f64 6 = 4618441417868443648 := by decide
theorem f_7 : floatOfInt .f64 7 = 4619567317775286272 := by decide
theorem lit_C (w : World) (l : List Int) (T : TypeId) (h : l.length ≤ 1000) : Kd.C (Kd.int .i64) (w.alloc (.cells (l.map (Value.int .i64)).toArray T)) (some ⟨w.heap.size, 0, none⟩) l.length l := by
  refine Kd.C_of_reads (enc := Value.int .i64) (d := (0 : Int)) ⟨rfl, by omega, fun _ => ⟨_, rfl, fun j hj => ?_⟩⟩
  have hadd : (⟨w.heap.size, 0, none⟩ : Addr).add j = ⟨w.heap.size, j, none⟩ := by unfold Addr.add; split <;> simp_all
  rw [hadd, cell_of_row _ w.heap.size j _ T (0, 0) (heap_alloc_new w _)]
  simp [List.getD_eq_getElem?_getD, List.getElem?_eq_getElem hj]
/-- the row, and what is picked of it -/
abbrev R3 : List S34 := [⟨0, 3⟩, ⟨3, 4⟩, ⟨7, 5⟩]
abbrev P3 : List P42 := [⟨0, 2, 1⟩, ⟨1, 0, 4⟩, ⟨2, 0, 1⟩]
theorem row_aw : rowP 0 [3, 4, 5] = (R3, 0) := by
  unfold rowP
  rw [if_pos ⟨by decide, by decide⟩, rowL, if_pos ⟨⟨by decide, by decide⟩, by decide, by decide⟩, rowL, if_pos ⟨⟨by decide, by decide⟩, by decide, by decide⟩, rowL, if_pos ⟨⟨by decide, by decide⟩, by decide, by decide⟩, rowL]
  rfl
theorem parts_aw : partsL 2 6 0 R3 = P3 := by rfl
theorem row345 (w : World) : Calls Try.prog 6 #[.int .i64 0, .slice (some ⟨w.heap.size, 0, none⟩) 3 3] (w.alloc (.cells #[.int .i64 3, .int .i64 4, .int .i64 5] 3)) fun e w' => ∃ g cap, e = .returned (.tuple #[.slice (some ⟨g, 0, none⟩) 3 cap, .int .i64 0]) ∧ 3 ≤ cap ∧
    w'.cell? ⟨g, 2, none⟩ = some (.complex .f64 4619567317775286272 4617315517961601024) ∧ Kd.C kC w' (some ⟨g, 0, none⟩) 3 R3 ∧ Below w.heap.size w w' := by
  have h := row_calls 0 (lit_C w [3, 4, 5] 3 (by decide)) (Nat.le_refl _) (by decide)
  rw [row_aw] at h
  refine h.mono ?_
  rintro e w' ⟨V, rfl, hv, hb⟩
  obtain ⟨g, cap, rfl, _, _⟩ := Kd.R_form hv (by decide)
  obtain ⟨_, hc, hC⟩ := Kd.R_reads' hv
  have hc2 := (Kd.R_cell (enc := encC) z34 hv 2 (by decide) (by decide)).1
  refine ⟨g, cap, rfl, hc, ?_, hC, below_step (below_alloc (Below.refl _ _) _) hb⟩
  rw [show ((2 : Int).toNat) = 2 by rfl] at hc2
  rw [hc2]
  show some (Cx 7 5) = _
  show some (Value.complex .f64 (floatOfInt .f64 7) (floatOfInt .f64 5)) = _
  rw [f_7, f_5]
theorem pick26 (g cap : Nat) (w : World) (hr : Kd.C kC w (some ⟨g, 0, none⟩) 3 R3) (hc : 3 ≤ cap) : Calls Try.prog 10 #[.slice (some ⟨g, 0, none⟩) 3 cap, .complex .f64 4611686018427387904 4618441417868443648] w fun e w' => ∃ g2 cap2, e = .returned (.tuple #[.slice (some ⟨g2, 0, none⟩) 3 cap2, .int .i64 0]) ∧
    w'.cell? ⟨g2, 0, none⟩ = some (.int .i64 0) ∧ w'.cell? ⟨g2, 1, none⟩ = some (.complex .f64 4611686018427387904 4607182418800017408) ∧ w'.cell? ⟨g2, 4, none⟩ = some (.int .i64 2) ∧ w'.cell? ⟨g2, 5, none⟩ = some (.complex .f64 0 4607182418800017408) ∧ Below w.heap.size w w' := by
  have h := pick_in (some ⟨g, 0, none⟩) cap R3 0 2 6 w hr hc (by decide) (by decide) ⟨rfl, ⟨by decide, by decide⟩, ⟨by decide, by decide⟩, rfl, ⟨by decide, by decide⟩, ⟨by decide, by decide⟩, rfl, ⟨by decide, by decide⟩, ⟨by decide, by decide⟩, by decide, by decide⟩ ⟨by decide, by decide⟩ ⟨by decide, by decide⟩ (by decide) (by decide)
  rw [parts_aw] at h
  have e26 : Cx 2 6 = .complex .f64 4611686018427387904 4618441417868443648 := by
    show Value.complex .f64 (floatOfInt .f64 2) (floatOfInt .f64 6) = _
    rw [f_2, f_6]
  rw [e26] at h
  refine h.mono ?_
  rintro e w' ⟨V, rfl, hv, hb⟩
  obtain ⟨g2, cap2, rfl, _, _⟩ := Kd.R_form hv (by decide)
  obtain ⟨_, _, hC⟩ := Kd.R_reads' hv
  obtain ⟨ad, e0, c0, c1⟩ := at_T42 hC 0 (by decide) (by decide)
  cases e0
  obtain ⟨ad, e0, c4, c5⟩ := at_T42 hC 2 (by decide) (by decide)
  cases e0
  refine ⟨g2, cap2, rfl, c0, ?_, c4, ?_, hb⟩
  · refine Eq.trans c1 ?_
    show some (Value.complex .f64 (floatOfInt .f64 2) (floatOfInt .f64 1)) = _
    rw [f_2, f_1]
  · refine Eq.trans c5 ?_
    show some (Value.complex .f64 (floatOfInt .f64 0) (floatOfInt .f64 1)) = _
    rw [f_zero, f_1]
theorem eq_in (d : Nat) {a b : Nat} (ha : (FloatKind.f64.format.order a a == some .eq) = true) (hb : (FloatKind.f64.format.order b b == some .eq) = true) (w : World) : (Op.equalIn (d + 1) 32 (.complex .f64 a b) (.complex .f64 a b)).run Try.prog w = .ok true w := by
  have h1 : Op.floatEq .f64 a a = true := ha
  have h2 : Op.floatEq .f64 b b = true := hb
  simp [Op.equalIn, run_underlying Try.underlying32, h1, h2]
set_option maxHeartbeats 4000000 in
set_option maxRecDepth 100000 in
theorem awake_calls (w : World) : Calls Try.prog 5 #[] w fun e w' => e = .returned (.bool true) ∧ Below w.heap.size w w' := by
  have q7 : (FloatKind.f64.format.order 4619567317775286272 4619567317775286272 == some .eq) = true := by have := o_eq (n := 7) (by decide) (by decide); rwa [f_7] at this
  have q5 : (FloatKind.f64.format.order 4617315517961601024 4617315517961601024 == some .eq) = true := by have := o_eq (n := 5) (by decide) (by decide); rwa [f_5] at this
  have q2 : (FloatKind.f64.format.order 4611686018427387904 4611686018427387904 == some .eq) = true := by have := o_eq (n := 2) (by decide) (by decide); rwa [f_2] at this
  have q1 : (FloatKind.f64.format.order 4607182418800017408 4607182418800017408 == some .eq) = true := by have := o_eq (n := 1) (by decide) (by decide); rwa [f_1] at this
  have q0 : (FloatKind.f64.format.order 0 0 == some .eq) = true := by have := o_eq (n := 0) (by decide) (by decide); rwa [f_zero] at this
  have e1 := eq_in 9998 q2 q1
  have e2 := eq_in 9998 q0 q1
  go_enter Try.func5, Try.ntmps5
  go_wp2_with (first | (go_at_call 6; with_reducible refine (row345 _).mono ?_; rintro e w1 ⟨g, cap, rfl, hcap, hc2, hC, hb⟩; have HC := Aside0.mk hC; have HB := Aside0.mk hb; have HCC := Aside0.mk hc2; clear hb hC hc2) | (go_at_call 10; with_reducible refine (pick26 g cap _ HC.out hcap).mono ?_; rintro e w2 ⟨g2, cap2, rfl, c0, c1, c4, c5, hb⟩; have n1_ := Aside0.mk (below_step HB.out hb); have hc2 := (hb.cell (World.block_lt_of_cell? w1 _ HCC.out)).trans HCC.out; clear HB hb; have HB := n1_; clear n1_))
  go_ret
  exact ⟨rfl, HB.out⟩
end Go.Proofs.Ytghbcnmkbmaloaa.Law
