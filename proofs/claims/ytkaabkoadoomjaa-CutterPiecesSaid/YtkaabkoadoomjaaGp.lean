/- CutterPieces: the walk. -/
import Derived.Test.YtkaabkoadoomjaaEp
import Derived.Test.YtkaabkoadoomjaaLo
namespace Go.Proofs.Ytkaabkoadoomjaa.Law
open Go.RowKit Go.Proofs.Ytkaabkoadoomjaa Go.Proofs.Ytkaabkoadoomjaa.D Go.Proofs.Ytkaabkoadoomjaa.Roll Go.Proofs.YtkaabkoadoomjaaW.PrintWords Go.Proofs.YtkaabkoadoomjaaW.PrintLast Go.Proofs.YtkaabkoadoomjaaW.PrintMore
set_option linter.unusedSimpArgs false
set_option linter.unusedVariables false
theorem pieces_at (m k : Nat) (mn mx : Int) (A : Option Addr) (n cap : Nat) (w : World) : Calls Try.prog 15 #[.agg #[.int .u64 (m : Int), .int .u64 (k : Int), .int .i64 mn, .int .i64 mx], .slice A n cap] w fun e w' => ∃ g0 g1, e = .returned (.func (.func 23) #[] #[.pointer (some ⟨g0, 0, none⟩), .pointer (some ⟨g1, 0, none⟩)]) ∧ w'.heap[g0]? = some (.cells #[.int .u64 (m : Int), .int .u64 (k : Int), .int .i64 mn, .int .i64 mx] 24 (0, 0)) ∧ w'.heap[g1]? = some (.cells #[.slice A n cap] 25 (0, 0)) ∧ Below w.heap.size w w' := by
  refine (pieces_calls m k mn mx A n cap w).mono ?_
  rintro e w' ⟨rfl, rfl⟩
  refine ⟨_, _, rfl, blk_below (heap_alloc_new w (.cells #[.int .u64 (m : Int), .int .u64 (k : Int), .int .i64 mn, .int .i64 mx] 24)) (below_alloc (Below.refl _ _) _), ?_, below_alloc (below_alloc (Below.refl _ _) _) _⟩
  have := heap_alloc_new (w.alloc (.cells #[.int .u64 (m : Int), .int .u64 (k : Int), .int .i64 mn, .int .i64 mx] 24)) (.cells #[.slice A n cap] 25)
  rwa [World.size_alloc] at this
set_option maxHeartbeats 4000000 in
set_option maxRecDepth 100000 in
theorem pieces_no (m k : Nat) (mn mx : Int) (hu : U m) (no : ¬ OkC m mn mx) (f : Value) (g0 g1 : Nat) (w : World) (h0 : w.heap[g0]? = some (.cells #[.int .u64 (m : Int), .int .u64 (k : Int), .int .i64 mn, .int .i64 mx] 24 (0, 0))) : Calls Try.prog 23 #[f, .pointer (some ⟨g0, 0, none⟩), .pointer (some ⟨g1, 0, none⟩)] w fun e w' => (∃ v, e = .returned v) ∧ Below w.heap.size w w' := by
  have z0 := (blk_cell h0 0).trans rfl
  have z1 := (blk_cell h0 1).trans rfl
  have z2 := (blk_cell h0 2).trans rfl
  have z3 := (blk_cell h0 3).trans rfl
  have HU := Aside0.mk hu
  have HNO := Aside0.mk no
  clear h0 hu no
  go_enter Try.func23, Try.ntmps23
  go_wp2_with (go_at_call 17; with_reducible refine (cnew_no HU.out HNO.out _).mono ?_; rintro e w2 ⟨rfl, hb⟩; have HB := Aside0.mk hb; clear hb)
  refine bodyPost_ret (results_none rfl _ _ _) rfl ?_
  exact ⟨⟨_, rfl⟩, HB.out⟩
theorem fn_nil (g0 g1 : Nat) (w : World) : Sem.run Try.prog (binOp .eql 37 (.func (.func 23) #[] #[.pointer (some ⟨g0, 0, none⟩), .pointer (some ⟨g1, 0, none⟩)]) .nilFunc) w = .ok (.bool false) w := by
  first | rfl | kernel_rfl | (simp [go_sem, binOp]; done)
theorem C_keepk {k : IntKind} {w W' : World} {A : Option Addr} {l : List Int} (h : Kd.C (Kd.int k) w A l.length l) (hk : ∀ q, q < w.heap.size → W'.heap[q]? = w.heap[q]?) : Kd.C (Kd.int k) W' A l.length l := by
  have hr := Kd.reads_of_C (enc := Value.int k) (d := (0 : Int)) (h1 := fun _ => rfl) h
  refine Kd.C_of_reads (enc := Value.int k) (d := (0 : Int)) (h1 := fun _ => rfl) ⟨hr.1, hr.2.1, fun hn => ?_⟩
  obtain ⟨ad, e, hc⟩ := hr.2.2 hn
  refine ⟨ad, e, fun j hj => ?_⟩
  rw [← hc j hj]
  have hlt := World.block_lt_of_cell? w _ (hc j hj)
  simp only [World.cell?, hk _ hlt]
structure PJ (w w7 : World) (s : Nat) (kb rb : Nat) (pre : List Int) (W : World) : Prop where
  ok : W.heap[s + 2]? = some (.cells #[.bool true] 4 (0, 0))
  nx : W.heap[s]? = some (.cells #[.int .i64 (pre.length : Int)] 3 (0, 0))
  at_ : W.heap[s + 1]? = some (.cells #[.int .i64 pre.sum] 3 (0, 0))
  keep : ∀ q, q < s → W.heap[q]? = w7.heap[q]?
  hkb : s + 3 ≤ kb ∧ s + 3 ≤ rb
  size : s + 3 ≤ W.heap.size
  hws : w.heap.size ≤ s
  bel : Below w.heap.size w W
theorem PJ.step {w w7 : World} {s kb rb : Nat} {pre : List Int} {W W' : World} (h : PJ w w7 s kb rb pre W) (ho : Only2 kb rb W W') : PJ w w7 s kb rb pre W' := by
  have h1 := h.hkb; have h2 := h.hws
  exact ⟨(ho.block _ (by omega) (by omega)).trans h.ok, (ho.block _ (by omega) (by omega)).trans h.nx, (ho.block _ (by omega) (by omega)).trans h.at_, fun q hq => (ho.block q (by omega) (by omega)).trans (h.keep q hq), h.hkb, by rw [ho.size]; exact h.size, h.hws, h.bel.trans (ho.below (by omega) (by omega))⟩
theorem PJ.new {w w7 : World} {s kb rb : Nat} {pre : List Int} {W W' : World} (h : PJ w w7 s kb rb pre W) (ho : Below W.heap.size W W') : PJ w w7 s kb rb pre W' := by
  have h1 := h.size; have h2 := h.hws
  exact ⟨(ho.block _ (by omega)).trans h.ok, (ho.block _ (by omega)).trans h.nx, (ho.block _ (by omega)).trans h.at_, fun q hq => (ho.block q (by omega)).trans (h.keep q hq), h.hkb, Nat.le_trans h.size ho.size, h.hws, h.bel.trans (ho.mono (by omega))⟩
theorem PJ.four {w w7 : World} {s kb rb g9 n : Nat} {pre : List Int} {W W' : World} (h : PJ w w7 s kb rb pre W) (ho : Only4 s g9 W W') (h1 : W'.heap[s + 2]? = some (.cells #[.bool true] 4 (0, 0))) (h2 : W'.heap[s]? = some (.cells #[.int .i64 ((pre.length + 1 : Nat) : Int)] 3 (0, 0))) (h3 : W'.heap[s + 1]? = some (.cells #[.int .i64 (pre.sum + (n : Int))] 3 (0, 0))) (hg : s + 3 ≤ g9) : PJ w w7 s kb rb (pre ++ [(n : Int)]) W' := by
  have hs := h.hws
  refine ⟨h1, by rw [List.length_append, List.length_singleton]; exact h2, by rw [List.sum_append, List.sum_singleton]; exact h3, fun q hq => (ho.block q (by omega) (by omega) (by omega) (by omega)).trans (h.keep q hq), h.hkb, by rw [ho.size]; exact h.size, h.hws, ?_⟩
  refine h.bel.trans ⟨ho.os, ho.tape, ho.output, Nat.le_of_eq ho.size.symm, fun q hq => ho.block q (by omega) (by omega) (by omega) (by omega)⟩
set_option maxHeartbeats 4000000 in
set_option maxRecDepth 100000 in
theorem cg_ok (m k : Nat) (mn mx : Int) (ok : OkC m mn mx) (hk : U k) (A : Option Addr) (c : Nat) (b : List Int) (lv : Nat) (w : World) (hb : Bytes b) (hr : Kd.C (Kd.int .u8) w A b.length b) (hc : b.length ≤ c) (hl : b.length ≤ 600) (hlv : lv < 256) :
    Calls Try.prog 4 #[.agg #[.int .u64 (m : Int), .int .u64 (k : Int), .int .i64 mn, .int .i64 mx], .slice A b.length c, .int .u8 (lv : Int)] w fun e w' => e = .returned (.bool true) ∧ Below w.heap.size w w' := by
  have hgt : decide ((600 : Int) < (b.length : Int)) = false := decide_eq_false (by omega)
  have HRR := Aside0.mk (rright_calls ok.may.u (k : Int) mn mx)
  rw [decide_eq_true ok] at HRR
  have HU := Aside0.mk hk
  have HBY := Aside0.mk hb
  have HLV := Aside0.mk hlv
  have HBLT := Aside0.mk hl
  have HCC := Aside0.mk hc
  have HOK := Aside0.mk ok
  have HLC := Aside0.mk (show b.length ≤ 17592186044415 by omega)
  have HLO := Aside0.mk (show b.length < 140737488355328 by omega)
  have HB := Aside0.mk (below_alloc (below_alloc (below_alloc (Below.refl w.heap.size w) (.cells #[.int .u64 (m : Int), .int .u64 (k : Int), .int .i64 mn, .int .i64 mx] 24)) (.cells #[.slice A b.length c] 25)) (.cells #[.int .u8 (lv : Int)] 5))
  have KC := Aside0.mk (blk_below (blk_below (heap_alloc_new w (.cells #[.int .u64 (m : Int), .int .u64 (k : Int), .int .i64 mn, .int .i64 mx] 24)) (below_alloc (Below.refl _ _) (.cells #[.slice A b.length c] 25))) (below_alloc (Below.refl _ _) (.cells #[.int .u8 (lv : Int)] 5)))
  have KB := Aside0.mk (blk_below (heap_alloc_new (w.alloc (.cells #[.int .u64 (m : Int), .int .u64 (k : Int), .int .i64 mn, .int .i64 mx] 24)) (.cells #[.slice A b.length c] 25)) (below_alloc (Below.refl _ _) (.cells #[.int .u8 (lv : Int)] 5)))
  have KL := Aside0.mk (heap_alloc_new ((w.alloc (.cells #[.int .u64 (m : Int), .int .u64 (k : Int), .int .i64 mn, .int .i64 mx] 24)).alloc (.cells #[.slice A b.length c] 25)) (.cells #[.int .u8 (lv : Int)] 5))
  have RB := Aside0.mk (Kd.C_below hr HB.out)
  simp only [World.size_alloc] at KB KL
  have z0 := (blk_cell KC.out 0).trans rfl
  have z1 := (blk_cell KC.out 1).trans rfl
  have z2 := (blk_cell KC.out 2).trans rfl
  have z3 := (blk_cell KC.out 3).trans rfl
  have zb := (blk_cell KB.out 0).trans rfl
  have zl := (blk_cell KL.out 0).trans rfl
  clear hk hb hr hlv hl hc ok
  go_enter Try.func4, Try.ntmps4
  go_wp2_with (first | (go_at_call 9; with_reducible refine (own_calls RB.out HCC.out HLO.out).mono ?_; rintro e w1 ⟨V1, rfl, hv, hb⟩; obtain ⟨A1, c1, rfl, hc1, hC1⟩ := Kd.R_reads hv; have RX := Aside0.mk hC1; have HC1 := Aside0.mk hc1; clear hc1 hv hC1; have n0_ := Aside0.mk (below_step (by repeat (first | (with_reducible first | exact HB.out | apply below_alloc | apply pw_below_drewN | apply below_drew1) | exact HB.out)) hb); have n1_ := Aside0.mk (blk_below KC.out hb); have n2_ := Aside0.mk (blk_below KB.out hb); have n3_ := Aside0.mk (blk_below KL.out hb); have n4_ := Aside0.mk (Kd.C_below RB.out hb); clear z0 z1 z2 z3 zb zl hb HB KC KB KL RB; have HB := n0_; have KC := n1_; have KB := n2_; have KL := n3_; have RB := n4_; clear n0_ n1_ n2_ n3_ n4_; have z0 := (blk_cell KC.out 0).trans rfl; have z1 := (blk_cell KC.out 1).trans rfl; have z2 := (blk_cell KC.out 2).trans rfl; have z3 := (blk_cell KC.out 3).trans rfl; have zb := (blk_cell KB.out 0).trans rfl; have zl := (blk_cell KL.out 0).trans rfl) | (go_at_call 15; with_reducible refine (pieces_at m k mn mx A1 b.length c1 _).mono ?_; rintro e w2 ⟨g0, g1, rfl, hk0, hk1, hb⟩; have K0 := Aside0.mk hk0; have K1 := Aside0.mk hk1; clear hk0 hk1; have n0_ := Aside0.mk (below_step (by repeat (first | (with_reducible first | exact HB.out | apply below_alloc | apply pw_below_drewN | apply below_drew1) | exact HB.out)) hb); have n1_ := Aside0.mk (blk_below KC.out hb); have n2_ := Aside0.mk (blk_below KB.out hb); have n3_ := Aside0.mk (blk_below KL.out hb); have n4_ := Aside0.mk (Kd.C_below RB.out hb); have n5_ := Aside0.mk (Kd.C_below RX.out hb); clear z0 z1 z2 z3 zb zl hb HB KC KB KL RB RX; have HB := n0_; have KC := n1_; have KB := n2_; have KL := n3_; have RB := n4_; have RX := n5_; clear n0_ n1_ n2_ n3_ n4_ n5_; have z0 := (blk_cell KC.out 0).trans rfl; have z1 := (blk_cell KC.out 1).trans rfl; have z2 := (blk_cell KC.out 2).trans rfl; have z3 := (blk_cell KC.out 3).trans rfl; have zb := (blk_cell KB.out 0).trans rfl; have zl := (blk_cell KL.out 0).trans rfl; have KW := Aside0.mk (heap_alloc_new w2 (.cells #[.slice none 0 0] 28)); have hfn := fn_nil g0 g1 w2; have zz0 := (blk_cell (blk_below KC.out (below_alloc (Below.refl w2.heap.size w2) (.cells #[.slice none 0 0] 28))) 0).trans rfl; have zz1 := (blk_cell (blk_below KC.out (below_alloc (Below.refl w2.heap.size w2) (.cells #[.slice none 0 0] 28))) 1).trans rfl; have zz2 := (blk_cell (blk_below KC.out (below_alloc (Below.refl w2.heap.size w2) (.cells #[.slice none 0 0] 28))) 2).trans rfl; have zz3 := (blk_cell (blk_below KC.out (below_alloc (Below.refl w2.heap.size w2) (.cells #[.slice none 0 0] 28))) 3).trans rfl; have HG2 := Aside0.mk (show w.heap.size + 1 + 1 < w2.heap.size ∧ g0 < w2.heap.size ∧ g1 < w2.heap.size from ⟨blk_lt KL.out, blk_lt K0.out, blk_lt K1.out⟩); have RB2 := RB; have RX2 := RX) | (go_at_call 12; with_reducible refine (HRR.out _).mono ?_; rintro e w5 ⟨rfl, hb⟩; have HS5 := Aside0.mk (show w2.heap.size < w5.heap.size by have := hb.size; rw [World.size_alloc] at this; omega); have HQ5 := Aside0.mk (show ∀ q, q < w2.heap.size → w5.heap[q]? = w2.heap[q]? from fun q hq => ((below_alloc (Below.refl w2.heap.size w2) (.cells #[.slice none 0 0] 28)).trans (hb.mono (by rw [World.size_alloc]; omega))).block q hq); have n9_ := Aside0.mk (blk_below KW.out hb); clear KW; have n0_ := Aside0.mk (below_step (by repeat (first | (with_reducible first | exact HB.out | apply below_alloc | apply pw_below_drewN | apply below_drew1) | exact HB.out)) hb); have n1_ := Aside0.mk (blk_below KC.out ((below_alloc (Below.refl w2.heap.size w2) (.cells #[.slice none 0 0] 28)).trans (hb.mono (below_size (below_alloc (Below.refl w2.heap.size w2) (.cells #[.slice none 0 0] 28)))))); have n2_ := Aside0.mk (blk_below KB.out ((below_alloc (Below.refl w2.heap.size w2) (.cells #[.slice none 0 0] 28)).trans (hb.mono (below_size (below_alloc (Below.refl w2.heap.size w2) (.cells #[.slice none 0 0] 28)))))); have n3_ := Aside0.mk (blk_below KL.out ((below_alloc (Below.refl w2.heap.size w2) (.cells #[.slice none 0 0] 28)).trans (hb.mono (below_size (below_alloc (Below.refl w2.heap.size w2) (.cells #[.slice none 0 0] 28)))))); have n4_ := Aside0.mk (blk_below K0.out ((below_alloc (Below.refl w2.heap.size w2) (.cells #[.slice none 0 0] 28)).trans (hb.mono (below_size (below_alloc (Below.refl w2.heap.size w2) (.cells #[.slice none 0 0] 28)))))); have n5_ := Aside0.mk (blk_below K1.out ((below_alloc (Below.refl w2.heap.size w2) (.cells #[.slice none 0 0] 28)).trans (hb.mono (below_size (below_alloc (Below.refl w2.heap.size w2) (.cells #[.slice none 0 0] 28)))))); have n6_ := Aside0.mk (Kd.C_below RB.out ((below_alloc (Below.refl w2.heap.size w2) (.cells #[.slice none 0 0] 28)).trans (hb.mono (below_size (below_alloc (Below.refl w2.heap.size w2) (.cells #[.slice none 0 0] 28)))))); have n7_ := Aside0.mk (Kd.C_below RX.out ((below_alloc (Below.refl w2.heap.size w2) (.cells #[.slice none 0 0] 28)).trans (hb.mono (below_size (below_alloc (Below.refl w2.heap.size w2) (.cells #[.slice none 0 0] 28)))))); clear z0 z1 z2 z3 zb zl hb HB KC KB KL K0 K1 RB RX; have HB := n0_; have KC := n1_; have KB := n2_; have KL := n3_; have K0 := n4_; have K1 := n5_; have RB := n6_; have RX := n7_; clear n0_ n1_ n2_ n3_ n4_ n5_ n6_ n7_; have z0 := (blk_cell KC.out 0).trans rfl; have z1 := (blk_cell KC.out 1).trans rfl; have z2 := (blk_cell KC.out 2).trans rfl; have z3 := (blk_cell KC.out 3).trans rfl; have zb := (blk_cell KB.out 0).trans rfl; have zl := (blk_cell KL.out 0).trans rfl; have KW := n9_; clear n9_; have zw := (blk_cell KW.out 0).trans rfl; have fw := blk_frozen KW.out 0) | (go_at_call 14; with_reducible refine (rlengths_calls HOK.out HU.out HBY.out RB.out HCC.out HLC.out).mono ?_; rintro e w6 ⟨V6, rfl, hv, hb⟩; obtain ⟨A6, c6, rfl, hc6, hC6⟩ := Kd.R_reads hv; have RLR := Aside0.mk (Kd.R_mono (Kd.R_bound hv) (fun q hq => show q ≠ w2.heap.size by have := hq.2.1; have := HS5.out; omega)); have HS6 := Aside0.mk (show w2.heap.size < w6.heap.size from Nat.lt_of_lt_of_le HS5.out hb.size); have HQ6 := Aside0.mk (show ∀ q, q < w2.heap.size → w6.heap[q]? = w2.heap[q]? from fun q hq => (hb.block q (Nat.lt_trans hq HS5.out)).trans (HQ5.out q hq)); clear hv hC6 hc6; clear fw; have n0_ := Aside0.mk (below_step (by repeat (first | (with_reducible first | exact HB.out | apply below_alloc | apply pw_below_drewN | apply below_drew1) | exact HB.out)) hb); have n1_ := Aside0.mk (blk_below KC.out hb); have n2_ := Aside0.mk (blk_below KB.out hb); have n3_ := Aside0.mk (blk_below KL.out hb); have n4_ := Aside0.mk (blk_below K0.out hb); have n5_ := Aside0.mk (blk_below K1.out hb); have n6_ := Aside0.mk (blk_below KW.out hb); have n7_ := Aside0.mk (Kd.C_below RB.out hb); have n8_ := Aside0.mk (Kd.C_below RX.out hb); clear z0 z1 z2 z3 zb zl zw hb HB KC KB KL K0 K1 KW RB RX; have HB := n0_; have KC := n1_; have KB := n2_; have KL := n3_; have K0 := n4_; have K1 := n5_; have KW := n6_; have RB := n7_; have RX := n8_; clear n0_ n1_ n2_ n3_ n4_ n5_ n6_ n7_ n8_; have z0 := (blk_cell KC.out 0).trans rfl; have z1 := (blk_cell KC.out 1).trans rfl; have z2 := (blk_cell KC.out 2).trans rfl; have z3 := (blk_cell KC.out 3).trans rfl; have zb := (blk_cell KB.out 0).trans rfl; have zl := (blk_cell KL.out 0).trans rfl; have zw := (blk_cell KW.out 0).trans rfl; have fw := blk_frozen KW.out 0))
  clear z0 z1 z2 z3 zb zl zw fw hfn zz0 zz1 zz2 zz3 KC
  obtain ⟨hg2a, hg2b, hg2c⟩ := HG2.out
  have hs6 := HS6.out
  have hq6 := HQ6.out
  have hrb2 := RB2.out
  have hrx2 := RX2.out
  have hrlr := RLR.out
  have hkw := KW.out
  have hHB := HB.out
  have hKB := KB.out
  have hKL := KL.out
  have hK0 := K0.out
  have hK1 := K1.out
  clear HG2 HS6 HQ6 HS5 HQ5 RB2 RX2 RLR KW HB KB KL K0 K1 RB RX
  generalize hgw : w2.heap.size = gw at *
  have hB7 : Below w.heap.size w (w6.setCell ⟨gw, 0, none⟩ (.slice A6 (lens m k mn mx [] b).length c6)) := hHB.trans (((Only.refl gw w6).set 0 _).below (by omega))
  have q7 : ∀ q, q ≠ gw → (w6.setCell ⟨gw, 0, none⟩ (.slice A6 (lens m k mn mx [] b).length c6)).heap[q]? = w6.heap[q]? := fun q hq => Below.heap_setCell w6 ⟨gw, 0, none⟩ _ q hq
  have QW := Aside0.mk (blk_put hkw 0 (.slice A6 (lens m k mn mx [] b).length c6) rfl)
  have hl7 := (Kd.R_reads' (Kd.R_step hrlr (fun q hne _ => q7 q hne))).2.2
  have hsz : (w6.setCell ⟨gw, 0, none⟩ (.slice A6 (lens m k mn mx [] b).length c6)).heap.size = w6.heap.size := World.size_setCell _ _ _
  have hb7 := C_keepk hrb2 (fun q hq => (q7 q (by omega)).trans (hq6 q (by omega)))
  have hx7 := C_keepk hrx2 (fun q hq => (q7 q (by omega)).trans (hq6 q (by omega)))
  have QB := Aside0.mk ((q7 _ (by omega)).trans hKB)
  have QL := Aside0.mk ((q7 _ (by omega)).trans hKL)
  have Q0 := Aside0.mk ((q7 g0 (by omega)).trans hK0)
  have Q1 := Aside0.mk ((q7 g1 (by omega)).trans hK1)
  generalize hLL : lens m k mn mx [] b = L at *
  have HLL := Aside0.mk hLL
  clear hLL
  generalize w6.setCell ⟨gw, 0, none⟩ (.slice A6 L.length c6) = w7 at *
  rw [← hsz]
  have hgs : gw < w7.heap.size := by rw [hsz]; exact hs6
  have hws : w.heap.size ≤ w7.heap.size := by omega
  clear hsz q7 hs6 hq6 hrb2 hrx2 hrlr hkw hHB hKB hKL hK0 hK1 hg2b hg2c
  have h0s : g0 < w7.heap.size := blk_lt Q0.out
  have h1s : g1 < w7.heap.size := blk_lt Q1.out
  have e0 := blk_below (blk_below (heap_alloc_new w7 (.cells #[.int .i64 0] 3)) (below_alloc (Below.refl _ _) (.cells #[.int .i64 0] 3))) (below_alloc (Below.refl _ _) (.cells #[.bool true] 4))
  have e1 := blk_below (heap_alloc_new (w7.alloc (.cells #[.int .i64 0] 3)) (.cells #[.int .i64 0] 3)) (below_alloc (Below.refl _ _) (.cells #[.bool true] 4))
  have e2 := heap_alloc_new ((w7.alloc (.cells #[.int .i64 0] 3)).alloc (.cells #[.int .i64 0] 3)) (.cells #[.bool true] 4)
  have eB := below_alloc (below_alloc (below_alloc (Below.refl w7.heap.size w7) (.cells #[.int .i64 0] 3)) (.cells #[.int .i64 0] 3)) (.cells #[.bool true] 4)
  have eS : (((w7.alloc (.cells #[.int .i64 0] 3)).alloc (.cells #[.int .i64 0] 3)).alloc (.cells #[.bool true] 4)).heap.size = w7.heap.size + 3 := by simp only [World.size_alloc]
  simp only [World.size_alloc] at e1 e2
  generalize ((w7.alloc (.cells #[.int .i64 0] 3)).alloc (.cells #[.int .i64 0] 3)).alloc (.cells #[.bool true] 4) = W0 at *
  have HW := Aside0.mk (⟨hgs, hws, hg2a, h0s, h1s, eS⟩ : gw < w7.heap.size ∧ w.heap.size ≤ w7.heap.size ∧ w.heap.size + 1 + 1 < gw ∧ g0 < w7.heap.size ∧ g1 < w7.heap.size ∧ W0.heap.size = w7.heap.size + 3)
  have hjj : ∀ kb rb w', W0.heap.size ≤ kb → W0.heap.size ≤ rb → Below W0.heap.size W0 w' → PJ w w7 w7.heap.size kb rb [] w' := fun kb rb w' h1 h2 hb => ⟨(hb.block _ (by omega)).trans e2, (hb.block _ (by omega)).trans e0, (hb.block _ (by omega)).trans e1, fun q hq => (hb.block q (by omega)).trans (eB.block q hq), ⟨by omega, by omega⟩, by have := hb.size; omega, hws, (hB7.trans (eB.mono hws)).trans (hb.mono (by omega))⟩
  have hL6 : L.length ≤ 600 := by rw [← HLL.out]; have := lens_len m k mn mx b.length b (Nat.le_refl _); have := HBLT.out; omega
  go_at_call 23
  refine (pieces2 m k mn mx HOK.out HU.out A1 c1 b g0 g1 lv (w7.heap.size + 1 + 1) w7.heap.size gw (w7.heap.size + 1) (w.heap.size + 1) (w.heap.size + 1 + 1) W0 HBY.out (Kd.C_below hx7 eB) HC1.out (by have := HBLT.out; omega) ((eB.block g0 h0s).trans Q0.out) ((eB.block g1 h1s).trans Q1.out) (PJ w w7 w7.heap.size) hjj (fun kb rb pre Wa Wb h ho => h.step ho) (fun kb rb pre Wa Wb h ho => h.new ho) ?hY).mono ?_
  case hY =>
    intro kb rb pre fr n rest g9 cells Wr hJ hLn hfr hn hfn h9 hp hg9 hk9 hr9 hpl hkW hrW hkb hrb
    rw [HLL.out] at hLn
    have hbW := C_keepk hb7 (fun q hq => hJ.keep q hq)
    have hxW := C_keepk hx7 (fun q hq => hJ.keep q hq)
    have hlW := C_keepk hl7 (fun q hq => hJ.keep q hq)
    obtain ⟨ad, rfl, _⟩ := Kd.at_int hbW 0 (by omega) (by omega)
    have hkL : (pre.length : Int) < (L.length : Int) := pre_lt hLn
    obtain ⟨al, rfl, _⟩ := Kd.at_int hlW (pre.length : Int) (Int.natCast_nonneg _) hkL
    refine (each_calls w7.heap.size gw (w.heap.size + 1) (w.heap.size + 1 + 1) al ad c6 c L b lv pre.length fr n g9 cells Wr ⟨hJ.ok, hJ.nx, by rw [hfr]; exact hJ.at_, (hJ.keep gw hgs).trans QW.out, (hJ.keep _ (by omega)).trans QB.out, (hJ.keep _ (by omega)).trans QL.out, hlW, hbW⟩ hkL (by rw [hLn]; exact rd_at) hn hfn HCC.out (by have := HBLT.out; omega) (by have := HLV.out; omega) h9 hp ⟨by omega, by omega, by omega, by omega⟩ (by omega) HLV.out).mono ?_
    rintro e W' ⟨rfl, r1, r2, r3, r4⟩
    have hcc := hJ.hkb
    refine ⟨rfl, hJ.four r4 r1 r2 (by rw [← hfr]; exact r3) (by omega), r4.block g1 (by omega) (by omega) (by omega) (by omega), r4.block kb (by omega) (by omega) (by omega) hk9.symm, r4.block rb (by omega) (by omega) (by omega) hr9.symm, fun _ => C_keepk hx7 (fun q hq => (hJ.four r4 r1 r2 (by rw [← hfr]; exact r3) (by omega)).keep q hq)⟩
  rintro e W9 ⟨⟨v, rfl⟩, kb, rb, pre, rest, hJ, hpr, hend⟩
  rw [HLL.out] at hpr
  have HB9 := Aside0.mk hJ.bel
  have RB9 := Aside0.mk (C_keepk hb7 (fun q hq => hJ.keep q hq))
  have RX9 := Aside0.mk (C_keepk hx7 (fun q hq => hJ.keep q hq))
  have cvx := conv_u8 (c := c1) RX9.out
  have cvb := conv_u8 (c := c) RB9.out
  have y1 := (blk_cell hJ.ok 0).trans rfl
  have y2 := (blk_cell hJ.nx 0).trans rfl
  have y3 := (blk_cell ((hJ.keep gw hgs).trans QW.out) 0).trans rfl
  have y4 := (blk_cell ((hJ.keep _ (by omega)).trans QB.out) 0).trans rfl
  have y5 := (blk_cell ((hJ.keep _ (by omega)).trans QL.out) 0).trans rfl
  have hll : L.length = pre.length + rest.length := by rw [hpr, List.length_append]
  have hpm : ((lv : Int) + 1 < (L.length : Int) ∧ (pre.length : Int) = (lv : Int) + 1) ∨ (¬ (lv : Int) + 1 < (L.length : Int) ∧ (pre.length : Int) = (L.length : Int)) := by rcases hend with h | ⟨h, h'⟩ <;> first | (subst h; rw [List.length_nil] at hll; omega) | omega
  have hwl := lv_w HLV.out
  have hwl1 := small_j (n := lv) (by have := HLV.out; omega)
  clear hJ hpr hend hll hL6 hjj eS eB e0 e1 e2 hb7 hx7 hl7 hB7 hgs hws h0s h1s hg2a hgw HW
  rcases hpm with ⟨hm, hp⟩ | ⟨hm, hp⟩
  · rw [hp] at y2
    have m1 := decide_eq_true hm
    have m2 := eq_true hm
    have m3 : ((L.length : Int) ≤ (lv : Int) + 1) = False := eq_false (by omega)
    have m4 : ((L.length : Int) < (lv : Int) + 1) = False := eq_false (by omega)
    clear hm hp
    go_wp2_with (go_at_call 8; with_reducible refine (awake_calls _).mono ?_; rintro e w9 ⟨rfl, hb⟩; have HBB := Aside0.mk (HB9.out.trans (hb.mono HB9.out.size)); clear hb)
    go_ret
    exact ⟨rfl, HBB.out⟩
  · rw [hp] at y2
    have m1 := decide_eq_false hm
    have m2 := eq_false hm
    clear hm hp
    go_wp2_with (go_at_call 8; with_reducible refine (awake_calls _).mono ?_; rintro e w9 ⟨rfl, hb⟩; have HBB := Aside0.mk (HB9.out.trans (hb.mono HB9.out.size)); clear hb)
    go_ret
    exact ⟨rfl, HBB.out⟩
set_option maxHeartbeats 4000000 in
set_option maxRecDepth 100000 in
theorem cg_no (m k : Nat) (mn mx : Int) (hu : U m) (no : ¬ OkC m mn mx) (hk : U k) (A : Option Addr) (c : Nat) (b : List Int) (lv : Nat) (w : World) (hb : Bytes b) (hr : Kd.C (Kd.int .u8) w A b.length b) (hc : b.length ≤ c) (hl : b.length ≤ 600) (hlv : lv < 256) :
    Calls Try.prog 4 #[.agg #[.int .u64 (m : Int), .int .u64 (k : Int), .int .i64 mn, .int .i64 mx], .slice A b.length c, .int .u8 (lv : Int)] w fun e w' => e = .returned (.bool true) ∧ Below w.heap.size w w' := by
  have hgt : decide ((600 : Int) < (b.length : Int)) = false := decide_eq_false (by omega)
  have HRR := Aside0.mk (rright_calls hu (k : Int) mn mx)
  rw [decide_eq_false no] at HRR
  have HU := Aside0.mk hk
  have HBY := Aside0.mk hb
  have HLV := Aside0.mk hlv
  have HBLT := Aside0.mk hl
  have HCC := Aside0.mk hc
  have HUM := Aside0.mk hu
  have HNO := Aside0.mk no
  have HLO := Aside0.mk (show b.length < 140737488355328 by omega)
  have HB := Aside0.mk (below_alloc (below_alloc (below_alloc (Below.refl w.heap.size w) (.cells #[.int .u64 (m : Int), .int .u64 (k : Int), .int .i64 mn, .int .i64 mx] 24)) (.cells #[.slice A b.length c] 25)) (.cells #[.int .u8 (lv : Int)] 5))
  have KC := Aside0.mk (blk_below (blk_below (heap_alloc_new w (.cells #[.int .u64 (m : Int), .int .u64 (k : Int), .int .i64 mn, .int .i64 mx] 24)) (below_alloc (Below.refl _ _) (.cells #[.slice A b.length c] 25))) (below_alloc (Below.refl _ _) (.cells #[.int .u8 (lv : Int)] 5)))
  have KB := Aside0.mk (blk_below (heap_alloc_new (w.alloc (.cells #[.int .u64 (m : Int), .int .u64 (k : Int), .int .i64 mn, .int .i64 mx] 24)) (.cells #[.slice A b.length c] 25)) (below_alloc (Below.refl _ _) (.cells #[.int .u8 (lv : Int)] 5)))
  have KL := Aside0.mk (heap_alloc_new ((w.alloc (.cells #[.int .u64 (m : Int), .int .u64 (k : Int), .int .i64 mn, .int .i64 mx] 24)).alloc (.cells #[.slice A b.length c] 25)) (.cells #[.int .u8 (lv : Int)] 5))
  have RB := Aside0.mk (Kd.C_below hr HB.out)
  simp only [World.size_alloc] at KB KL
  have z0 := (blk_cell KC.out 0).trans rfl
  have z1 := (blk_cell KC.out 1).trans rfl
  have z2 := (blk_cell KC.out 2).trans rfl
  have z3 := (blk_cell KC.out 3).trans rfl
  have zb := (blk_cell KB.out 0).trans rfl
  have zl := (blk_cell KL.out 0).trans rfl
  clear hk hb hr hlv hl hc hu no
  go_enter Try.func4, Try.ntmps4
  go_wp2_with (first | (go_at_call 9; with_reducible refine (own_calls RB.out HCC.out HLO.out).mono ?_; rintro e w1 ⟨V1, rfl, hv, hb⟩; obtain ⟨A1, c1, rfl, hc1, hC1⟩ := Kd.R_reads hv; have RX := Aside0.mk hC1; have HC1 := Aside0.mk hc1; clear hc1 hv hC1; have n0_ := Aside0.mk (below_step (by repeat (first | (with_reducible first | exact HB.out | apply below_alloc | apply pw_below_drewN | apply below_drew1) | exact HB.out)) hb); have n1_ := Aside0.mk (blk_below KC.out hb); have n2_ := Aside0.mk (blk_below KB.out hb); have n3_ := Aside0.mk (blk_below KL.out hb); have n4_ := Aside0.mk (Kd.C_below RB.out hb); clear z0 z1 z2 z3 zb zl hb HB KC KB KL RB; have HB := n0_; have KC := n1_; have KB := n2_; have KL := n3_; have RB := n4_; clear n0_ n1_ n2_ n3_ n4_; have z0 := (blk_cell KC.out 0).trans rfl; have z1 := (blk_cell KC.out 1).trans rfl; have z2 := (blk_cell KC.out 2).trans rfl; have z3 := (blk_cell KC.out 3).trans rfl; have zb := (blk_cell KB.out 0).trans rfl; have zl := (blk_cell KL.out 0).trans rfl) | (go_at_call 15; with_reducible refine (pieces_at m k mn mx A1 b.length c1 _).mono ?_; rintro e w2 ⟨g0, g1, rfl, hk0, hk1, hb⟩; have K0 := Aside0.mk hk0; have K1 := Aside0.mk hk1; clear hk0 hk1; have n0_ := Aside0.mk (below_step (by repeat (first | (with_reducible first | exact HB.out | apply below_alloc | apply pw_below_drewN | apply below_drew1) | exact HB.out)) hb); have n1_ := Aside0.mk (blk_below KC.out hb); have n2_ := Aside0.mk (blk_below KB.out hb); have n3_ := Aside0.mk (blk_below KL.out hb); have n4_ := Aside0.mk (Kd.C_below RB.out hb); have n5_ := Aside0.mk (Kd.C_below RX.out hb); clear z0 z1 z2 z3 zb zl hb HB KC KB KL RB RX; have HB := n0_; have KC := n1_; have KB := n2_; have KL := n3_; have RB := n4_; have RX := n5_; clear n0_ n1_ n2_ n3_ n4_ n5_; have z0 := (blk_cell KC.out 0).trans rfl; have z1 := (blk_cell KC.out 1).trans rfl; have z2 := (blk_cell KC.out 2).trans rfl; have z3 := (blk_cell KC.out 3).trans rfl; have zb := (blk_cell KB.out 0).trans rfl; have zl := (blk_cell KL.out 0).trans rfl; have KW := Aside0.mk (heap_alloc_new w2 (.cells #[.slice none 0 0] 28)); have hfn := fn_nil g0 g1 w2; have zz0 := (blk_cell (blk_below KC.out (below_alloc (Below.refl w2.heap.size w2) (.cells #[.slice none 0 0] 28))) 0).trans rfl; have zz1 := (blk_cell (blk_below KC.out (below_alloc (Below.refl w2.heap.size w2) (.cells #[.slice none 0 0] 28))) 1).trans rfl; have zz2 := (blk_cell (blk_below KC.out (below_alloc (Below.refl w2.heap.size w2) (.cells #[.slice none 0 0] 28))) 2).trans rfl; have zz3 := (blk_cell (blk_below KC.out (below_alloc (Below.refl w2.heap.size w2) (.cells #[.slice none 0 0] 28))) 3).trans rfl; have HG2 := Aside0.mk (show w.heap.size + 1 + 1 < w2.heap.size ∧ g0 < w2.heap.size ∧ g1 < w2.heap.size from ⟨blk_lt KL.out, blk_lt K0.out, blk_lt K1.out⟩); have RB2 := RB; have RX2 := RX) | (go_at_call 12; with_reducible refine (HRR.out _).mono ?_; rintro e w5 ⟨rfl, hb⟩; have HS5 := Aside0.mk (show w2.heap.size < w5.heap.size by have := hb.size; rw [World.size_alloc] at this; omega); have HQ5 := Aside0.mk (show ∀ q, q < w2.heap.size → w5.heap[q]? = w2.heap[q]? from fun q hq => ((below_alloc (Below.refl w2.heap.size w2) (.cells #[.slice none 0 0] 28)).trans (hb.mono (by rw [World.size_alloc]; omega))).block q hq); have n9_ := Aside0.mk (blk_below KW.out hb); clear KW; have n0_ := Aside0.mk (below_step (by repeat (first | (with_reducible first | exact HB.out | apply below_alloc | apply pw_below_drewN | apply below_drew1) | exact HB.out)) hb); have n1_ := Aside0.mk (blk_below KC.out ((below_alloc (Below.refl w2.heap.size w2) (.cells #[.slice none 0 0] 28)).trans (hb.mono (below_size (below_alloc (Below.refl w2.heap.size w2) (.cells #[.slice none 0 0] 28)))))); have n2_ := Aside0.mk (blk_below KB.out ((below_alloc (Below.refl w2.heap.size w2) (.cells #[.slice none 0 0] 28)).trans (hb.mono (below_size (below_alloc (Below.refl w2.heap.size w2) (.cells #[.slice none 0 0] 28)))))); have n3_ := Aside0.mk (blk_below KL.out ((below_alloc (Below.refl w2.heap.size w2) (.cells #[.slice none 0 0] 28)).trans (hb.mono (below_size (below_alloc (Below.refl w2.heap.size w2) (.cells #[.slice none 0 0] 28)))))); have n4_ := Aside0.mk (blk_below K0.out ((below_alloc (Below.refl w2.heap.size w2) (.cells #[.slice none 0 0] 28)).trans (hb.mono (below_size (below_alloc (Below.refl w2.heap.size w2) (.cells #[.slice none 0 0] 28)))))); have n5_ := Aside0.mk (blk_below K1.out ((below_alloc (Below.refl w2.heap.size w2) (.cells #[.slice none 0 0] 28)).trans (hb.mono (below_size (below_alloc (Below.refl w2.heap.size w2) (.cells #[.slice none 0 0] 28)))))); have n6_ := Aside0.mk (Kd.C_below RB.out ((below_alloc (Below.refl w2.heap.size w2) (.cells #[.slice none 0 0] 28)).trans (hb.mono (below_size (below_alloc (Below.refl w2.heap.size w2) (.cells #[.slice none 0 0] 28)))))); have n7_ := Aside0.mk (Kd.C_below RX.out ((below_alloc (Below.refl w2.heap.size w2) (.cells #[.slice none 0 0] 28)).trans (hb.mono (below_size (below_alloc (Below.refl w2.heap.size w2) (.cells #[.slice none 0 0] 28)))))); clear z0 z1 z2 z3 zb zl hb HB KC KB KL K0 K1 RB RX; have HB := n0_; have KC := n1_; have KB := n2_; have KL := n3_; have K0 := n4_; have K1 := n5_; have RB := n6_; have RX := n7_; clear n0_ n1_ n2_ n3_ n4_ n5_ n6_ n7_; have z0 := (blk_cell KC.out 0).trans rfl; have z1 := (blk_cell KC.out 1).trans rfl; have z2 := (blk_cell KC.out 2).trans rfl; have z3 := (blk_cell KC.out 3).trans rfl; have zb := (blk_cell KB.out 0).trans rfl; have zl := (blk_cell KL.out 0).trans rfl; have KW := n9_; clear n9_; have zw := (blk_cell KW.out 0).trans rfl; have fw := blk_frozen KW.out 0))
  clear z0 z1 z2 z3 zb zl zw fw hfn zz0 zz1 zz2 zz3 KC
  obtain ⟨hg2a, hg2b, hg2c⟩ := HG2.out
  have hs5 := HS5.out
  have e0 := blk_below (blk_below (heap_alloc_new w5 (.cells #[.int .i64 0] 3)) (below_alloc (Below.refl _ _) (.cells #[.int .i64 0] 3))) (below_alloc (Below.refl _ _) (.cells #[.bool true] 4))
  have e2 := heap_alloc_new ((w5.alloc (.cells #[.int .i64 0] 3)).alloc (.cells #[.int .i64 0] 3)) (.cells #[.bool true] 4)
  have eB := below_alloc (below_alloc (below_alloc (Below.refl w5.heap.size w5) (.cells #[.int .i64 0] 3)) (.cells #[.int .i64 0] 3)) (.cells #[.bool true] 4)
  have eS : (((w5.alloc (.cells #[.int .i64 0] 3)).alloc (.cells #[.int .i64 0] 3)).alloc (.cells #[.bool true] 4)).heap.size = w5.heap.size + 3 := by simp only [World.size_alloc]
  simp only [World.size_alloc] at e2
  generalize ((w5.alloc (.cells #[.int .i64 0] 3)).alloc (.cells #[.int .i64 0] 3)).alloc (.cells #[.bool true] 4) = W0 at *
  go_at_call 23
  refine (pieces_no m k mn mx HUM.out HNO.out _ g0 g1 W0 ((eB.block g0 (by omega)).trans K0.out)).mono ?_
  rintro e W9 ⟨⟨v, rfl⟩, hb⟩
  have hb5 := eB.trans (hb.mono (show w5.heap.size ≤ W0.heap.size by omega))
  have HB9 := Aside0.mk (HB.out.trans (hb5.mono HB.out.size))
  have RB9 := Aside0.mk (Kd.C_below RB.out hb5)
  have RX9 := Aside0.mk (Kd.C_below RX.out hb5)
  have cvx := conv_u8 (c := c1) RX9.out
  have cvb := conv_u8 (c := c) RB9.out
  have y1 := (blk_cell ((hb.block (w5.heap.size + 1 + 1) (by omega)).trans e2) 0).trans rfl
  have y2 := (blk_cell ((hb.block w5.heap.size (by omega)).trans e0) 0).trans rfl
  have y3 := (blk_cell (blk_below KW.out hb5) 0).trans rfl
  have y4 := (blk_cell (blk_below KB.out hb5) 0).trans rfl
  have y5 := (blk_cell (blk_below KL.out hb5) 0).trans rfl
  have hwl := lv_w HLV.out
  have hwl1 := small_j (n := lv) (by have := HLV.out; omega)
  have m1 : decide ((lv : Int) + 1 < 0) = false := decide_eq_false (by omega)
  have m2 : ((lv : Int) + 1 < 0) = False := eq_false (by omega)
  clear e0 e2 eB eS hb hb5 hg2a hg2b hg2c hs5 HB RB RX KW KB KL K0 K1 HG2 HS5 HQ5 RB2 RX2
  go_wp2_with (go_at_call 8; with_reducible refine (awake_calls _).mono ?_; rintro e w9 ⟨rfl, hb⟩; have HBB := Aside0.mk (HB9.out.trans (hb.mono HB9.out.size)); clear hb)
  go_ret
  exact ⟨rfl, HBB.out⟩
set_option maxHeartbeats 4000000 in
set_option maxRecDepth 100000 in
theorem cg_many (m k mn mx : Int) (A : Option Addr) (c n : Nat) (lv : Int) (w : World) (hl : ¬ n ≤ 600) : Calls Try.prog 4 #[.agg #[.int .u64 m, .int .u64 k, .int .i64 mn, .int .i64 mx], .slice A n c, .int .u8 lv] w fun e w' => e = .returned (.bool true) ∧ Below w.heap.size w w' := by
  have hgt : decide ((600 : Int) < (n : Int)) = true := decide_eq_true (by omega)
  have HB := Aside0.mk (below_alloc (below_alloc (below_alloc (Below.refl w.heap.size w) (.cells #[.int .u64 m, .int .u64 k, .int .i64 mn, .int .i64 mx] 24)) (.cells #[.slice A n c] 25)) (.cells #[.int .u8 lv] 5))
  have zb := (blk_cell (blk_below (heap_alloc_new (w.alloc (.cells #[.int .u64 m, .int .u64 k, .int .i64 mn, .int .i64 mx] 24)) (.cells #[.slice A n c] 25)) (below_alloc (Below.refl _ _) (.cells #[.int .u8 lv] 5))) 0).trans rfl
  simp only [World.size_alloc] at zb
  clear hl
  go_enter Try.func4, Try.ntmps4
  go_wp2_with (go_at_call 8; with_reducible refine (awake_calls _).mono ?_; rintro e w9 ⟨rfl, hb⟩; have HB9 := Aside0.mk (below_step HB.out hb); clear hb)
  go_ret
  exact ⟨rfl, HB9.out⟩
theorem pieces_walk (p k mn mx : Int) (a2 : Option Addr) (len2 cap2 : Nat) (z2 : List Int) (lv : Int) (w : World) (wc : WfC p k mn mx) (w2 : IsRow .u8 w a2 len2 cap2 z2) (_ : len2 * 1 ≤ 140737488351232) (w3 : (Lit.int .u8 lv).wf = true) :
    Calls Try.prog 4 #[.agg #[.int .u64 p, .int .u64 k, .int .i64 mn, .int .i64 mx], .slice a2 len2 cap2, .int .u8 lv] w fun e w' => e = .returned (.bool true) ∧ Below w.heap.size w w' := by
  obtain ⟨l, rfl, hr, hb, hc⟩ := w2.opened
  obtain ⟨m, rfl, hu⟩ := of_wf wc.1
  obtain ⟨q, rfl, hk⟩ := of_wf wc.2.1
  obtain ⟨h0, h1⟩ := bytes_wf (l := [lv]) (fun x hx => by rw [List.mem_singleton.mp hx]; exact w3) lv (by simp)
  obtain ⟨n, rfl⟩ : ∃ n : Nat, lv = (n : Int) := ⟨lv.toNat, by omega⟩
  by_cases hl : l.length ≤ 600
  · by_cases ok : OkC m mn mx
    · exact cg_ok m q mn mx ok hk a2 cap2 l n w hb hr hc hl (by omega)
    · exact cg_no m q mn mx hu ok hk a2 cap2 l n w hb hr hc hl (by omega)
  · exact cg_many _ _ mn mx a2 cap2 l.length _ w hl
end Go.Proofs.Ytkaabkoadoomjaa.Law
