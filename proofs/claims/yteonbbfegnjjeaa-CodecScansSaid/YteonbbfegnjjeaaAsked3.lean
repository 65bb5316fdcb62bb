/- The walk of asked: an id; all kinds. -/
import Derived.Test.YteonbbfegnjjeaaAsked2
import Derived.ChangeKeysEq
namespace Go.Proofs.Yteonbbfegnjjeaa.Law
open Go.RowKit Go.Proofs.Yteonbbfegnjjeaa Go.Proofs.YteonbbfegnjjeaaW.PrintWords Go.Proofs.YteonbbfegnjjeaaW.PrintLast Go.Proofs.YteonbbfegnjjeaaW.PrintMore Go.Proofs.Yteonbbfegnjjeaa.D
set_option linter.unusedSimpArgs false
theorem run_part_u8 (w : World) (l : List Int) (j : Nat) (hj : j < l.length) : (part 5 (u8s l).toArray j).run Try.prog w = .ok (.int .u8 (l.getD j 0)) w := by
  have hagg : (isAgg 5).run Try.prog w = .ok false w := by
    unfold isAgg
    rw [Sem.run_bind, run_underlying Try.underlying5 w]
    rfl
  have hget : (u8s l).toArray[j]? = some (.int .u8 (l.getD j 0)) := by
    rw [List.getElem?_toArray]
    unfold u8s
    rw [List.getElem?_map, List.getElem?_eq_getElem hj, List.getD_eq_getElem?_getD, List.getElem?_eq_getElem hj]; rfl
  unfold part
  rw [Sem.run_bind, hagg]
  simp [hget]
theorem eqItems_same (w : World) (d : Nat) (l : List Int) : ∀ is : List Nat, (∀ j ∈ is, j < l.length) → (Op.eqItems (d + 1) 5 1 (u8s l).toArray (u8s l).toArray is).run Try.prog w = .ok true w := by
  intro is
  induction is with
  | nil => intro _; simp [Op.eqItems]
  | cons j is ih =>
    intro h
    have hj := run_part_u8 w l j (h j List.mem_cons_self)
    have he := run_equalIn_int (P := Try.prog) (w := w) d 5 .u8 .u8 (l.getD j 0) (l.getD j 0) Try.underlying5
    have hi := ih (fun k hk => h k (List.mem_cons_of_mem _ hk))
    generalize l.getD j 0 = v at *
    simp [Op.eqItems, Sem.run_bind, hj, he, hi]
theorem run_eq65 {o : Oper} {ev : Operand → Value} (x y : Operand) (ho : o.op = .binOp .eql 65 x y 65) (l : List Int) (hl : l.length = 32) (hx : ev x = .agg (u8s l).toArray) (hy : ev y = .agg (u8s l).toArray) (w : World) : (execOp ev o).run Try.prog w = .ok (.value (.bool true)) w := by
  obtain ⟨i0, hi0⟩ : ∃ i, Try.prog.info? 5 = some i := by
    have h := info5
    cases hq : Try.prog.info? 5 with
    | none => rw [hq] at h; simp at h
    | some i => exact ⟨i, rfl⟩
  have h1 := run_equalIn_array (P := Try.prog) (w := w) 9999 (u8s l).toArray (u8s l).toArray Try.underlying65 hi0
  have hc : Try.prog.cellsOf 5 = 1 := by kernel_rfl
  rw [hc, eqItems_same w 9998 l _ (fun j hj => by have := List.mem_range.mp hj; omega)] at h1
  have hg : (Try.prog.eqGuardType Try.prog.depth 65) = false := by kernel_rfl
  unfold execOp
  simp only [ho, hx, hy, Sem.run_bind, eqGuard, binOp, Op.equal, Op.maxDepth]
  have h2 : (Op.equalIn 10000 65 (Value.agg (u8s l).toArray) (Value.agg (u8s l).toArray)).run Try.prog w = .ok true w := h1
  simp [Sem.run_bind, hg, h2]
theorem run_load_of {P : Program} {o : Oper} {ev : Operand → Value} {w : World} (ty : TypeId) (x : Operand) (ho : o.op = .load ty x) (ad : Addr) (hx : ev x = .pointer (some ad)) {v : Value} (h : (loadVar ty ad).run P w = .ok v w) : (execOp ev o).run P w = .ok (.value v) w := by
  unfold execOp
  simp only [ho, hx, Instr.loadAt, Instr.sureAddr, Sem.run_bind, Sem.run_pure, Result.andThen_ok, h]
set_option maxHeartbeats 4000000 in
set_option maxRecDepth 100000 in
theorem asked_3 (A B : Option Addr) (c d : Nat) (er a b e : Int) (l l' : List Int) (k : Nat) (x_ : List Int) (w0 w : World) (hr : Kd.C (Kd.int .u8) w0 A l.length l) (hc : l.length ≤ c) (hr2 : Kd.C (Kd.int .u8) w0 B l.length l) (hd : l.length ≤ d) (hb : Bytes l) (hm : l.length < 140737488355328) (hw : Below w0.heap.size w0 w) (hl : l.drop k = l') (hp : fixP l er 32 = (x_, k, e)) :
    Calls Try.prog 20 #[.agg #[.slice A l.length c, .int .i64 er], .agg #[.slice B l.length d, .int .i64 er], .agg #[.int .i64 3, .int .i64 a, .int .i64 b]] w fun x w' => ∃ S R, x = .returned (.tuple #[S, R, .bool true]) ∧ Scn w0 S l' e ∧ Scn w0 R l' e ∧ Below w.heap.size w w' := by
  have HS := Aside0.mk (show Scn w0 (.agg #[.slice A l.length c, .int .i64 er]) l er from ⟨A, c, rfl, hr, hc, hb⟩)
  have HT := Aside0.mk (show Scn w0 (.agg #[.slice B l.length d, .int .i64 er]) l er from ⟨B, d, rfl, hr2, hd, hb⟩)
  have HW := Aside0.mk hw
  have HL := Aside0.mk hl
  clear hr hc hr2 hd hb hw hl
  have HP := Aside0.mk hp
  clear hp
  go_enter Try.func20, Try.ntmps20
  go_wp2_with (first | (go_at_call 32; obtain ⟨⟨q1, q2, q3, q4, q5⟩, q6⟩ := five w (.cells #[.slice A l.length c, .int .i64 er] 30) (.cells #[.slice B l.length d, .int .i64 er] 44) (.cells #[.int .i64 3, .int .i64 a, .int .i64 b] 46) (.cells #[.slice none 0 0, .int .i64 0] 30) (.cells #[.slice none 0 0, .int .i64 0] 44); refine (id_calls HS.out (HW.out.trans (q6.mono HW.out.size)) hm).mono ?_; rw [HP.out]; dsimp only; rw [HL.out]; clear q1; rintro x w2 ⟨v', rfl, ⟨A1, c1, rfl, hr1, hc1, hy1⟩, hb⟩; have K2 := Aside0.mk (blk_below q2 hb); have K3 := Aside0.mk (blk_below q3 hb); have K4 := Aside0.mk (blk_below q4 hb); have K5 := Aside0.mk (blk_below q5 hb); have HB := Aside0.mk (below_step q6 hb); have hgx := blk_lt (blk_below q5 hb); have HSa := Aside0.mk (show Scn w0 (.agg #[.slice A1 l'.length c1, .int .i64 e]) l' e from ⟨A1, c1, rfl, hr1, hc1, hy1⟩); clear q2 q3 q4 q5 q6 hr1 hc1 hy1 hb) | ((with_reducible refine gate_dst (N := 23) rfl ?_); refine wpList_alloc_zero rfl 65 rfl (.agg #[.int .u8 0, .int .u8 0, .int .u8 0, .int .u8 0, .int .u8 0, .int .u8 0, .int .u8 0, .int .u8 0, .int .u8 0, .int .u8 0, .int .u8 0, .int .u8 0, .int .u8 0, .int .u8 0, .int .u8 0, .int .u8 0, .int .u8 0, .int .u8 0, .int .u8 0, .int .u8 0, .int .u8 0, .int .u8 0, .int .u8 0, .int .u8 0, .int .u8 0, .int .u8 0, .int .u8 0, .int .u8 0, .int .u8 0, .int .u8 0, .int .u8 0, .int .u8 0]) (by kernel_rfl) ?_; (try dsimp only [Value.cells]); have HZ := Aside0.mk (blk_of_heap (cs := u8s zeros32) (n := 32) (heap_alloc_new w2 (.cells #[.int .u8 0, .int .u8 0, .int .u8 0, .int .u8 0, .int .u8 0, .int .u8 0, .int .u8 0, .int .u8 0, .int .u8 0, .int .u8 0, .int .u8 0, .int .u8 0, .int .u8 0, .int .u8 0, .int .u8 0, .int .u8 0, .int .u8 0, .int .u8 0, .int .u8 0, .int .u8 0, .int .u8 0, .int .u8 0, .int .u8 0, .int .u8 0, .int .u8 0, .int .u8 0, .int .u8 0, .int .u8 0, .int .u8 0, .int .u8 0, .int .u8 0, .int .u8 0] 65)) rfl); have hz_ := blk_lt (heap_alloc_new w2 (.cells #[.int .u8 0, .int .u8 0, .int .u8 0, .int .u8 0, .int .u8 0, .int .u8 0, .int .u8 0, .int .u8 0, .int .u8 0, .int .u8 0, .int .u8 0, .int .u8 0, .int .u8 0, .int .u8 0, .int .u8 0, .int .u8 0, .int .u8 0, .int .u8 0, .int .u8 0, .int .u8 0, .int .u8 0, .int .u8 0, .int .u8 0, .int .u8 0, .int .u8 0, .int .u8 0, .int .u8 0, .int .u8 0, .int .u8 0, .int .u8 0, .int .u8 0, .int .u8 0] 65)); have nK2_ := Aside0.mk (blk_below K2.out (below_alloc (Below.refl _ _) (.cells #[.int .u8 0, .int .u8 0, .int .u8 0, .int .u8 0, .int .u8 0, .int .u8 0, .int .u8 0, .int .u8 0, .int .u8 0, .int .u8 0, .int .u8 0, .int .u8 0, .int .u8 0, .int .u8 0, .int .u8 0, .int .u8 0, .int .u8 0, .int .u8 0, .int .u8 0, .int .u8 0, .int .u8 0, .int .u8 0, .int .u8 0, .int .u8 0, .int .u8 0, .int .u8 0, .int .u8 0, .int .u8 0, .int .u8 0, .int .u8 0, .int .u8 0, .int .u8 0] 65))); have nK3_ := Aside0.mk (blk_below K3.out (below_alloc (Below.refl _ _) (.cells #[.int .u8 0, .int .u8 0, .int .u8 0, .int .u8 0, .int .u8 0, .int .u8 0, .int .u8 0, .int .u8 0, .int .u8 0, .int .u8 0, .int .u8 0, .int .u8 0, .int .u8 0, .int .u8 0, .int .u8 0, .int .u8 0, .int .u8 0, .int .u8 0, .int .u8 0, .int .u8 0, .int .u8 0, .int .u8 0, .int .u8 0, .int .u8 0, .int .u8 0, .int .u8 0, .int .u8 0, .int .u8 0, .int .u8 0, .int .u8 0, .int .u8 0, .int .u8 0] 65))); have nK4_ := Aside0.mk (blk_below K4.out (below_alloc (Below.refl _ _) (.cells #[.int .u8 0, .int .u8 0, .int .u8 0, .int .u8 0, .int .u8 0, .int .u8 0, .int .u8 0, .int .u8 0, .int .u8 0, .int .u8 0, .int .u8 0, .int .u8 0, .int .u8 0, .int .u8 0, .int .u8 0, .int .u8 0, .int .u8 0, .int .u8 0, .int .u8 0, .int .u8 0, .int .u8 0, .int .u8 0, .int .u8 0, .int .u8 0, .int .u8 0, .int .u8 0, .int .u8 0, .int .u8 0, .int .u8 0, .int .u8 0, .int .u8 0, .int .u8 0] 65))); have nK5_ := Aside0.mk (blk_below K5.out (below_alloc (Below.refl _ _) (.cells #[.int .u8 0, .int .u8 0, .int .u8 0, .int .u8 0, .int .u8 0, .int .u8 0, .int .u8 0, .int .u8 0, .int .u8 0, .int .u8 0, .int .u8 0, .int .u8 0, .int .u8 0, .int .u8 0, .int .u8 0, .int .u8 0, .int .u8 0, .int .u8 0, .int .u8 0, .int .u8 0, .int .u8 0, .int .u8 0, .int .u8 0, .int .u8 0, .int .u8 0, .int .u8 0, .int .u8 0, .int .u8 0, .int .u8 0, .int .u8 0, .int .u8 0, .int .u8 0] 65))); clear K2 K3 K4 K5; have K2 := nK2_; have K3 := nK3_; have K4 := nK4_; have K5 := nK5_; clear nK2_ nK3_ nK4_ nK5_; have nB_ := Aside0.mk (below_alloc HB.out (.cells #[.int .u8 0, .int .u8 0, .int .u8 0, .int .u8 0, .int .u8 0, .int .u8 0, .int .u8 0, .int .u8 0, .int .u8 0, .int .u8 0, .int .u8 0, .int .u8 0, .int .u8 0, .int .u8 0, .int .u8 0, .int .u8 0, .int .u8 0, .int .u8 0, .int .u8 0, .int .u8 0, .int .u8 0, .int .u8 0, .int .u8 0, .int .u8 0, .int .u8 0, .int .u8 0, .int .u8 0, .int .u8 0, .int .u8 0, .int .u8 0, .int .u8 0, .int .u8 0] 65)); clear HB; have HB := nB_; clear nB_; generalize w2.alloc (.cells #[.int .u8 0, .int .u8 0, .int .u8 0, .int .u8 0, .int .u8 0, .int .u8 0, .int .u8 0, .int .u8 0, .int .u8 0, .int .u8 0, .int .u8 0, .int .u8 0, .int .u8 0, .int .u8 0, .int .u8 0, .int .u8 0, .int .u8 0, .int .u8 0, .int .u8 0, .int .u8 0, .int .u8 0, .int .u8 0, .int .u8 0, .int .u8 0, .int .u8 0, .int .u8 0, .int .u8 0, .int .u8 0, .int .u8 0, .int .u8 0, .int .u8 0, .int .u8 0] 65) = wa at *; generalize w2.heap.size = gi1 at *) | ((with_reducible refine gate_dst (N := 24) rfl ?_); refine wpList_alloc_zero rfl 30 rfl (.agg #[.slice none 0 0, .int .i64 0]) (by kernel_rfl) ?_; (try dsimp only [Value.cells]); have KX := Aside0.mk (heap_alloc_new wa (.cells #[.slice none 0 0, .int .i64 0] 30)); have hs_ := blk_lt (heap_alloc_new wa (.cells #[.slice none 0 0, .int .i64 0] 30)); have nZ_ := Aside0.mk (HZ.out.below (below_alloc (Below.refl _ _) (.cells #[.slice none 0 0, .int .i64 0] 30)) hz_); have nK2_ := Aside0.mk (blk_below K2.out (below_alloc (Below.refl _ _) (.cells #[.slice none 0 0, .int .i64 0] 30))); have nK3_ := Aside0.mk (blk_below K3.out (below_alloc (Below.refl _ _) (.cells #[.slice none 0 0, .int .i64 0] 30))); have nK4_ := Aside0.mk (blk_below K4.out (below_alloc (Below.refl _ _) (.cells #[.slice none 0 0, .int .i64 0] 30))); have nK5_ := Aside0.mk (blk_below K5.out (below_alloc (Below.refl _ _) (.cells #[.slice none 0 0, .int .i64 0] 30))); clear K2 K3 K4 K5; have K2 := nK2_; have K3 := nK3_; have K4 := nK4_; have K5 := nK5_; clear nK2_ nK3_ nK4_ nK5_; have nB_ := Aside0.mk (below_alloc HB.out (.cells #[.slice none 0 0, .int .i64 0] 30)); clear HB HZ; have HB := nB_; have HZ := nZ_; clear nB_ nZ_; generalize wa.alloc (.cells #[.slice none 0 0, .int .i64 0] 30) = wb at *; generalize wa.heap.size = gs1 at *) | ((with_reducible refine wpList_store_row rfl 65 (.tmp 23) (.tmp 118) rfl gi1 0 rfl (u8s (ids x_)) rfl (by rw [u8s_len, ids_len]; exact info65) (u8s_one _) (fun j hj => ⟨_, HZ.out.cell (0 + j) (by rw [u8s_len, ids_len] at hj; omega)⟩) HZ.out.fz ?_); have HO1 := Only.setRow (g := gi1) (off := 0) (u8s (ids x_)) 0 _ (Only.refl gi1 wb); have hqs := Blk.setRow (n := 32) (off := 0) (u8s (ids x_)) 0 wb _ HZ.out (by rw [u8s_len, ids_len]; omega); have HI1 := Aside0.mk (Blk.congr hqs (C' := fun j => .int .u8 ((ids x_).getD j 0)) (fun j hj => (updRow_all _ (ids x_) (ids_len x_) j hj).symm)); clear hqs; have nK2_ := Aside0.mk (only_heap HO1 (Nat.ne_of_lt (by omega)) K2.out); have nK3_ := Aside0.mk (only_heap HO1 (Nat.ne_of_lt (by omega)) K3.out); have nK4_ := Aside0.mk (only_heap HO1 (Nat.ne_of_lt (by omega)) K4.out); have nK5_ := Aside0.mk (only_heap HO1 (Nat.ne_of_lt (by omega)) K5.out); have nKX_ := Aside0.mk (only_heap HO1 (Nat.ne_of_gt (by omega)) KX.out); have nB_ := Aside0.mk (HB.out.trans (HO1.below (by omega))); clear HB HZ HO1 K2 K3 K4 K5 KX; have K2 := nK2_; have K3 := nK3_; have K4 := nK4_; have K5 := nK5_; have KX := nKX_; have HB := nB_; clear nB_ nK2_ nK3_ nK4_ nK5_ nKX_; generalize setRow wb gi1 0 (u8s (ids x_)) 0 = wc at *; have hz0 := (blk_cell KX.out 0).trans rfl; have hz1 := (blk_cell KX.out 1).trans rfl; have hf0 := blk_frozen KX.out 0; have hf1 := blk_frozen KX.out 1; have HMARK1 := trivial) | ((with_reducible refine gate_dst (N := 121) rfl ?_); clear HMARK1; have nK2_ := Aside0.mk (blk_far (blk_far K2.out (p := ⟨gs1, 0, none⟩) (by show _ ≠ gs1; omega) (.slice A1 l'.length c1)) (p := ⟨gs1, 1, none⟩) (by show _ ≠ gs1; omega) (.int .i64 e)); have nK3_ := Aside0.mk (blk_far (blk_far K3.out (p := ⟨gs1, 0, none⟩) (by show _ ≠ gs1; omega) (.slice A1 l'.length c1)) (p := ⟨gs1, 1, none⟩) (by show _ ≠ gs1; omega) (.int .i64 e)); have nK4_ := Aside0.mk (blk_far (blk_far K4.out (p := ⟨gs1, 0, none⟩) (by show _ ≠ gs1; omega) (.slice A1 l'.length c1)) (p := ⟨gs1, 1, none⟩) (by show _ ≠ gs1; omega) (.int .i64 e)); have nK5_ := Aside0.mk (blk_far (blk_far K5.out (p := ⟨gs1, 0, none⟩) (by show _ ≠ gs1; omega) (.slice A1 l'.length c1)) (p := ⟨gs1, 1, none⟩) (by show _ ≠ gs1; omega) (.int .i64 e)); have nN_ := Aside0.mk (show ((wc.setCell ⟨gs1, 0, none⟩ (.slice A1 l'.length c1)).setCell ⟨gs1, 1, none⟩ (.int .i64 e)).heap[gs1]? = some (.cells #[.slice A1 l'.length c1, .int .i64 e] 30 (0, 0)) from blk_put (blk_put KX.out 0 _ rfl) 1 _ rfl); have mHI1_ := Aside0.mk (blk_other (k := gs1) (blk_other (k := gs1) HI1.out (by omega) 0 (.slice A1 l'.length c1)) (by omega) 1 (.int .i64 e)); have nB_ := Aside0.mk (below_set (j := 1) (v := .int .i64 e) (below_set (j := 0) (v := .slice A1 l'.length c1) HB.out (show w.heap.size ≤ gs1 by omega)) (show w.heap.size ≤ gs1 by omega)); clear HB hz0 hz1 hf0 hf1 KX K2 K3 K4 K5 HI1; have K2 := nK2_; have K3 := nK3_; have K4 := nK4_; have K5 := nK5_; have HI1 := mHI1_; have KX := nN_; have HB := nB_; clear nN_ nB_ nK2_ nK3_ nK4_ nK5_ mHI1_; generalize ((wc.setCell ⟨gs1, 0, none⟩ (.slice A1 l'.length c1)).setCell ⟨gs1, 1, none⟩ (.int .i64 e)) = wd at *; have HIL := Aside0.mk (World.block_lt_of_cell? wd _ (HI1.out.cell 0 (by omega))); have HSL := Aside0.mk (blk_lt KX.out); have u0 := (blk_cell K2.out 0).trans rfl; have u1 := (blk_cell K2.out 1).trans rfl) | (go_at_call 33; refine (rid_calls HT.out (HW.out.trans (HB.out.mono HW.out.size))).mono ?_; rw [HP.out]; dsimp only; rw [HL.out]; rintro x w3 ⟨v', rfl, ⟨A2, c2, rfl, hr2, hc2, hy2⟩, hb⟩; have nK4_ := Aside0.mk (blk_below K4.out hb); have nK5_ := Aside0.mk (blk_below K5.out hb); have nKX_ := Aside0.mk (blk_below KX.out hb); clear K4 K5 KX; have K4 := nK4_; have K5 := nK5_; have KX := nKX_; clear nK4_ nK5_ nKX_; have nB_ := Aside0.mk (below_step HB.out hb); have nI_ := Aside0.mk (HI1.out.below hb HIL.out); have hgy := Nat.lt_of_lt_of_le HSL.out hb.size; clear HB HI1; have HB := nB_; have HI1 := nI_; clear nB_ nI_; have HSb := Aside0.mk (show Scn w0 (.agg #[.slice A2 l'.length c2, .int .i64 e]) l' e from ⟨A2, c2, rfl, hr2, hc2, hy2⟩); clear hr2 hc2 hy2 hb) | ((with_reducible refine gate_dst (N := 25) rfl ?_); refine wpList_alloc_zero rfl 65 rfl (.agg #[.int .u8 0, .int .u8 0, .int .u8 0, .int .u8 0, .int .u8 0, .int .u8 0, .int .u8 0, .int .u8 0, .int .u8 0, .int .u8 0, .int .u8 0, .int .u8 0, .int .u8 0, .int .u8 0, .int .u8 0, .int .u8 0, .int .u8 0, .int .u8 0, .int .u8 0, .int .u8 0, .int .u8 0, .int .u8 0, .int .u8 0, .int .u8 0, .int .u8 0, .int .u8 0, .int .u8 0, .int .u8 0, .int .u8 0, .int .u8 0, .int .u8 0, .int .u8 0]) (by kernel_rfl) ?_; (try dsimp only [Value.cells]); have HZ := Aside0.mk (blk_of_heap (cs := u8s zeros32) (n := 32) (heap_alloc_new w3 (.cells #[.int .u8 0, .int .u8 0, .int .u8 0, .int .u8 0, .int .u8 0, .int .u8 0, .int .u8 0, .int .u8 0, .int .u8 0, .int .u8 0, .int .u8 0, .int .u8 0, .int .u8 0, .int .u8 0, .int .u8 0, .int .u8 0, .int .u8 0, .int .u8 0, .int .u8 0, .int .u8 0, .int .u8 0, .int .u8 0, .int .u8 0, .int .u8 0, .int .u8 0, .int .u8 0, .int .u8 0, .int .u8 0, .int .u8 0, .int .u8 0, .int .u8 0, .int .u8 0] 65)) rfl); have hz_ := blk_lt (heap_alloc_new w3 (.cells #[.int .u8 0, .int .u8 0, .int .u8 0, .int .u8 0, .int .u8 0, .int .u8 0, .int .u8 0, .int .u8 0, .int .u8 0, .int .u8 0, .int .u8 0, .int .u8 0, .int .u8 0, .int .u8 0, .int .u8 0, .int .u8 0, .int .u8 0, .int .u8 0, .int .u8 0, .int .u8 0, .int .u8 0, .int .u8 0, .int .u8 0, .int .u8 0, .int .u8 0, .int .u8 0, .int .u8 0, .int .u8 0, .int .u8 0, .int .u8 0, .int .u8 0, .int .u8 0] 65)); have nK4_ := Aside0.mk (blk_below K4.out (below_alloc (Below.refl _ _) (.cells #[.int .u8 0, .int .u8 0, .int .u8 0, .int .u8 0, .int .u8 0, .int .u8 0, .int .u8 0, .int .u8 0, .int .u8 0, .int .u8 0, .int .u8 0, .int .u8 0, .int .u8 0, .int .u8 0, .int .u8 0, .int .u8 0, .int .u8 0, .int .u8 0, .int .u8 0, .int .u8 0, .int .u8 0, .int .u8 0, .int .u8 0, .int .u8 0, .int .u8 0, .int .u8 0, .int .u8 0, .int .u8 0, .int .u8 0, .int .u8 0, .int .u8 0, .int .u8 0] 65))); have nK5_ := Aside0.mk (blk_below K5.out (below_alloc (Below.refl _ _) (.cells #[.int .u8 0, .int .u8 0, .int .u8 0, .int .u8 0, .int .u8 0, .int .u8 0, .int .u8 0, .int .u8 0, .int .u8 0, .int .u8 0, .int .u8 0, .int .u8 0, .int .u8 0, .int .u8 0, .int .u8 0, .int .u8 0, .int .u8 0, .int .u8 0, .int .u8 0, .int .u8 0, .int .u8 0, .int .u8 0, .int .u8 0, .int .u8 0, .int .u8 0, .int .u8 0, .int .u8 0, .int .u8 0, .int .u8 0, .int .u8 0, .int .u8 0, .int .u8 0] 65))); have nKX_ := Aside0.mk (blk_below KX.out (below_alloc (Below.refl _ _) (.cells #[.int .u8 0, .int .u8 0, .int .u8 0, .int .u8 0, .int .u8 0, .int .u8 0, .int .u8 0, .int .u8 0, .int .u8 0, .int .u8 0, .int .u8 0, .int .u8 0, .int .u8 0, .int .u8 0, .int .u8 0, .int .u8 0, .int .u8 0, .int .u8 0, .int .u8 0, .int .u8 0, .int .u8 0, .int .u8 0, .int .u8 0, .int .u8 0, .int .u8 0, .int .u8 0, .int .u8 0, .int .u8 0, .int .u8 0, .int .u8 0, .int .u8 0, .int .u8 0] 65))); clear K4 K5 KX; have K4 := nK4_; have K5 := nK5_; have KX := nKX_; clear nK4_ nK5_ nKX_; have nI_ := Aside0.mk (HI1.out.below (below_alloc (Below.refl _ _) (.cells #[.int .u8 0, .int .u8 0, .int .u8 0, .int .u8 0, .int .u8 0, .int .u8 0, .int .u8 0, .int .u8 0, .int .u8 0, .int .u8 0, .int .u8 0, .int .u8 0, .int .u8 0, .int .u8 0, .int .u8 0, .int .u8 0, .int .u8 0, .int .u8 0, .int .u8 0, .int .u8 0, .int .u8 0, .int .u8 0, .int .u8 0, .int .u8 0, .int .u8 0, .int .u8 0, .int .u8 0, .int .u8 0, .int .u8 0, .int .u8 0, .int .u8 0, .int .u8 0] 65)) (by omega)); clear HI1; have HI1 := nI_; clear nI_; have nB_ := Aside0.mk (below_alloc HB.out (.cells #[.int .u8 0, .int .u8 0, .int .u8 0, .int .u8 0, .int .u8 0, .int .u8 0, .int .u8 0, .int .u8 0, .int .u8 0, .int .u8 0, .int .u8 0, .int .u8 0, .int .u8 0, .int .u8 0, .int .u8 0, .int .u8 0, .int .u8 0, .int .u8 0, .int .u8 0, .int .u8 0, .int .u8 0, .int .u8 0, .int .u8 0, .int .u8 0, .int .u8 0, .int .u8 0, .int .u8 0, .int .u8 0, .int .u8 0, .int .u8 0, .int .u8 0, .int .u8 0] 65)); clear HB; have HB := nB_; clear nB_; generalize w3.alloc (.cells #[.int .u8 0, .int .u8 0, .int .u8 0, .int .u8 0, .int .u8 0, .int .u8 0, .int .u8 0, .int .u8 0, .int .u8 0, .int .u8 0, .int .u8 0, .int .u8 0, .int .u8 0, .int .u8 0, .int .u8 0, .int .u8 0, .int .u8 0, .int .u8 0, .int .u8 0, .int .u8 0, .int .u8 0, .int .u8 0, .int .u8 0, .int .u8 0, .int .u8 0, .int .u8 0, .int .u8 0, .int .u8 0, .int .u8 0, .int .u8 0, .int .u8 0, .int .u8 0] 65) = we at *; generalize w3.heap.size = gi2 at *) | ((with_reducible refine gate_dst (N := 26) rfl ?_); refine wpList_alloc_zero rfl 44 rfl (.agg #[.slice none 0 0, .int .i64 0]) (by kernel_rfl) ?_; (try dsimp only [Value.cells]); have KY := Aside0.mk (heap_alloc_new we (.cells #[.slice none 0 0, .int .i64 0] 44)); have hs_ := blk_lt (heap_alloc_new we (.cells #[.slice none 0 0, .int .i64 0] 44)); have nZ_ := Aside0.mk (HZ.out.below (below_alloc (Below.refl _ _) (.cells #[.slice none 0 0, .int .i64 0] 44)) hz_); have nK4_ := Aside0.mk (blk_below K4.out (below_alloc (Below.refl _ _) (.cells #[.slice none 0 0, .int .i64 0] 44))); have nK5_ := Aside0.mk (blk_below K5.out (below_alloc (Below.refl _ _) (.cells #[.slice none 0 0, .int .i64 0] 44))); have nKX_ := Aside0.mk (blk_below KX.out (below_alloc (Below.refl _ _) (.cells #[.slice none 0 0, .int .i64 0] 44))); clear K4 K5 KX; have K4 := nK4_; have K5 := nK5_; have KX := nKX_; clear nK4_ nK5_ nKX_; have nI_ := Aside0.mk (HI1.out.below (below_alloc (Below.refl _ _) (.cells #[.slice none 0 0, .int .i64 0] 44)) (by omega)); clear HI1; have HI1 := nI_; clear nI_; have nB_ := Aside0.mk (below_alloc HB.out (.cells #[.slice none 0 0, .int .i64 0] 44)); clear HB HZ; have HB := nB_; have HZ := nZ_; clear nB_ nZ_; generalize we.alloc (.cells #[.slice none 0 0, .int .i64 0] 44) = wf at *; generalize we.heap.size = gs2 at *) | ((with_reducible refine wpList_store_row rfl 65 (.tmp 25) (.tmp 123) rfl gi2 0 rfl (u8s (ids x_)) rfl (by rw [u8s_len, ids_len]; exact info65) (u8s_one _) (fun j hj => ⟨_, HZ.out.cell (0 + j) (by rw [u8s_len, ids_len] at hj; omega)⟩) HZ.out.fz ?_); have HO1 := Only.setRow (g := gi2) (off := 0) (u8s (ids x_)) 0 _ (Only.refl gi2 wf); have hqs := Blk.setRow (n := 32) (off := 0) (u8s (ids x_)) 0 wf _ HZ.out (by rw [u8s_len, ids_len]; omega); have HI2 := Aside0.mk (Blk.congr hqs (C' := fun j => .int .u8 ((ids x_).getD j 0)) (fun j hj => (updRow_all _ (ids x_) (ids_len x_) j hj).symm)); clear hqs; have nK4_ := Aside0.mk (only_heap HO1 (Nat.ne_of_lt (by omega)) K4.out); have nK5_ := Aside0.mk (only_heap HO1 (Nat.ne_of_lt (by omega)) K5.out); have nKX_ := Aside0.mk (only_heap HO1 (Nat.ne_of_lt (by omega)) KX.out); have nKY_ := Aside0.mk (only_heap HO1 (Nat.ne_of_gt (by omega)) KY.out); have nI_ := Aside0.mk (HO1.blk HI1.out (by omega)); clear HI1; have HI1 := nI_; clear nI_; have nB_ := Aside0.mk (HB.out.trans (HO1.below (by omega))); clear HB HZ HO1 K4 K5 KX KY; have K4 := nK4_; have K5 := nK5_; have KX := nKX_; have KY := nKY_; have HB := nB_; clear nB_ nK4_ nK5_ nKX_ nKY_; generalize setRow wf gi2 0 (u8s (ids x_)) 0 = wg at *; have hz0 := (blk_cell KY.out 0).trans rfl; have hz1 := (blk_cell KY.out 1).trans rfl; have hf0 := blk_frozen KY.out 0; have hf1 := blk_frozen KY.out 1; have HMARK2 := trivial))
  (have nK4_ := Aside0.mk (blk_far (blk_far K4.out (p := ⟨gs2, 0, none⟩) (by show _ ≠ gs2; omega) (.slice A2 l'.length c2)) (p := ⟨gs2, 1, none⟩) (by show _ ≠ gs2; omega) (.int .i64 e)); have nK5_ := Aside0.mk (blk_far (blk_far K5.out (p := ⟨gs2, 0, none⟩) (by show _ ≠ gs2; omega) (.slice A2 l'.length c2)) (p := ⟨gs2, 1, none⟩) (by show _ ≠ gs2; omega) (.int .i64 e)); have nKX_ := Aside0.mk (blk_far (blk_far KX.out (p := ⟨gs2, 0, none⟩) (by show _ ≠ gs2; omega) (.slice A2 l'.length c2)) (p := ⟨gs2, 1, none⟩) (by show _ ≠ gs2; omega) (.int .i64 e)); have nN_ := Aside0.mk (show ((wg.setCell ⟨gs2, 0, none⟩ (.slice A2 l'.length c2)).setCell ⟨gs2, 1, none⟩ (.int .i64 e)).heap[gs2]? = some (.cells #[.slice A2 l'.length c2, .int .i64 e] 44 (0, 0)) from blk_put (blk_put KY.out 0 _ rfl) 1 _ rfl); have mHI1_ := Aside0.mk (blk_other (k := gs2) (blk_other (k := gs2) HI1.out (by omega) 0 (.slice A2 l'.length c2)) (by omega) 1 (.int .i64 e)); have mHI2_ := Aside0.mk (blk_other (k := gs2) (blk_other (k := gs2) HI2.out (by omega) 0 (.slice A2 l'.length c2)) (by omega) 1 (.int .i64 e)); have nB_ := Aside0.mk (below_set (j := 1) (v := .int .i64 e) (below_set (j := 0) (v := .slice A2 l'.length c2) HB.out (show w.heap.size ≤ gs2 by omega)) (show w.heap.size ≤ gs2 by omega)); clear HB hz0 hz1 hf0 hf1 KY K4 K5 KX HI1 HI2; have K4 := nK4_; have K5 := nK5_; have KX := nKX_; have HI1 := mHI1_; have HI2 := mHI2_; have KY := nN_; have HB := nB_; clear nN_ nB_ nK4_ nK5_ nKX_ mHI1_ mHI2_; generalize ((wg.setCell ⟨gs2, 0, none⟩ (.slice A2 l'.length c2)).setCell ⟨gs2, 1, none⟩ (.int .i64 e)) = wh at *)
  refine start_ (n := 8) (S := fun w' => w'.cell? ⟨gs1, 0, none⟩ = some (.slice A1 l'.length c1) ∧ w'.cell? ⟨gs1, 1, none⟩ = some (.int .i64 e) ∧ w'.cell? ⟨gs2, 0, none⟩ = some (.slice A2 l'.length c2) ∧ w'.cell? ⟨gs2, 1, none⟩ = some (.int .i64 e) ∧ (loadVar 65 ⟨gi1, 0, none⟩).run Try.prog w' = .ok (.agg (u8s (ids x_)).toArray) w' ∧ (loadVar 65 ⟨gi2, 0, none⟩).run Try.prog w' = .ok (.agg (u8s (ids x_)).toArray) w') (ds := []) #[false, false, false, false, false, false, false, false] (by kernel_rfl) rfl rfl ⟨(blk_cell KX.out 0).trans rfl, (blk_cell KX.out 1).trans rfl, (blk_cell KY.out 0).trans rfl, (blk_cell KY.out 1).trans rfl, blk_read (w := wh.drew) (C := fun j => .int .u8 ((ids x_).getD j 0)) ⟨HI1.out.cell, HI1.out.fz⟩ (ids_len x_) (fun _ _ => rfl), blk_read (w := wh.drew) (C := fun j => .int .u8 ((ids x_).getD j 0)) ⟨HI2.out.cell, HI2.out.fz⟩ (ids_len x_) (fun _ _ => rfl)⟩ (fun hHeld => ?_)
  refine take_ (i := 0) (N := some 125) (v := ?_) (a' := ?_) #[true, false, false, false, false, false, false, false] rfl rfl (by kernel_rfl) (fun _ _ _ h => h) (Or.inl ⟨by rfl, ?_⟩) hHeld ?_ ?_
  rotate_left
  · rintro w' ⟨s0, s1, s2, s3, s4, s5⟩
    go_simp
    with_reducible rfl
  rotate_left
  · simp only [Act.put, List.setIfInBounds_toArray, List.set_cons_zero, List.set_cons_succ, i64_w, i32_w]
    rfl
  refine take_ (i := 1) (N := some 126) (v := ?_) (a' := ?_) #[true, true, false, false, false, false, false, false] rfl rfl (by kernel_rfl) (fun _ _ _ h => h) (Or.inl ⟨by rfl, ?_⟩) hHeld ?_ ?_
  rotate_left
  · rintro w' ⟨s0, s1, s2, s3, s4, s5⟩
    go_simp
    with_reducible rfl
  rotate_left
  · simp only [Act.put, List.setIfInBounds_toArray, List.set_cons_zero, List.set_cons_succ, i64_w, i32_w]
    rfl
  refine take_ (i := 2) (N := some 127) (v := ?_) (a' := ?_) #[true, true, true, false, false, false, false, false] rfl rfl (by kernel_rfl) (fun _ _ _ h => h) (Or.inl ⟨by rfl, ?_⟩) hHeld ?_ ?_
  rotate_left
  · rintro w' ⟨s0, s1, s2, s3, s4, s5⟩
    refine Eq.trans (run_load_of (v := .agg (u8s (ids x_)).toArray) 65 (.tmp 23) ?_ ⟨gi1, 0, none⟩ ?_ s4) ?_
    · rfl
    · rfl
    · with_reducible rfl
  rotate_left
  · simp only [Act.put, List.setIfInBounds_toArray, List.set_cons_zero, List.set_cons_succ, i64_w, i32_w]
    rfl
  refine take_ (i := 3) (N := some 128) (v := ?_) (a' := ?_) #[true, true, true, true, false, false, false, false] rfl rfl (by kernel_rfl) (fun _ _ _ h => h) (Or.inl ⟨by rfl, ?_⟩) hHeld ?_ ?_
  rotate_left
  · rintro w' ⟨s0, s1, s2, s3, s4, s5⟩
    refine Eq.trans (run_load_of (v := .agg (u8s (ids x_)).toArray) 65 (.tmp 25) ?_ ⟨gi2, 0, none⟩ ?_ s5) ?_
    · rfl
    · rfl
    · with_reducible rfl
  rotate_left
  · simp only [Act.put, List.setIfInBounds_toArray, List.set_cons_zero, List.set_cons_succ, i64_w, i32_w]
    rfl
  refine pure_ (i := 4) (N := some 129) (v := ?_) (a' := ?_) #[true, true, true, true, true, false, false, false] rfl rfl (by kernel_rfl) (fun _ _ _ h => h) (Or.inl ⟨by rfl, ?_⟩) ?_ ?_
  rotate_left
  · intro w'
    refine Eq.trans (run_eq65 (.tmp 127) (.tmp 128) ?_ (ids x_) (ids_len x_) ?_ ?_ w') ?_
    · rfl
    · rfl
    · rfl
    · with_reducible rfl
  rotate_left
  · simp only [Act.put, List.setIfInBounds_toArray, List.set_cons_zero, List.set_cons_succ, i64_w, i32_w]
    rfl
  refine one_ (i := 5) (N := none) #[true, true, true, true, true, true, false, false] rfl rfl (by kernel_rfl) (by decide) (fun K hK => ?_)
  have r0 := (blk_cell K4.out 0).trans rfl
  have r1 := (blk_cell K4.out 1).trans rfl
  have r2 := blk_frozen K4.out 0
  have r3 := blk_frozen K4.out 1
  refine skip_ (w1 := ((wh.drew.setCell ⟨w.heap.size + 1 + 1 + 1, 0, none⟩ (.slice A1 l'.length c1)).setCell ⟨w.heap.size + 1 + 1 + 1, 1, none⟩ (.int .i64 e))) (by rfl) rfl ?_ ?_
  · go_simp
    try rfl
  have n4_ := Aside0.mk (show ((wh.drew.setCell ⟨w.heap.size + 1 + 1 + 1, 0, none⟩ (.slice A1 l'.length c1)).setCell ⟨w.heap.size + 1 + 1 + 1, 1, none⟩ (.int .i64 e)).heap[w.heap.size + 1 + 1 + 1]? = some (.cells #[.slice A1 l'.length c1, .int .i64 e] 30 (0, 0)) from blk_put (blk_put (w := wh.drew) K4.out 0 _ rfl) 1 _ rfl)
  have n5_ := Aside0.mk (show ((wh.drew.setCell ⟨w.heap.size + 1 + 1 + 1, 0, none⟩ (.slice A1 l'.length c1)).setCell ⟨w.heap.size + 1 + 1 + 1, 1, none⟩ (.int .i64 e)).heap[w.heap.size + 1 + 1 + 1 + 1]? = some (.cells #[.slice none 0 0, .int .i64 0] 44 (0, 0)) from (blk_far (blk_far K5.out (p := ⟨w.heap.size + 1 + 1 + 1, 0, none⟩) (by show _ ≠ (w.heap.size + 1 + 1 + 1); omega) (.slice A1 l'.length c1)) (p := ⟨w.heap.size + 1 + 1 + 1, 1, none⟩) (by show _ ≠ (w.heap.size + 1 + 1 + 1); omega) (.int .i64 e)))
  have nX_ := Aside0.mk (show ((wh.drew.setCell ⟨w.heap.size + 1 + 1 + 1, 0, none⟩ (.slice A1 l'.length c1)).setCell ⟨w.heap.size + 1 + 1 + 1, 1, none⟩ (.int .i64 e)).heap[gs1]? = some (.cells #[.slice A1 l'.length c1, .int .i64 e] 30 (0, 0)) from (blk_far (blk_far KX.out (p := ⟨w.heap.size + 1 + 1 + 1, 0, none⟩) (by show _ ≠ (w.heap.size + 1 + 1 + 1); omega) (.slice A1 l'.length c1)) (p := ⟨w.heap.size + 1 + 1 + 1, 1, none⟩) (by show _ ≠ (w.heap.size + 1 + 1 + 1); omega) (.int .i64 e)))
  have nY_ := Aside0.mk (show ((wh.drew.setCell ⟨w.heap.size + 1 + 1 + 1, 0, none⟩ (.slice A1 l'.length c1)).setCell ⟨w.heap.size + 1 + 1 + 1, 1, none⟩ (.int .i64 e)).heap[gs2]? = some (.cells #[.slice A2 l'.length c2, .int .i64 e] 44 (0, 0)) from (blk_far (blk_far KY.out (p := ⟨w.heap.size + 1 + 1 + 1, 0, none⟩) (by show _ ≠ (w.heap.size + 1 + 1 + 1); omega) (.slice A1 l'.length c1)) (p := ⟨w.heap.size + 1 + 1 + 1, 1, none⟩) (by show _ ≠ (w.heap.size + 1 + 1 + 1); omega) (.int .i64 e)))
  have nB_ := Aside0.mk (below_set (j := 1) (v := .int .i64 e) (below_set (j := 0) (v := .slice A1 l'.length c1) (below_drew1 HB.out) (show w.heap.size ≤ (w.heap.size + 1 + 1 + 1) by omega)) (show w.heap.size ≤ (w.heap.size + 1 + 1 + 1) by omega))
  have nk_ := Aside0.mk (blk_other (k := w.heap.size + 1 + 1 + 1) (blk_other (k := w.heap.size + 1 + 1 + 1) (show Blk wh.drew gi1 32 (fun j => .int .u8 ((ids x_).getD j 0)) from ⟨HI1.out.cell, HI1.out.fz⟩) (by omega) 0 (.slice A1 l'.length c1)) (by omega) 1 (.int .i64 e))
  clear HI1
  have HI1 := nk_
  clear nk_
  have nk_ := Aside0.mk (blk_other (k := w.heap.size + 1 + 1 + 1) (blk_other (k := w.heap.size + 1 + 1 + 1) (show Blk wh.drew gi2 32 (fun j => .int .u8 ((ids x_).getD j 0)) from ⟨HI2.out.cell, HI2.out.fz⟩) (by omega) 0 (.slice A1 l'.length c1)) (by omega) 1 (.int .i64 e))
  clear HI2
  have HI2 := nk_
  clear nk_
  clear K4 K5 KX KY HB r0 r1 r2 r3
  have K4 := n4_
  have K5 := n5_
  have KX := nX_
  have KY := nY_
  have HB := nB_
  clear n4_ n5_ nX_ nY_ nB_
  generalize ((wh.drew.setCell ⟨w.heap.size + 1 + 1 + 1, 0, none⟩ (.slice A1 l'.length c1)).setCell ⟨w.heap.size + 1 + 1 + 1, 1, none⟩ (.int .i64 e)) = wr at *
  refine hK.out _ _ ⟨(blk_cell KX.out 0).trans rfl, (blk_cell KX.out 1).trans rfl, (blk_cell KY.out 0).trans rfl, (blk_cell KY.out 1).trans rfl, blk_read (w := wr) (C := fun j => .int .u8 ((ids x_).getD j 0)) ⟨HI1.out.cell, HI1.out.fz⟩ (ids_len x_) (fun _ _ => rfl), blk_read (w := wr) (C := fun j => .int .u8 ((ids x_).getD j 0)) ⟨HI2.out.cell, HI2.out.fz⟩ (ids_len x_) (fun _ _ => rfl)⟩ (fun hHeld => ?_)
  clear hK K
  refine one_ (i := 6) (N := none) #[true, true, true, true, true, true, true, false] rfl rfl (by kernel_rfl) (by decide) (fun K hK => ?_)
  have r0 := (blk_cell K5.out 0).trans rfl
  have r1 := (blk_cell K5.out 1).trans rfl
  have r2 := blk_frozen K5.out 0
  have r3 := blk_frozen K5.out 1
  refine skip_ (w1 := ((wr.setCell ⟨w.heap.size + 1 + 1 + 1 + 1, 0, none⟩ (.slice A2 l'.length c2)).setCell ⟨w.heap.size + 1 + 1 + 1 + 1, 1, none⟩ (.int .i64 e))) (by rfl) rfl ?_ ?_
  · go_simp
    try rfl
  have n4_ := Aside0.mk (show ((wr.setCell ⟨w.heap.size + 1 + 1 + 1 + 1, 0, none⟩ (.slice A2 l'.length c2)).setCell ⟨w.heap.size + 1 + 1 + 1 + 1, 1, none⟩ (.int .i64 e)).heap[w.heap.size + 1 + 1 + 1 + 1]? = some (.cells #[.slice A2 l'.length c2, .int .i64 e] 44 (0, 0)) from blk_put (blk_put (w := wr) K5.out 0 _ rfl) 1 _ rfl)
  have n5_ := Aside0.mk (show ((wr.setCell ⟨w.heap.size + 1 + 1 + 1 + 1, 0, none⟩ (.slice A2 l'.length c2)).setCell ⟨w.heap.size + 1 + 1 + 1 + 1, 1, none⟩ (.int .i64 e)).heap[w.heap.size + 1 + 1 + 1]? = some (.cells #[.slice A1 l'.length c1, .int .i64 e] 30 (0, 0)) from (blk_far (blk_far K4.out (p := ⟨w.heap.size + 1 + 1 + 1 + 1, 0, none⟩) (by show _ ≠ (w.heap.size + 1 + 1 + 1 + 1); omega) (.slice A2 l'.length c2)) (p := ⟨w.heap.size + 1 + 1 + 1 + 1, 1, none⟩) (by show _ ≠ (w.heap.size + 1 + 1 + 1 + 1); omega) (.int .i64 e)))
  have nX_ := Aside0.mk (show ((wr.setCell ⟨w.heap.size + 1 + 1 + 1 + 1, 0, none⟩ (.slice A2 l'.length c2)).setCell ⟨w.heap.size + 1 + 1 + 1 + 1, 1, none⟩ (.int .i64 e)).heap[gs1]? = some (.cells #[.slice A1 l'.length c1, .int .i64 e] 30 (0, 0)) from (blk_far (blk_far KX.out (p := ⟨w.heap.size + 1 + 1 + 1 + 1, 0, none⟩) (by show _ ≠ (w.heap.size + 1 + 1 + 1 + 1); omega) (.slice A2 l'.length c2)) (p := ⟨w.heap.size + 1 + 1 + 1 + 1, 1, none⟩) (by show _ ≠ (w.heap.size + 1 + 1 + 1 + 1); omega) (.int .i64 e)))
  have nY_ := Aside0.mk (show ((wr.setCell ⟨w.heap.size + 1 + 1 + 1 + 1, 0, none⟩ (.slice A2 l'.length c2)).setCell ⟨w.heap.size + 1 + 1 + 1 + 1, 1, none⟩ (.int .i64 e)).heap[gs2]? = some (.cells #[.slice A2 l'.length c2, .int .i64 e] 44 (0, 0)) from (blk_far (blk_far KY.out (p := ⟨w.heap.size + 1 + 1 + 1 + 1, 0, none⟩) (by show _ ≠ (w.heap.size + 1 + 1 + 1 + 1); omega) (.slice A2 l'.length c2)) (p := ⟨w.heap.size + 1 + 1 + 1 + 1, 1, none⟩) (by show _ ≠ (w.heap.size + 1 + 1 + 1 + 1); omega) (.int .i64 e)))
  have nB_ := Aside0.mk (below_set (j := 1) (v := .int .i64 e) (below_set (j := 0) (v := .slice A2 l'.length c2) HB.out (show w.heap.size ≤ (w.heap.size + 1 + 1 + 1 + 1) by omega)) (show w.heap.size ≤ (w.heap.size + 1 + 1 + 1 + 1) by omega))
  have nk_ := Aside0.mk (blk_other (k := w.heap.size + 1 + 1 + 1 + 1) (blk_other (k := w.heap.size + 1 + 1 + 1 + 1) (show Blk wr gi1 32 (fun j => .int .u8 ((ids x_).getD j 0)) from ⟨HI1.out.cell, HI1.out.fz⟩) (by omega) 0 (.slice A2 l'.length c2)) (by omega) 1 (.int .i64 e))
  clear HI1
  have HI1 := nk_
  clear nk_
  have nk_ := Aside0.mk (blk_other (k := w.heap.size + 1 + 1 + 1 + 1) (blk_other (k := w.heap.size + 1 + 1 + 1 + 1) (show Blk wr gi2 32 (fun j => .int .u8 ((ids x_).getD j 0)) from ⟨HI2.out.cell, HI2.out.fz⟩) (by omega) 0 (.slice A2 l'.length c2)) (by omega) 1 (.int .i64 e))
  clear HI2
  have HI2 := nk_
  clear nk_
  clear K4 K5 KX KY HB r0 r1 r2 r3
  have K5 := n4_
  have K4 := n5_
  have KX := nX_
  have KY := nY_
  have HB := nB_
  clear n4_ n5_ nX_ nY_ nB_
  generalize ((wr.setCell ⟨w.heap.size + 1 + 1 + 1 + 1, 0, none⟩ (.slice A2 l'.length c2)).setCell ⟨w.heap.size + 1 + 1 + 1 + 1, 1, none⟩ (.int .i64 e)) = ws at *
  refine hK.out _ _ ⟨(blk_cell KX.out 0).trans rfl, (blk_cell KX.out 1).trans rfl, (blk_cell KY.out 0).trans rfl, (blk_cell KY.out 1).trans rfl, blk_read (w := ws) (C := fun j => .int .u8 ((ids x_).getD j 0)) ⟨HI1.out.cell, HI1.out.fz⟩ (ids_len x_) (fun _ _ => rfl), blk_read (w := ws) (C := fun j => .int .u8 ((ids x_).getD j 0)) ⟨HI2.out.cell, HI2.out.fz⟩ (ids_len x_) (fun _ _ => rfl)⟩ (fun hHeld => ?_)
  clear hK K
  refine pure_ (i := 7) (N := some 8) (v := ?_) (a' := ?_) #[true, true, true, true, true, true, true, true] rfl rfl (by kernel_rfl) (fun _ _ _ h => h) (Or.inl ⟨by rfl, ?_⟩) ?_ ?_
  rotate_left
  · intro w'
    go_simp
    with_reducible rfl
  rotate_left
  · simp only [Act.put, List.setIfInBounds_toArray, List.set_cons_zero, List.set_cons_succ, i64_w, i32_w]
    rfl
  refine done_ (by kernel_rfl) ?_
  go_wp2
  exact bodyPost_ret (results_cct rfl _ _ (w.heap.size + 1 + 1 + 1) (w.heap.size + 1 + 1 + 1 + 1) _ _ rfl rfl (run_loadVar_row _ _ 30 _ _ (0, 0) _ K4.out Try.underlying30 rfl (by kernel_rfl)) (run_loadVar_row _ _ 44 _ _ (0, 0) _ K5.out Try.underlying44 rfl (by kernel_rfl))) rfl ⟨_, _, rfl, HSa.out, HSb.out, HB.out⟩
/-- what a question takes, and the error behind it -/
def askP (l : List Int) (er kind a b : Int) : Nat × Int :=
  if kind = 0 then (numP l er a b).2 else if kind = 1 then (textP l er a).2 else if kind = 2 then (fixP l er a).2 else if kind = 3 then (fixP l er 32).2 else if kind = 4 then (0, if er = 0 then a else er) else (0, er)
theorem asked_calls {w0 w : World} {S R : Value} {l : List Int} {er : Int} (h1 : Scn w0 S l er) (h2 : Scn w0 R l er) (hm : l.length < 140737488355328) (hw : Below w0.heap.size w0 w) (kind a b : Int) :
    Calls Try.prog 20 #[S, R, .agg #[.int .i64 kind, .int .i64 a, .int .i64 b]] w fun x w' => ∃ S' R', x = .returned (.tuple #[S', R', .bool true]) ∧ Scn w0 S' (l.drop (askP l er kind a b).1) (askP l er kind a b).2 ∧ Scn w0 R' (l.drop (askP l er kind a b).1) (askP l er kind a b).2 ∧ Below w.heap.size w w' := by
  obtain ⟨A, c, rfl, hr, hc, hb⟩ := h1
  obtain ⟨B, d, rfl, hr2, hd, _⟩ := h2
  unfold askP
  by_cases k0 : kind = 0
  · subst k0
    rw [if_pos rfl]
    exact asked_0 A B c d er a b _ _ l _ _ w0 w hr hc hr2 hd hb hm hw rfl rfl
  rw [if_neg k0]
  by_cases k1 : kind = 1
  · subst k1
    rw [if_pos rfl]
    exact asked_1 A B c d er a b _ l _ _ _ w0 w hr hc hr2 hd hb hm hw rfl rfl
  rw [if_neg k1]
  by_cases k2 : kind = 2
  · subst k2
    rw [if_pos rfl]
    exact asked_2 A B c d er a b _ l _ _ _ w0 w hr hc hr2 hd hb hm hw rfl rfl
  rw [if_neg k2]
  by_cases k3 : kind = 3
  · subst k3
    rw [if_pos rfl]
    exact asked_3 A B c d er a b _ l _ _ _ w0 w hr hc hr2 hd hb hm hw rfl rfl
  rw [if_neg k3]
  by_cases k4 : kind = 4
  · subst k4
    rw [if_pos rfl]
    by_cases he : er = 0
    · subst he
      rw [if_pos rfl]
      exact asked_4 A B c d a b l _ w0 w hr hc hr2 hd hb hm hw rfl
    · rw [if_neg he]
      exact asked_4n A B c d er a b l _ w0 w hr hc hr2 hd hb hm hw rfl he
  rw [if_neg k4]
  exact asked_5 A B c d er a b kind l _ w0 w hr hc hr2 hd hb hm hw rfl k0 k1 k2 k3 k4
end Go.Proofs.Yteonbbfegnjjeaa.Law
