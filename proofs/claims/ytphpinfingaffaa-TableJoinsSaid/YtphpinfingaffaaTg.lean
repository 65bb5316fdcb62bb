/- TableGathers: the law's walk. -/
import Derived.Test.YtphpinfingaffaaCl
namespace Go.Proofs.Ytphpinfingaffaa.Law
open Go.RowKit Go.Proofs.Ytphpinfingaffaa Go.Proofs.YtphpinfingaffaaW.PrintWords Go.Proofs.YtphpinfingaffaaW.PrintLast Go.Proofs.YtphpinfingaffaaW.PrintMore Go.Proofs.Ytphpinfingaffaa.D Go.Proofs.Ytphpinfingaffaa.Fl
set_option linter.unusedSimpArgs false
set_option linter.unusedVariables false
/-- what the law wants of the parts, from bytes on; the error -/
def wantG (ps : List Pc) (bad : Int) (sh : Bool) : List P42 → List Int → List Int × Int
  | [], acc => (acc, 0)
  | y :: l, acc => if y.i = bad then (acc, if sh then 5 else 11) else wantG ps bad sh l (acc ++ ((pieceB y.i.toNat (rdPc ps y.i.toNat).n.toNat).take (y.b + y.n).toNat).drop y.b.toNat)
/-- what the j-th part gives -/
def resG (ps : List Pc) (bad : Int) (sh : Bool) (parts : List P42) (j : Nat) : List Int × Int := resF bad sh (rd_T42 parts (j : Int)).i.toNat (rdPc ps (rd_T42 parts (j : Int)).i.toNat).n.toNat
def PtOk (ps : List Pc) (y : P42) : Prop := 0 ≤ y.i ∧ 1 ≤ (rdPc ps y.i.toNat).n
theorem gath_want (ps : List Pc) (bad : Int) (sh : Bool) (res : Nat → List Int × Int) : ∀ (l : List P42) (j : Nat) (acc : List Int), (∀ i (h : i < l.length), res (j + i) = resF bad sh l[i].i.toNat (rdPc ps l[i].i.toNat).n.toNat) → (∀ y ∈ l, PtOk ps y) →
    ((wantG ps bad sh l acc).2 = 0 → gath ps res j l acc = ((wantG ps bad sh l acc).1, 0, j + l.length)) ∧ ((wantG ps bad sh l acc).2 ≠ 0 → ∃ jn, gath ps res j l acc = ([], (wantG ps bad sh l acc).2, jn))
  | [], j, acc, _, _ => ⟨fun _ => rfl, fun h => absurd rfl h⟩
  | y :: l, j, acc, hr, hp => by
    have h0 := hr 0 (by simp)
    rw [Nat.add_zero, List.getElem_cons_zero] at h0
    obtain ⟨hy0, hy1⟩ := hp y List.mem_cons_self
    obtain ⟨k, hk⟩ : ∃ k : Nat, y.i = k := ⟨y.i.toNat, by omega⟩
    rw [wantG]
    unfold resF at h0
    rw [show ((y.i.toNat : Nat) : Int) = y.i by omega] at h0
    by_cases hb : y.i = bad
    · rw [if_pos hb] at h0 ⊢
      cases sh with
      | true =>
        refine ⟨fun h => absurd h (by simp), fun _ => ⟨j + 1, ?_⟩⟩
        rw [gath_no (by rw [h0]; rfl)]
        · rfl
        · rw [h0]
          show (((pieceB y.i.toNat (rdPc ps y.i.toNat).n.toNat).drop 1).length : Int) ≠ _
          rw [List.length_drop, pieceB_len]; omega
      | false =>
        refine ⟨fun h => absurd h (by simp), fun _ => ⟨j + 1, ?_⟩⟩
        rw [gath_err (by rw [h0]; simp), h0]; rfl
    · rw [if_neg hb] at h0 ⊢
      have ih := gath_want ps bad sh res l (j + 1) (acc ++ ((pieceB y.i.toNat (rdPc ps y.i.toNat).n.toNat).take (y.b + y.n).toNat).drop y.b.toNat) (fun i h => by
        have := hr (i + 1) (by rw [List.length_cons]; omega)
        rw [List.getElem_cons_succ] at this
        rw [← this]; congr 1; omega) (fun z hz => hp z (List.mem_cons_of_mem _ hz))
      have hg : gath ps res j (y :: l) acc = gath ps res (j + 1) l (acc ++ ((pieceB y.i.toNat (rdPc ps y.i.toNat).n.toNat).take (y.b + y.n).toNat).drop y.b.toNat) := by
        rw [gath_ok (by rw [h0]) (by rw [h0, pieceB_len]; omega), h0]
      rw [hg, List.length_cons, show j + (l.length + 1) = j + 1 + l.length by omega]
      exact ih
theorem resG_get {ps : List Pc} {bad : Int} {sh : Bool} {parts : List P42} : ∀ i (h : i < parts.length), resG ps bad sh parts (0 + i) = resF bad sh parts[i].i.toNat (rdPc ps parts[i].i.toNat).n.toNat := fun i h => by
  have : rd_T42 parts ((0 + i : Nat) : Int) = parts[i] := by
    unfold rd_T42
    rw [Int.toNat_natCast, List.getD_eq_getElem?_getD, Nat.zero_add, List.getElem?_eq_getElem h]; rfl
  unfold resG
  rw [this]
/-- a variable of one cell, boxed -/
theorem wpList_box_one {P : Program} {ops : Array Oper} {rest : List Oper} {o : Oper} {a : Act} {w : World} {Q : Exit → Act → World → Prop} (hgd : o.guard = none) (ty : TypeId) (x : Operand) (ho : o.op = .box ty x) (v : Value) (hx : a.eval x = v) (hv : v.cells = #[v])
    (h : ∀ w1 : World, w1.heap[w.heap.size]? = some (.cells #[v] ty (0, 0)) → Below w.heap.size w w1 → w1.heap.size = w.heap.size + 1 → wpList P ops Q rest (a.put o.dst (.pointer (some ⟨w.heap.size, 0, none⟩))) w1) : wpList P ops Q (o :: rest) a w := by
  refine wpList_plain hgd fun K hK => ?_
  have hb : (Instr.box ty v).run P w = .ok (.pointer (some ⟨w.heap.size, 0, none⟩)) (w.alloc (.cells #[v] ty)) := by
    simp [Instr.box, newVar, newRow, newObj, hv, Sem.run]
  unfold Oper.wp execOp
  simp only [ho, hx, Sem.run_bind, Sem.run_pure, Result.andThen_ok, hb]
  exact hK _ _ (h _ (heap_alloc_new w _) (below_alloc (Below.refl _ _) _) (World.size_alloc _ _))
theorem conv_strU {w : World} {V : Value} {l : List Int} (h : Rd w V l) : (convert 53 9 V).run Try.prog w = .ok (.string (strOfNums l)) w := by
  obtain ⟨A, c, rfl, h1, _⟩ := h
  exact Kd.C_string (P := Try.prog) (A := A) (c := c) Try.underlying53 Try.underlying5 Try.underlying9 h1
theorem info45z : (Try.prog.info? 45).map (·.zero) = some (some (.slice none 0 0)) := by kernel_rfl
theorem info45s : (Try.prog.info? 45).map (·.size) = some 1 := by kernel_rfl
theorem info51z : (Try.prog.info? 51).map (·.zero) = some (some (.agg #[.int .i64 0, .int .i64 0, .int .i64 0])) := by kernel_rfl
theorem info51s : (Try.prog.info? 51).map (·.size) = some 3 := by kernel_rfl
theorem info3z : (Try.prog.info? 3).map (·.zero) = some (some (.int .i64 0)) := by kernel_rfl
theorem info4z : (Try.prog.info? 4).map (·.zero) = some (some (.bool false)) := by kernel_rfl
theorem run_load_en {o : Oper} {ev : Operand → Value} {w : World} (x : Operand) (ho : o.op = .load 26 x) (g : Nat) (hx : ev x = .pointer (some ⟨g, 0, none⟩)) {y : En} {A : Option Addr} {c : Nat} (hK : EnAt w g y A c) : (execOp ev o).run Try.prog w = .ok (.value (.agg (enV y A c).toArray)) w := by
  have hl : (loadVar 26 ⟨g, 0, none⟩).run Try.prog w = .ok (.agg (enV y A c).toArray) w := by
    have hl : (loadCells ⟨g, 0, none⟩ (enV y A c).length).run Try.prog w = .ok (enV y A c).toArray w :=
      run_loadCells_list (P := Try.prog) w ⟨g, 0, none⟩ (enV y A c) (fun j v hv => by rw [addr_add, Nat.zero_add]; exact hK.cell hv)
    have hi := info26
    cases hq : Try.prog.info? 26 with
    | none => rw [hq] at hi; simp at hi
    | some i =>
      have hs : i.size = (enV y A c).length := by rw [enV_len _ _ _ hK.tl]; rw [hq] at hi; simpa using hi
      have hagg : (isAgg 26).run Try.prog w = .ok true w := by
        unfold isAgg
        rw [Sem.run_bind, run_underlying Try.underlying26 w]
        rfl
      simp [loadVar, Sem.run_bind, hagg, sizeOf, typeInfo, hq, hs, hl]
  unfold execOp
  simp only [ho, hx, Instr.loadAt, Instr.sureAddr, Sem.run_bind, Sem.run_pure, Result.andThen_ok, hl]
theorem three51 {k b n : Int} : ∀ v ∈ ([.int .i64 k, .int .i64 b, .int .i64 n] : List Value), v.oneCell' = true := fun v hv => by
  rcases List.mem_cons.mp hv with rfl | hv
  · rfl
  · rcases List.mem_cons.mp hv with rfl | hv
    · rfl
    · rw [List.mem_singleton.mp hv]; rfl
theorem pick_ok1 {x : En} {c m : Int} {parts : List P42} (h : pickP x c m = (parts, 0)) : FineP x := by
  by_cases h0 : (sizeP x).2 = 0
  · exact (size_ok h0).1
  · rw [pick_err h0] at h
    injection h with _ h
    exact absurd h h0
/-- what stands while the law's own loop runs, and behind it -/
structure LJ (w W : World) (x : En) (A : Option Addr) (c g8 g9 g11 : Nat) (Aw : Option Addr) (cw : Nat) (bad : Int) (sh : Bool) (parts : List P42) (V : Value) (acc : List Int) : Prop where
  hb : Below w.heap.size w W
  e : EnAt W w.heap.size x A c
  k8 : W.heap[g8]? = some (.cells #[.int .i64 bad] 3 (0, 0))
  k9 : W.heap[g9]? = some (.cells #[.bool sh] 4 (0, 0))
  k11 : W.heap[g11]? = some (.cells #[.slice Aw parts.length cw] 45 (0, 0))
  hp : Kd.R k51 51 W w.heap.size (fun _ => True) (.slice Aw parts.length cw) parts
  ho : Kd.R (Kd.int .u8) 5 W w.heap.size (fun _ => True) V acc
theorem LJ.new {w W W' : World} {x : En} {A : Option Addr} {c g8 g9 g11 : Nat} {Aw : Option Addr} {cw : Nat} {bad : Int} {sh : Bool} {parts : List P42} {V : Value} {acc : List Int} (h : LJ w W x A c g8 g9 g11 Aw cw bad sh parts V acc) (hb : Below W.heap.size W W') : LJ w W' x A c g8 g9 g11 Aw cw bad sh parts V acc :=
  ⟨below_step h.hb hb, h.e.below hb, blk_below h.k8 hb, blk_below h.k9 hb, blk_below h.k11 hb, Kd.R_below h.hp hb, Kd.R_below h.ho hb⟩
set_option maxHeartbeats 4000000 in
set_option maxRecDepth 100000 in
theorem gathers_many {x : En} {cs : List Value} {w : World} (h : kEn.K w x cs) (hf : fewB x = false) (c0 m bad : Int) (sh : Bool) : Calls Try.prog 5 #[.agg cs.toArray, .int .i64 c0, .int .i64 m, .int .i64 bad, .bool sh] w fun e w' => e = .returned (.bool true) ∧ Below w.heap.size w w' := by
  obtain ⟨A, c, rfl, ht, hc, hr⟩ := kEn_open h
  have HT := Aside0.mk ht
  have HC := Aside0.mk hc
  have HR := Aside0.mk hr
  have HFW := Aside0.mk hf
  clear h ht hc hr
  clear hf
  go_enter Try.func5, Try.ntmps5
  go_wp2_with (first | ((with_reducible refine gate_dst (N := 5) rfl ?_); refine wpList_box rfl 26 (.tmp 0) rfl (enV x A c) rfl ?_; intro w1 hk hb hs; have E := Aside0.mk (EnAt.mk hk HT.out HC.out (Kd.C_below HR.out hb)); have HB := Aside0.mk hb; clear hk hb hs) | ((with_reducible refine gate_dst (N := 8) rfl ?_); refine wpList_box_one rfl 3 (.tmp 3) rfl (.int .i64 bad) rfl rfl ?_; intro w2 hk hb hs; have K8 := Aside0.mk hk; clear hk hs; have n0_ := Aside0.mk (E.out.below hb); have n1_ := Aside0.mk (below_step HB.out hb); clear E HB hb; have E := n0_; have HB := n1_; clear n0_ n1_) | ((with_reducible refine gate_dst (N := 9) rfl ?_); refine wpList_box_one rfl 4 (.tmp 4) rfl (.bool sh) rfl rfl ?_; intro w3 hk hb hs; have K9 := Aside0.mk hk; clear hk hs; have n0_ := Aside0.mk (E.out.below hb); have n1_ := Aside0.mk (below_step HB.out hb); have n2_ := Aside0.mk (blk_below K8.out hb); clear E HB K8 hb; have E := n0_; have HB := n1_; have K8 := n2_; clear n0_ n1_ n2_) | ((with_reducible refine gate_dst (N := 25) rfl ?_); refine load_en rfl (.tmp 5) rfl w.heap.size rfl E.out ?_) | (go_at_call 7; with_reducible refine (few_calls E.out.K _ HFW.out).mono ?_; rintro e w4 ⟨rfl, hb⟩; have n0_ := Aside0.mk (E.out.below hb); have n1_ := Aside0.mk (below_step HB.out hb); have n2_ := Aside0.mk (blk_below K8.out hb); have n3_ := Aside0.mk (blk_below K9.out hb); clear E HB K8 K9 hb; have E := n0_; have HB := n1_; have K8 := n2_; have K9 := n3_; clear n0_ n1_ n2_ n3_) | (go_at_call 8; with_reducible refine (awake_calls _).mono ?_; rintro e w9 ⟨rfl, hb⟩; have HB9 := Aside0.mk (below_step HB.out hb); clear hb))
  go_ret
  exact ⟨rfl, HB9.out⟩
set_option maxHeartbeats 4000000 in
set_option maxRecDepth 100000 in
theorem gathers_err {x : En} {cs : List Value} {w : World} (h : kEn.K w x cs) (hf : fewB x = true) (c0 m bad : Int) (sh : Bool) (parts : List P42) (er : Int) (hpk : pickP x c0 m = (parts, er)) (he : er ≠ 0) : Calls Try.prog 5 #[.agg cs.toArray, .int .i64 c0, .int .i64 m, .int .i64 bad, .bool sh] w fun e w' => e = .returned (.bool true) ∧ Below w.heap.size w w' := by
  obtain ⟨A, c, rfl, ht, hc, hr⟩ := kEn_open h
  have HT := Aside0.mk ht
  have HC := Aside0.mk hc
  have HR := Aside0.mk hr
  have HFW := Aside0.mk hf
  clear h ht hc hr
  have HSZ := Aside0.mk (few_sz hf)
  have HPP := Aside0.mk hpk
  have HER := Aside0.mk he
  have b1 : (er == 0) = false := beq_eq_false_iff_ne.mpr he
  have b2 : (er != 0) = true := bne_iff_ne.mpr he
  clear hf hpk he
  go_enter Try.func5, Try.ntmps5
  go_wp2_with (first | ((with_reducible refine gate_dst (N := 5) rfl ?_); refine wpList_box rfl 26 (.tmp 0) rfl (enV x A c) rfl ?_; intro w1 hk hb hs; have E := Aside0.mk (EnAt.mk hk HT.out HC.out (Kd.C_below HR.out hb)); have HB := Aside0.mk hb; clear hk hb hs) | ((with_reducible refine gate_dst (N := 8) rfl ?_); refine wpList_box_one rfl 3 (.tmp 3) rfl (.int .i64 bad) rfl rfl ?_; intro w2 hk hb hs; have K8 := Aside0.mk hk; clear hk hs; have n0_ := Aside0.mk (E.out.below hb); have n1_ := Aside0.mk (below_step HB.out hb); clear E HB hb; have E := n0_; have HB := n1_; clear n0_ n1_) | ((with_reducible refine gate_dst (N := 9) rfl ?_); refine wpList_box_one rfl 4 (.tmp 4) rfl (.bool sh) rfl rfl ?_; intro w3 hk hb hs; have K9 := Aside0.mk hk; clear hk hs; have n0_ := Aside0.mk (E.out.below hb); have n1_ := Aside0.mk (below_step HB.out hb); have n2_ := Aside0.mk (blk_below K8.out hb); clear E HB K8 hb; have E := n0_; have HB := n1_; have K8 := n2_; clear n0_ n1_ n2_) | ((with_reducible refine gate_dst (N := 25) rfl ?_); refine load_en rfl (.tmp 5) rfl w.heap.size rfl E.out ?_) | ((with_reducible refine gate_dst (N := 30) rfl ?_); refine load_en rfl (.tmp 5) rfl w.heap.size rfl E.out ?_) | ((with_reducible refine gate_dst (N := 113) rfl ?_); refine load_en rfl (.tmp 5) rfl w.heap.size rfl E.out ?_) | ((with_reducible refine gate_dst (N := 120) rfl ?_); refine load_en rfl (.tmp 5) rfl w.heap.size rfl E.out ?_) | (go_at_call 7; with_reducible refine (few_calls E.out.K true HFW.out).mono ?_; rintro e w4 ⟨rfl, hb⟩; have n0_ := Aside0.mk (E.out.below hb); have n1_ := Aside0.mk (below_step HB.out hb); have n2_ := Aside0.mk (blk_below K8.out hb); have n3_ := Aside0.mk (blk_below K9.out hb); clear E HB K8 K9 hb; have E := n0_; have HB := n1_; have K8 := n2_; have K9 := n3_; clear n0_ n1_ n2_ n3_) | (go_at_call 15; with_reducible refine (rpick_calls E.out.K HSZ.out c0 m).mono ?_; rw [HPP.out]; rintro e w5 ⟨V5, rfl, hv, hb⟩; obtain ⟨Aw, cw, rfl⟩ := Kd.R_slice hv; have HP := Aside0.mk (Kd.R_lower hv HB.out.size); clear hv; have n0_ := Aside0.mk (E.out.below hb); have n1_ := Aside0.mk (below_step HB.out hb); have n2_ := Aside0.mk (blk_below K8.out hb); have n3_ := Aside0.mk (blk_below K9.out hb); clear E HB K8 K9 hb; have E := n0_; have HB := n1_; have K8 := n2_; have K9 := n3_; clear n0_ n1_ n2_ n3_) | ((with_reducible refine gate_dst (N := 11) rfl ?_); refine wpList_new_var rfl 45 rfl _ info45z ?_; intro w6 hk hb hs; have K11 := Aside0.mk hk; have HB5 := Aside0.mk HB.out.size; clear hk hs; have n0_ := Aside0.mk (E.out.below hb); have n1_ := Aside0.mk (below_step HB.out hb); have n2_ := Aside0.mk (blk_below K8.out hb); have n3_ := Aside0.mk (blk_below K9.out hb); have n4_ := Aside0.mk (Kd.R_below HP.out hb); clear E HB K8 K9 HP hb; have E := n0_; have HB := n1_; have K8 := n2_; have K9 := n3_; have HP := n4_; clear n0_ n1_ n2_ n3_ n4_) | ((with_reducible refine gate_store (t := 45) (p := 11) (v := .tmp 34) rfl ?_); refine wpList_store_box rfl 45 (.tmp 11) (.tmp 34) rfl w5.heap.size 45 rfl (.slice Aw parts.length cw) _ rfl rfl rfl K11.out info45s ?_; intro w7 hk ho; have nE_ := Aside0.mk (EnAt.mk ((ho.block _ (blk_ne E.out.blk K11.out (by decide))).trans E.out.blk) HT.out HC.out (Kd.C_below HR.out (HB.out.trans (ho.below HB5.out)))); have n8_ := Aside0.mk ((ho.block _ (blk_ne K8.out K11.out (by decide))).trans K8.out); have n9_ := Aside0.mk ((ho.block _ (blk_ne K9.out K11.out (by decide))).trans K9.out); have nP_ := Aside0.mk (Kd.R_mono (Kd.R_step (Kd.R_types HP.out K11.out (by decide)) (fun k hk2 _ => ho.block k hk2.2)) (fun _ _ => trivial)); have nB_ := Aside0.mk (HB.out.trans (ho.below HB5.out)); clear E K8 K9 HP HB K11 ho; have E := nE_; have K8 := n8_; have K9 := n9_; have HP := nP_; have HB := nB_; have K11 := Aside0.mk hk; clear nE_ n8_ n9_ nP_ nB_ hk) | (go_at_call 17; with_reducible refine (gather_err E.out.K HSZ.out c0 m (.func (.func 19) #[] #[]) _ er HPP.out HER.out).mono ?_; rintro e w8 ⟨rfl, hb⟩; have n0_ := Aside0.mk (E.out.below hb); have n1_ := Aside0.mk (below_step HB.out hb); clear E HB hb; have E := n0_; have HB := n1_; clear n0_ n1_) | (go_at_call 17; with_reducible refine (gather_err E.out.K HSZ.out c0 m .nilFunc _ er HPP.out HER.out).mono ?_; rintro e w8 ⟨rfl, hb⟩; have n0_ := Aside0.mk (E.out.below hb); have n1_ := Aside0.mk (below_step HB.out hb); clear E HB hb; have E := n0_; have HB := n1_; clear n0_ n1_) | (go_at_call 8; with_reducible refine (awake_calls _).mono ?_; rintro e w9 ⟨rfl, hb⟩; have HB9 := Aside0.mk (below_step HB.out hb); clear hb))
  go_ret
  exact ⟨rfl, HB9.out⟩
end Go.Proofs.Ytphpinfingaffaa.Law
