/- node.entry: the walk. -/
import Derived.Test.YthpgbhpnlnpfnaaDoorQD
import Derived.Great.BuildSlice

namespace Go.Proofs.YthpgbhpnlnpfnaaDoor.Law
open Go.RowKit Go.Proofs.YthpgbhpnlnpfnaaDoor Go.Proofs.YthpgbhpnlnpfnaaDoorW.PrintWords Go.Proofs.YthpgbhpnlnpfnaaDoorW.PrintLast Go.Proofs.YthpgbhpnlnpfnaaDoorW.PrintMore Go.Proofs.YthpgbhpnlnpfnaaDoor.E
set_option linter.unusedSimpArgs false
set_option linter.unusedVariables false
theorem info75z : (Tryd.prog.info? 75).map (·.zero) = some (some (.agg (enV zEn none 0).toArray)) := info26z
theorem info82z : (Tryd.prog.info? 82).map (·.zero) = some (some (.agg (scV none 0 0 0).toArray)) := by kernel_rfl
theorem info78z : (Tryd.prog.info? 78).map (·.zero) = some (some (.agg (pcV ⟨zeros32, 0⟩).toArray)) := info62z
/-- bytes as a text -/
theorem wpList_str {ops : Array Oper} {rest : List Oper} {o : Oper} {a : Act} {w : World} {Q : Exit → Act → World → Prop} (hgd : o.guard = none) (x : Operand) (ho : o.op = .convert 25 9 x) (V : Value) (l : List Int) (hx : a.eval x = V) (hr : Rd w V l)
    (h : wpList Tryd.prog ops Q rest (a.put o.dst (.string (strOfNums l))) w) : wpList Tryd.prog ops Q (o :: rest) a w := by
  refine wpList_plain hgd fun K hK => ?_
  obtain ⟨A, c, rfl, hc, _⟩ := hr
  have hs := Kd.C_string (P := Tryd.prog) (src := 25) (dst := 9) (e := 5) (c := c) Tryd.underlying25 Tryd.underlying5 Tryd.underlying9 hc
  unfold Oper.wp execOp
  simp only [ho, hx, Sem.run_bind, Sem.run_pure, Result.andThen_ok, hs]
  exact hK _ _ h
set_option maxHeartbeats 4000000 in
set_option maxRecDepth 100000 in
theorem entry_dir {w0 w : World} {S : Option Addr} {cs : Nat} {l : List Int} {t : List Int} {kt : Nat} {et : Int} {l1 : List Int} {kd : Int} {kn : Nat} {en : Int} {l2 : List Int} {f : List Int} {fk : Nat} {ef : Int} {l3 : List Int} (h : Scn w0 (.agg (scV S l.length cs 0).toArray) l 0) (hw : Below w0.heap.size w0 w) (hm : l.length < 140737488355000)
    (ht : textP l 0 32 = (t, kt, et)) (hl1 : l.drop kt = l1) (hn : numP l1 et 0 1 = (kd, kn, en)) (hl2 : l1.drop kn = l2) (hkd : kd = 1) (hf : fixP l2 en 32 = (f, fk, ef)) (hl3 : l2.drop fk = l3) :
    Calls Tryd.prog 53 #[.agg (scV S l.length cs 0).toArray] w (EntOut w0 w l) := by
  have HM := Aside0.mk (show l.length < 140737488355328 by omega)
  have E := Aside0.mk (Ent.new h hw)
  have HT := Aside0.mk ht
  have HL1 := Aside0.mk hl1
  have HN := Aside0.mk hn
  have HL2 := Aside0.mk hl2
  have HM2 := Aside0.mk (show l2.length < 140737488355328 by rw [← hl2, ← hl1, List.length_drop, List.length_drop]; omega)
  have HF := Aside0.mk hf
  have HL3 := Aside0.mk hl3
  have HX := Aside0.mk (show (enG l).2 = (l3, ef) ∧ (ef = 0 → (enG l).1 = ⟨strOfNums t, true, ids f, []⟩ ∧ ∀ wz : World, kPc.R 78 wz (w.heap.size + 4) (fun _ => True) (.slice none 0 0) []) from by
    have e : enG l = (⟨strOfNums t, true, ids f, []⟩, l3, ef) := by
      unfold enG
      simp only [ht, hl1, hn, hl2, hkd, hf, hl3, if_true]
    rw [e]
    exact ⟨rfl, fun _ => ⟨rfl, fun _ => Kd.R_nil _ _ _ _ _⟩⟩)
  clear h hw hm ht hl1 hn hl2 hf hl3
  have hkb : (kd == 1) = true := beq_iff_eq.mpr hkd
  go_enter Tryd.func53, Tryd.ntmps53
  go_wp2_with (first
    | ((with_reducible refine gate_dst (N := 2) rfl ?_); refine wpList_alloc_zero rfl 75 rfl _ info75z ?_)
    | ((with_reducible refine gate_dst (N := 3) rfl ?_); refine wpList_alloc_zero rfl 82 rfl _ info82z ?_)
    | ((with_reducible refine gate_dst (N := 4) rfl ?_); refine wpList_alloc_zero rfl 75 rfl _ info75z ?_)
    | ((with_reducible refine gate_dst (N := 10) rfl ?_); refine load_scan E.out rfl (.tmp 1) rfl rfl ?_)
    | (go_at_call 67; (with_reducible refine (text_calls E.out.sc (Below.trans E.out.b0 (Below.mono E.out.bl E.out.b0.size)) HM.out 32).mono ?_); rw [HT.out]; dsimp only; rw [HL1.out]; rintro e w1 ⟨V1, v1, rfl, hv, hs, hb⟩; obtain ⟨S1, cs1, rfl⟩ := hs.open; have HSC := Aside0.mk hs; have HV := Aside0.mk (Kd.R_lower hv E.out.size); have n0_ := Aside0.mk (E.out.below hb); clear E hv hs hb; have E := n0_; clear n0_; have f0 := blk_frozen E.out.k1 0; have f1 := blk_frozen E.out.k1 1; have c0 := (blk_cell E.out.k1 0).trans rfl; have c1 := (blk_cell E.out.k1 1).trans rfl)
    | (go_at_call 52; have n0_ := Aside0.mk (E.out.scan (S' := S1) (cs' := cs1) (l' := l1) (e' := et) (((Only.refl w.heap.size w1).set 0 (.slice S1 l1.length cs1)).set 1 (.int .i64 et)) (blk_put (blk_put E.out.k1 0 (.slice S1 l1.length cs1) rfl) 1 (.int .i64 et) rfl) HSC.out); clear E f0 f1 c0 c1 HSC; have E := n0_; clear n0_; (with_reducible refine (num_calls E.out.sc (Below.trans E.out.b0 (Below.mono E.out.bl E.out.b0.size)) 0 1).mono ?_); rw [HN.out]; dsimp only; rw [HL2.out]; rintro e w2 ⟨v2, rfl, hs, hb⟩; obtain ⟨S2, cs2, rfl⟩ := hs.open; have HSC := Aside0.mk hs; have n0_ := Aside0.mk (E.out.below hb); have n1_ := Aside0.mk (Kd.R_below (R_set_low (R_set_low HV.out (p := ⟨w.heap.size, 0, none⟩) (Nat.lt_add_of_pos_right (by decide)) (.slice S1 l1.length cs1)) (p := ⟨w.heap.size, 1, none⟩) (Nat.lt_add_of_pos_right (by decide)) (.int .i64 et)) hb); clear E HV hs hb; have E := n0_; have HV := n1_; clear n0_ n1_; have f0 := blk_frozen E.out.k1 0; have f1 := blk_frozen E.out.k1 1; have c0 := (blk_cell E.out.k1 0).trans rfl; have c1 := (blk_cell E.out.k1 1).trans rfl)
    | ((with_reducible refine gate_dst (N := 20) rfl ?_); have n0_ := Aside0.mk (E.out.scan (S' := S2) (cs' := cs2) (l' := l2) (e' := en) (((Only.refl w.heap.size w2).set 0 (.slice S2 l2.length cs2)).set 1 (.int .i64 en)) (blk_put (blk_put E.out.k1 0 (.slice S2 l2.length cs2) rfl) 1 (.int .i64 en) rfl) HSC.out); have n1_ := Aside0.mk (R_set_low (R_set_low HV.out (p := ⟨w.heap.size, 0, none⟩) (Nat.lt_add_of_pos_right (by decide)) (.slice S2 l2.length cs2)) (p := ⟨w.heap.size, 1, none⟩) (Nat.lt_add_of_pos_right (by decide)) (.int .i64 en)); clear E HV HSC f0 f1 c0 c1; generalize (w2.setCell ⟨w.heap.size, 0, none⟩ (.slice S2 l2.length cs2)).setCell ⟨w.heap.size, 1, none⟩ (.int .i64 en) = w3 at *; have E := n0_; have HV := n1_; clear n0_ n1_; refine wpList_str rfl (.tmp 19) rfl V1 t rfl (Rd.own HV.out) ?_; have g0 : w3.frozen? ⟨w.heap.size + 1 + 1 + 1, 0, none⟩ = false := blk_frozen E.out.k4 0; have g1 : w3.frozen? ⟨w.heap.size + 1 + 1 + 1, 1, none⟩ = false := blk_frozen E.out.k4 1; have d0 : w3.cell? ⟨w.heap.size + 1 + 1 + 1, 0, none⟩ = some (.string ByteArray.empty) := (blk_cell E.out.k4 0).trans rfl; have q0 : w3.cell? ⟨w.heap.size, 0, none⟩ = some (.slice S2 l2.length cs2) := (blk_cell E.out.k1 0).trans rfl; have q1 : w3.cell? ⟨w.heap.size, 1, none⟩ = some (.int .i64 en) := (blk_cell E.out.k1 1).trans rfl; have d1 : w3.cell? ⟨w.heap.size + 1 + 1 + 1, 1, none⟩ = some (.bool false) := (blk_cell E.out.k4 1).trans rfl)
    | (go_at_call 68; have n0_ := Aside0.mk (Ent.entry (x' := ⟨strOfNums t, true, zeros32, []⟩) (A' := none) (c' := 0) E.out (((Only.refl (w.heap.size + 3) w3).set 0 (.string (strOfNums t))).set 1 (.bool true)) (blk_put (blk_put E.out.k4 0 (.string (strOfNums t)) rfl) 1 (.bool true) rfl) rfl); clear E HV g0 g1 d0 d1 q0 q1; have E := n0_; clear n0_; (with_reducible refine (id_calls E.out.sc (Below.trans E.out.b0 (Below.mono E.out.bl E.out.b0.size)) HM2.out).mono ?_); rw [HF.out]; dsimp only; rw [HL3.out]; rintro e w4 ⟨v4, rfl, hs, hb⟩; obtain ⟨S3, cs3, rfl⟩ := hs.open; have HSC := Aside0.mk hs; have n0_ := Aside0.mk (E.out.below hb); clear E hs hb; have E := n0_; clear n0_)
    | ((with_reducible refine gate_store (t := 72) (p := 32) (v := .tmp 30) rfl ?_); refine store_fld E.out ⟨strOfNums t, true, ids f, []⟩ none 0 rfl 72 (.tmp 32) (.tmp 30) rfl 2 rfl (.agg (u8s (ids f)).toArray) (u8s (ids f)) rfl rfl (by rw [u8s_len, ids_len]; exact info23) (u8s_one _) (by rw [u8s_len, ids_len]; decide) (enV_put_tree _ none 0 (ids f) rfl (ids_len f)) (ids_len f) ?_; intro w5 he ho; have n0_ := Aside0.mk he; clear E he ho; have E := n0_; clear n0_; have f0 := blk_frozen E.out.k1 0; have f1 := blk_frozen E.out.k1 1; have c0 := (blk_cell E.out.k1 0).trans rfl; have c1 := (blk_cell E.out.k1 1).trans rfl))
  have n0_ := Aside0.mk (E.out.scan (S' := S3) (cs' := cs3) (l' := l3) (e' := ef) (((Only.refl w.heap.size w5).set 0 (.slice S3 l3.length cs3)).set 1 (.int .i64 ef)) (blk_put (blk_put E.out.k1 0 (.slice S3 l3.length cs3) rfl) 1 (.int .i64 ef) rfl) HSC.out)
  clear E f0 f1 c0 c1 HSC
  have E := n0_
  clear n0_
  generalize (w5.setCell ⟨w.heap.size, 0, none⟩ (.slice S3 l3.length cs3)).setCell ⟨w.heap.size, 1, none⟩ (.int .i64 ef) = wq at *
  have n0_ := Aside0.mk (show (enG l).2 = (l3, ef) ∧ (ef = 0 → (enG l).1 = ⟨strOfNums t, true, ids f, []⟩ ∧ kPc.R 78 wq (w.heap.size + 4) (fun _ => True) (.slice none 0 0) []) from ⟨HX.out.1, fun h0 => ⟨(HX.out.2 h0).1, (HX.out.2 h0).2 wq⟩⟩)
  clear HX
  have HX := n0_
  clear n0_
  have q0 : wq.cell? ⟨w.heap.size, 0, none⟩ = some (.slice S3 l3.length cs3) := (blk_cell E.out.k1 0).trans rfl
  have q1 : wq.cell? ⟨w.heap.size, 1, none⟩ = some (.int .i64 ef) := (blk_cell E.out.k1 1).trans rfl
  refine start_ (n := 4) (S := fun w' => w'.cell? ⟨w.heap.size, 0, none⟩ = some (.slice S3 l3.length cs3) ∧ w'.cell? ⟨w.heap.size, 1, none⟩ = some (.int .i64 ef)) (ds := [3]) #[false, false, false, false] (by kernel_rfl) rfl rfl ⟨q0, q1⟩ (fun hHeld => ?_)
  refine take_ (i := 1) (N := some 34) (v := ?_) (a' := ?_) #[false, true, false, false] rfl rfl (by kernel_rfl) (fun _ _ _ h => h) (Or.inl ⟨by rfl, ?_⟩) hHeld ?_ ?_
  rotate_left
  · rintro w' ⟨s0, s1⟩
    go_simp
    with_reducible rfl
  rotate_left
  · simp only [Act.put, List.setIfInBounds_toArray, List.set_cons_zero, List.set_cons_succ, i64_w, i32_w]
    rfl
  refine one_ (i := 0) (N := some 33) #[true, true, false, false] rfl rfl (by kernel_rfl) (by decide) (fun K hK => ?_)
  refine value_ (w1 := wq.drew) (v := .agg (enV ⟨strOfNums t, true, ids f, []⟩ none 0).toArray) (by rfl) rfl ?hld ?_
  case hld => exact run_load_part 75 (.tmp 4) rfl (w.heap.size + 1 + 1 + 1) 0 rfl (enV ⟨strOfNums t, true, ids f, []⟩ none 0) _ (fun j v hj => by rw [Nat.zero_add]; exact E.out.drew.cell hj) Tryd.underlying75 rfl (by rw [enV_len _ _ _ E.out.tl]; exact info26)
  refine hK.out _ _ ⟨q0, q1⟩ (fun hHeld => ?_)
  clear hK K
  refine norm_ (a' := ?_) ?_ ?_
  rotate_left
  · show Act.put _ (some 33) _ = _
    simp only [Act.put, List.setIfInBounds_toArray, List.set_cons_zero, List.set_cons_succ, i64_w, i32_w]
    rfl
  refine one_ (i := 2) (N := none) #[true, true, true, false] rfl rfl (by kernel_rfl) (by decide) (fun K hK => ?_)
  refine skip_ (w1 := setRow wq.drew (w.heap.size + 1) 0 (enV ⟨strOfNums t, true, ids f, []⟩ none 0) 0) (by rfl) rfl ?hst ?_
  case hst => exact run_store_row 75 (.tmp 2) (.tmp 33) rfl (w.heap.size + 1) 0 rfl (enV ⟨strOfNums t, true, ids f, []⟩ none 0) rfl (by rw [enV_len _ _ _ E.out.tl]; exact info26) (enV_one _ _ _) (fun j hj => ⟨_, (blk_cell E.out.drew.k2 (0 + j)).trans (Array.getElem?_eq_getElem (by rw [enV_len _ _ _ E.out.tl] at hj; rw [Nat.zero_add]; exact hj))⟩) (fun j => blk_frozen E.out.drew.k2 j)
  have HO1 := Aside0.mk (Only.setRow (g := w.heap.size + 1) (off := 0) (enV ⟨strOfNums t, true, ids f, []⟩ none 0) 0 _ (Only.refl (w.heap.size + 1) wq.drew))
  obtain ⟨wr, hwr⟩ : ∃ wr, setRow wq.drew (w.heap.size + 1) 0 (enV ⟨strOfNums t, true, ids f, []⟩ none 0) 0 = wr := ⟨_, rfl⟩
  have HWR := Aside0.mk hwr
  have KR := Aside0.mk ((HO1.out.block _ (by omega : w.heap.size + 1 + 1 ≠ w.heap.size + 1)).trans E.out.drew.k3)
  have KE := Aside0.mk ((HO1.out.block _ (by omega : w.heap.size ≠ w.heap.size + 1)).trans E.out.drew.k1)
  rw [hwr] at KR KE ⊢
  clear hwr HO1 q0 q1
  have rz0 := (blk_cell KR.out 0).trans rfl
  have rz1 := (blk_cell KR.out 1).trans rfl
  have rf0 := blk_frozen KR.out 0
  have rf1 := blk_frozen KR.out 1
  refine hK.out _ _ ⟨(blk_cell KE.out 0).trans rfl, (blk_cell KE.out 1).trans rfl⟩ (fun hHeld => ?_)
  clear hK K
  refine last_ (i := 3) (N := none) #[true, true, true, true] rfl rfl (by kernel_rfl) (by decide) (fun K hK => ?_)
  refine skip_ (w1 := ?_) (by rfl) rfl ?_ ?_
  rotate_left
  · go_simp
    rfl
  refine hK.out _ _ ?_
  clear hK K
  refine done_ (by kernel_rfl) ?_
  go_wp2
  have HZ := E.out.out HWR.out rfl
  exact bodyPost_ret (results_cell_cell rfl _ _ (w.heap.size + 1) (w.heap.size + 1 + 1) _ _ rfl rfl HZ.r1 HZ.r2) rfl (EntOut.mk E.out HZ HX.out.1 HX.out.2)
end Go.Proofs.YthpgbhpnlnpfnaaDoor.Law

namespace Go.Proofs.YthpgbhpnlnpfnaaDoor.Law
open Go.RowKit Go.Proofs.YthpgbhpnlnpfnaaDoor Go.Proofs.YthpgbhpnlnpfnaaDoorW.PrintWords Go.Proofs.YthpgbhpnlnpfnaaDoorW.PrintLast Go.Proofs.YthpgbhpnlnpfnaaDoorW.PrintMore Go.Proofs.YthpgbhpnlnpfnaaDoor.E
set_option linter.unusedSimpArgs false
set_option linter.unusedVariables false
/-- a list of one row, made in place -/
theorem one_row {ops : Array Oper} {rest : List Oper} {o : Oper} {a : Act} {w : World} {Q : Exit → Act → World → Prop} (hgd : o.guard = none) (t e s : Nat) (z : Value) (hu : Tryd.prog.underlying t = some (.slice e)) (hi : (Tryd.prog.info? e).map (fun i => (i.zero, i.size)) = some (some z, s)) (hs : 0 < s) (hs2 : ¬ 1 * s > 2 ^ 24) (hz : z.cells.size = s)
    (x : Operand) (ho : o.op = .buildSlice t 1 #[(0, x)]) (vs : List Value) (hl : vs.length = s) (hx : a.eval x = .agg vs.toArray)
    (h : wpList Tryd.prog ops Q rest (a.put o.dst (.slice (some ⟨w.heap.size, 0, none⟩) 1 1)) (w.alloc (.cells vs.toArray e))) : wpList Tryd.prog ops Q (o :: rest) a w := by
  obtain ⟨ie, hie, hzz⟩ := Option.map_eq_some_iff.1 hi
  simp only [Prod.mk.injEq] at hzz
  obtain ⟨hz1, hz2⟩ := hzz
  refine wpList_buildSlice hgd t e 1 _ ho vs.toArray ie z hu hie hz1 (by rw [hz2]; exact hs2) (by rw [hz2]; omega) ?_ h
  rw [hz2]
  have hf := Great.fill_whole (s := s) hs [.agg vs.toArray] ((Array.range (1 * s)).map (z.cells[· % z.cells.size]!)) (fun v hv => by
    rw [List.mem_singleton.mp hv]
    show vs.toArray.size = s
    rw [List.size_toArray, hl]) (by rw [Array.size_map, Array.size_range, Nat.one_mul]; simp)
  simp only [List.map_toArray, List.map_cons, List.map_nil, hx]
  refine Eq.trans hf ?_
  simp [Value.cells]
theorem info78b : (Tryd.prog.info? 78).map (fun i => (i.zero, i.size)) = some (some (.agg (pcV ⟨zeros32, 0⟩).toArray), 33) := by kernel_rfl
theorem info75b : (Tryd.prog.info? 75).map (fun i => (i.zero, i.size)) = some (some (.agg (enV zEn none 0).toArray), 35) := by kernel_rfl
/-- how far the pieces have been told -/
structure PJ (cnt : Nat) (l3 : List Int) (i : Nat) (ps : List Pc) (lr : List Int) : Prop where
  len : ps.length = i
  eq : pcsG cnt l3 = (ps ++ (pcsG (cnt - i) lr).1, (pcsG (cnt - i) lr).2)
theorem PJ.zero (cnt : Nat) (l3 : List Int) : PJ cnt l3 0 [] l3 := ⟨rfl, by rw [List.nil_append, Nat.sub_zero]⟩
theorem PJ.step {cnt i : Nat} {l3 lr lq : List Int} {ps : List Pc} {p : Pc} (h : PJ cnt l3 i ps lr) (hi : i < cnt) (hp : pcG lr = (p, lq, 0)) : PJ cnt l3 (i + 1) (ps ++ [p]) lq := by
  refine ⟨by rw [List.length_append, h.len]; rfl, ?_⟩
  rw [h.eq, show cnt - i = (cnt - (i + 1)) + 1 by omega]
  conv => lhs; unfold pcsG
  rw [hp]
  dsimp only
  rw [if_neg (by decide), List.append_assoc]; rfl
theorem PJ.stop {cnt i : Nat} {l3 lr lq : List Int} {ps : List Pc} {p : Pc} {e : Int} (h : PJ cnt l3 i ps lr) (hi : i < cnt) (hp : pcG lr = (p, lq, e)) (he : e ≠ 0) : pcsG cnt l3 = (ps, lq, e) := by
  rw [h.eq, show cnt - i = (cnt - (i + 1)) + 1 by omega]
  conv => lhs; unfold pcsG
  rw [hp]
  dsimp only
  rw [if_pos he, List.append_nil]
theorem PJ.done {cnt : Nat} {l3 lr : List Int} {ps : List Pc} (h : PJ cnt l3 cnt ps lr) : pcsG cnt l3 = (ps, lr, 0) := by
  rw [h.eq, Nat.sub_self]
  unfold pcsG
  rw [List.append_nil]
theorem pcV_set (m : List Int) (n : Int) (hm : m.length = 32) : (pcV ⟨m, 0⟩).toArray.setIfInBounds 32 (.int .i64 n) = (pcV ⟨m, n⟩).toArray := by
  have h := pcV_put_n ⟨m, 0⟩ n hm
  have hl := pcV_len (p := ⟨m, 0⟩) hm
  rw [← h, List.setIfInBounds_toArray, List.set_eq_take_append_cons_drop, if_pos (by rw [hl]; decide)]
  simp
theorem num_err {l : List Int} {er a b : Int} (h : (numP l er a b).2.2 ≠ 0) : (numP l er a b).1 = 0 := by
  revert h; unfold numP
  split
  · intro _; rfl
  · split
    · intro _; rfl
    · split
      · intro _; rfl
      · intro h; exact absurd rfl h
theorem Ent.bel {w0 w wr w' : World} {l : List Int} {e : Int} {S : Option Addr} {cs : Nat} {x : En} {A : Option Addr} {c : Nat} (h : Ent w0 w wr l e S cs x A c) (hb : Below (w.heap.size + 4) wr w') : Ent w0 w w' l e S cs x A c :=
  ⟨(hb.block _ (by omega)).trans h.k1, (hb.block _ (by omega)).trans h.k2, (hb.block _ (by omega)).trans h.k3, (hb.block _ (by omega)).trans h.k4, h.sc, h.tl, h.b0, h.bl.trans (Below.mono hb (by omega))⟩
/-- a row above the locals, and none of it is block g -/
def Far (w : World) (g : Nat) (wr : World) (V : Value) (ps : List Pc) : Prop := kPc.R 78 wr (w.heap.size + 4) (fun k => w.heap.size + 4 ≤ k ∧ k ≠ g) V ps
theorem Far.new {w wr wa : World} {V : Value} {ps : List Pc} (h : kPc.R 78 wr (w.heap.size + 4) (fun _ => True) V ps) (hb : Below wr.heap.size wr wa) : Far w wr.heap.size wa V ps :=
  Kd.R_below (Kd.R_mono (Kd.R_bound h) (fun k hk => ⟨hk.2.1, by have := hk.2.2.1; omega⟩)) hb
theorem Far.below {w wr wa : World} {g : Nat} {V : Value} {ps : List Pc} (h : Far w g wr V ps) (hb : Below wr.heap.size wr wa) : Far w g wa V ps := Kd.R_below h hb
theorem Far.only {w wr wa : World} {g k : Nat} {V : Value} {ps : List Pc} (h : Far w g wr V ps) (ho : Only k wr wa) (hk : k < w.heap.size + 4 ∨ k = g) : Far w g wa V ps :=
  Kd.R_step h (fun j hj _ => ho.block j (by rcases hk with hk | hk; omega; exact hk ▸ hj.2))
set_option maxHeartbeats 4000000 in
set_option maxRecDepth 100000 in
theorem entry_bad {w0 w : World} {S : Option Addr} {cs : Nat} {l : List Int} {t : List Int} {kt : Nat} {et : Int} {l1 : List Int} {kd : Int} {kn : Nat} {en : Int} {l2 : List Int} {cnt : Int} {ck : Nat} {ec : Int} {l3 : List Int} (h : Scn w0 (.agg (scV S l.length cs 0).toArray) l 0) (hw : Below w0.heap.size w0 w) (hm : l.length < 140737488355000)
    (ht : textP l 0 32 = (t, kt, et)) (hl1 : l.drop kt = l1) (hn : numP l1 et 0 1 = (kd, kn, en)) (hl2 : l1.drop kn = l2) (hkd : kd ≠ 1) (hc : numP l2 en 0 256 = (cnt, ck, ec)) (hl3 : l2.drop ck = l3) (hec : ec ≠ 0) :
    Calls Tryd.prog 53 #[.agg (scV S l.length cs 0).toArray] w (EntOut w0 w l) := by
  have HM := Aside0.mk (show l.length < 140737488355328 by omega)
  have E := Aside0.mk (Ent.new h hw)
  have HT := Aside0.mk ht
  have HL1 := Aside0.mk hl1
  have HN := Aside0.mk hn
  have HL2 := Aside0.mk hl2
  have HM2 := Aside0.mk (show l2.length < 140737488355328 by rw [← hl2, ← hl1, List.length_drop, List.length_drop]; omega)
  have HC := Aside0.mk hc
  have HL3 := Aside0.mk hl3
  have HM3 := Aside0.mk (show l3.length < 140737488355328 by rw [← hl3, ← hl2, ← hl1, List.length_drop, List.length_drop, List.length_drop]; omega)
  have HX := Aside0.mk (show (enG l).2 = (l3, ec) ∧ (ec = 0 → (enG l).1 = ⟨strOfNums t, false, zeros32, []⟩ ∧ ∀ wz : World, kPc.R 78 wz (w.heap.size + 4) (fun _ => True) (.slice none 0 0) []) from by
    have e : enG l = (⟨strOfNums t, false, zeros32, []⟩, l3, ec) := by
      unfold enG
      simp only [ht, hl1, hn, hl2, hkd, hc, hl3, hec, if_false, if_true, ne_eq, not_false_eq_true]
    rw [e]
    exact ⟨rfl, fun h => absurd h hec⟩)
  obtain rfl : cnt = 0 := by have := num_err (l := l2) (er := en) (a := 0) (b := 256) (by rw [hc]; exact hec); rw [hc] at this; exact this
  clear h hw hm ht hl1 hn hl2 hc hl3 hec
  have hkb : (kd == 1) = false := beq_false_of_ne hkd
  go_enter Tryd.func53, Tryd.ntmps53
  go_wp2_with (first
    | ((with_reducible refine gate_dst (N := 2) rfl ?_); refine wpList_alloc_zero rfl 75 rfl _ info75z ?_)
    | ((with_reducible refine gate_dst (N := 3) rfl ?_); refine wpList_alloc_zero rfl 82 rfl _ info82z ?_)
    | ((with_reducible refine gate_dst (N := 4) rfl ?_); refine wpList_alloc_zero rfl 75 rfl _ info75z ?_)
    | ((with_reducible refine gate_dst (N := 10) rfl ?_); refine load_scan E.out rfl (.tmp 1) rfl rfl ?_)
    | (go_at_call 67; (with_reducible refine (text_calls E.out.sc (Below.trans E.out.b0 (Below.mono E.out.bl E.out.b0.size)) HM.out 32).mono ?_); rw [HT.out]; dsimp only; rw [HL1.out]; rintro e w1 ⟨V1, v1, rfl, hv, hs, hb⟩; obtain ⟨S1, cs1, rfl⟩ := hs.open; have HSC := Aside0.mk hs; have HV := Aside0.mk (Kd.R_lower hv E.out.size); have n0_ := Aside0.mk (E.out.below hb); clear E hv hs hb; have E := n0_; clear n0_; have f0 := blk_frozen E.out.k1 0; have f1 := blk_frozen E.out.k1 1; have c0 := (blk_cell E.out.k1 0).trans rfl; have c1 := (blk_cell E.out.k1 1).trans rfl)
    | (go_at_call 52; have n0_ := Aside0.mk (E.out.scan (S' := S1) (cs' := cs1) (l' := l1) (e' := et) (((Only.refl w.heap.size w1).set 0 (.slice S1 l1.length cs1)).set 1 (.int .i64 et)) (blk_put (blk_put E.out.k1 0 (.slice S1 l1.length cs1) rfl) 1 (.int .i64 et) rfl) HSC.out); clear E f0 f1 c0 c1 HSC; have E := n0_; clear n0_; (with_reducible refine (num_calls E.out.sc (Below.trans E.out.b0 (Below.mono E.out.bl E.out.b0.size)) 0 1).mono ?_); rw [HN.out]; dsimp only; rw [HL2.out]; rintro e w2 ⟨v2, rfl, hs, hb⟩; obtain ⟨S2, cs2, rfl⟩ := hs.open; have HSC := Aside0.mk hs; have n0_ := Aside0.mk (E.out.below hb); have n1_ := Aside0.mk (Kd.R_below (R_set_low (R_set_low HV.out (p := ⟨w.heap.size, 0, none⟩) (Nat.lt_add_of_pos_right (by decide)) (.slice S1 l1.length cs1)) (p := ⟨w.heap.size, 1, none⟩) (Nat.lt_add_of_pos_right (by decide)) (.int .i64 et)) hb); clear E HV hs hb; have E := n0_; have HV := n1_; clear n0_ n1_; have f0 := blk_frozen E.out.k1 0; have f1 := blk_frozen E.out.k1 1; have c0 := (blk_cell E.out.k1 0).trans rfl; have c1 := (blk_cell E.out.k1 1).trans rfl)
    | ((with_reducible refine gate_dst (N := 20) rfl ?_); have n0_ := Aside0.mk (E.out.scan (S' := S2) (cs' := cs2) (l' := l2) (e' := en) (((Only.refl w.heap.size w2).set 0 (.slice S2 l2.length cs2)).set 1 (.int .i64 en)) (blk_put (blk_put E.out.k1 0 (.slice S2 l2.length cs2) rfl) 1 (.int .i64 en) rfl) HSC.out); have n1_ := Aside0.mk (R_set_low (R_set_low HV.out (p := ⟨w.heap.size, 0, none⟩) (Nat.lt_add_of_pos_right (by decide)) (.slice S2 l2.length cs2)) (p := ⟨w.heap.size, 1, none⟩) (Nat.lt_add_of_pos_right (by decide)) (.int .i64 en)); clear E HV HSC f0 f1 c0 c1; generalize (w2.setCell ⟨w.heap.size, 0, none⟩ (.slice S2 l2.length cs2)).setCell ⟨w.heap.size, 1, none⟩ (.int .i64 en) = w3 at *; have E := n0_; have HV := n1_; clear n0_ n1_; refine wpList_str rfl (.tmp 19) rfl V1 t rfl (Rd.own HV.out) ?_; have g0 : w3.frozen? ⟨w.heap.size + 1 + 1 + 1, 0, none⟩ = false := blk_frozen E.out.k4 0; have g1 : w3.frozen? ⟨w.heap.size + 1 + 1 + 1, 1, none⟩ = false := blk_frozen E.out.k4 1; have d0 : w3.cell? ⟨w.heap.size + 1 + 1 + 1, 0, none⟩ = some (.string ByteArray.empty) := (blk_cell E.out.k4 0).trans rfl; have q0 : w3.cell? ⟨w.heap.size, 0, none⟩ = some (.slice S2 l2.length cs2) := (blk_cell E.out.k1 0).trans rfl; have q1 : w3.cell? ⟨w.heap.size, 1, none⟩ = some (.int .i64 en) := (blk_cell E.out.k1 1).trans rfl; have d1 : w3.cell? ⟨w.heap.size + 1 + 1 + 1, 1, none⟩ = some (.bool false) := (blk_cell E.out.k4 1).trans rfl)
    | (go_at_call 52; have n0_ := Aside0.mk (Ent.entry (x' := ⟨strOfNums t, false, zeros32, []⟩) (A' := none) (c' := 0) E.out (((Only.refl (w.heap.size + 3) w3).set 0 (.string (strOfNums t))).set 1 (.bool false)) (blk_put (blk_put E.out.k4 0 (.string (strOfNums t)) rfl) 1 (.bool false) rfl) rfl); clear E HV g0 g1 d0 d1 q0 q1; have E := n0_; clear n0_; (with_reducible refine (num_calls E.out.sc (Below.trans E.out.b0 (Below.mono E.out.bl E.out.b0.size)) 0 256).mono ?_); rw [HC.out]; dsimp only; rw [HL3.out]; rintro e w4 ⟨v4, rfl, hs, hb⟩; obtain ⟨S3, cs3, rfl⟩ := hs.open; have HSC := Aside0.mk hs; have n0_ := Aside0.mk (E.out.below hb); clear E hs hb; have E := n0_; clear n0_; have f0 := blk_frozen E.out.k1 0; have f1 := blk_frozen E.out.k1 1; have c0 := (blk_cell E.out.k1 0).trans rfl; have c1 := (blk_cell E.out.k1 1).trans rfl)
    )
  have n0_ := Aside0.mk (E.out.scan (S' := S3) (cs' := cs3) (l' := l3) (e' := ec) (((Only.refl w.heap.size w4).set 0 (.slice S3 l3.length cs3)).set 1 (.int .i64 ec)) (blk_put (blk_put E.out.k1 0 (.slice S3 l3.length cs3) rfl) 1 (.int .i64 ec) rfl) HSC.out)
  clear E f0 f1 c0 c1 HSC
  have E := n0_
  clear n0_
  generalize (w4.setCell ⟨w.heap.size, 0, none⟩ (.slice S3 l3.length cs3)).setCell ⟨w.heap.size, 1, none⟩ (.int .i64 ec) = wq at *
  have n0_ := Aside0.mk (show (enG l).2 = (l3, ec) ∧ (ec = 0 → (enG l).1 = ⟨strOfNums t, false, zeros32, []⟩ ∧ kPc.R 78 wq (w.heap.size + 4) (fun _ => True) (.slice none 0 0) []) from ⟨HX.out.1, fun h0 => ⟨(HX.out.2 h0).1, (HX.out.2 h0).2 wq⟩⟩)
  clear HX
  have HX := n0_
  clear n0_
  go_loopw [41] (fun v41 wr => v41 = .int .i64 0 ∧ wr = wq) (fun _ _ => 0)
  case atStart => exact ⟨rfl, rfl⟩
  case round =>
    obtain ⟨rfl, rfl⟩ := hrel
    obtain ⟨wq, rfl⟩ : ∃ x : World, x = wr := ⟨_, rfl⟩
    go_wp2
    have q0 : wq.cell? ⟨w.heap.size, 0, none⟩ = some (.slice S3 l3.length cs3) := (blk_cell E.out.k1 0).trans rfl
    have q1 : wq.cell? ⟨w.heap.size, 1, none⟩ = some (.int .i64 ec) := (blk_cell E.out.k1 1).trans rfl
    refine start_ (n := 4) (S := fun w' => w'.cell? ⟨w.heap.size, 0, none⟩ = some (.slice S3 l3.length cs3) ∧ w'.cell? ⟨w.heap.size, 1, none⟩ = some (.int .i64 ec)) (ds := [3]) #[false, false, false, false] (by kernel_rfl) rfl rfl ⟨q0, q1⟩ (fun hHeld => ?_)
    refine take_ (i := 1) (N := some 66) (v := ?_) (a' := ?_) #[false, true, false, false] rfl rfl (by kernel_rfl) (fun _ _ _ h => h) (Or.inl ⟨by rfl, ?_⟩) hHeld ?_ ?_
    rotate_left
    · rintro w' ⟨s0, s1⟩
      go_simp
      with_reducible rfl
    rotate_left
    · simp only [Act.put, List.setIfInBounds_toArray, List.set_cons_zero, List.set_cons_succ, i64_w, i32_w]
      rfl
    refine one_ (i := 0) (N := some 65) #[true, true, false, false] rfl rfl (by kernel_rfl) (by decide) (fun K hK => ?_)
    refine value_ (w1 := wq.drew) (v := .agg (enV ⟨strOfNums t, false, zeros32, []⟩ none 0).toArray) (by rfl) rfl ?hld ?_
    case hld => exact run_load_part 75 (.tmp 4) rfl (w.heap.size + 1 + 1 + 1) 0 rfl (enV ⟨strOfNums t, false, zeros32, []⟩ none 0) _ (fun j v hj => by rw [Nat.zero_add]; exact E.out.drew.cell hj) Tryd.underlying75 rfl (by rw [enV_len _ _ _ E.out.tl]; exact info26)
    refine hK.out _ _ ⟨q0, q1⟩ (fun hHeld => ?_)
    clear hK K
    refine norm_ (a' := ?_) ?_ ?_
    rotate_left
    · show Act.put _ (some 65) _ = _
      simp only [Act.put, List.setIfInBounds_toArray, List.set_cons_zero, List.set_cons_succ, i64_w, i32_w]
      rfl
    refine one_ (i := 2) (N := none) #[true, true, true, false] rfl rfl (by kernel_rfl) (by decide) (fun K hK => ?_)
    refine skip_ (w1 := setRow wq.drew (w.heap.size + 1) 0 (enV ⟨strOfNums t, false, zeros32, []⟩ none 0) 0) (by rfl) rfl ?hst ?_
    case hst => exact run_store_row 75 (.tmp 2) (.tmp 65) rfl (w.heap.size + 1) 0 rfl (enV ⟨strOfNums t, false, zeros32, []⟩ none 0) rfl (by rw [enV_len _ _ _ E.out.tl]; exact info26) (enV_one _ _ _) (fun j hj => ⟨_, (blk_cell E.out.drew.k2 (0 + j)).trans (Array.getElem?_eq_getElem (by rw [enV_len _ _ _ E.out.tl] at hj; rw [Nat.zero_add]; exact hj))⟩) (fun j => blk_frozen E.out.drew.k2 j)
    have HO1 := Aside0.mk (Only.setRow (g := w.heap.size + 1) (off := 0) (enV ⟨strOfNums t, false, zeros32, []⟩ none 0) 0 _ (Only.refl (w.heap.size + 1) wq.drew))
    obtain ⟨wr, hwr⟩ : ∃ wr, setRow wq.drew (w.heap.size + 1) 0 (enV ⟨strOfNums t, false, zeros32, []⟩ none 0) 0 = wr := ⟨_, rfl⟩
    have HWR := Aside0.mk hwr
    have KR := Aside0.mk ((HO1.out.block _ (by omega : w.heap.size + 1 + 1 ≠ w.heap.size + 1)).trans E.out.drew.k3)
    have KE := Aside0.mk ((HO1.out.block _ (by omega : w.heap.size ≠ w.heap.size + 1)).trans E.out.drew.k1)
    rw [hwr] at KR KE ⊢
    clear hwr HO1 q0 q1
    have rz0 := (blk_cell KR.out 0).trans rfl
    have rz1 := (blk_cell KR.out 1).trans rfl
    have rf0 := blk_frozen KR.out 0
    have rf1 := blk_frozen KR.out 1
    refine hK.out _ _ ⟨(blk_cell KE.out 0).trans rfl, (blk_cell KE.out 1).trans rfl⟩ (fun hHeld => ?_)
    clear hK K
    refine last_ (i := 3) (N := none) #[true, true, true, true] rfl rfl (by kernel_rfl) (by decide) (fun K hK => ?_)
    refine skip_ (w1 := ?_) (by rfl) rfl ?_ ?_
    rotate_left
    · go_simp
      rfl
    refine hK.out _ _ ?_
    clear hK K
    refine done_ (by kernel_rfl) ?_
    go_wp2
    have HZ := E.out.out HWR.out rfl
    exact bodyPost_ret (results_cell_cell rfl _ _ (w.heap.size + 1) (w.heap.size + 1 + 1) _ _ rfl rfl HZ.r1 HZ.r2) rfl (EntOut.mk E.out HZ HX.out.1 HX.out.2)
end Go.Proofs.YthpgbhpnlnpfnaaDoor.Law

namespace Go.Proofs.YthpgbhpnlnpfnaaDoor.Law
open Go.RowKit Go.Proofs.YthpgbhpnlnpfnaaDoor Go.Proofs.YthpgbhpnlnpfnaaDoorW.PrintWords Go.Proofs.YthpgbhpnlnpfnaaDoorW.PrintLast Go.Proofs.YthpgbhpnlnpfnaaDoorW.PrintMore Go.Proofs.YthpgbhpnlnpfnaaDoor.E
set_option linter.unusedSimpArgs false
set_option linter.unusedVariables false
theorem info78a : (Tryd.prog.info? 78).map (fun i => (i.zero, i.size, i.bytes)) = some (some (.agg (pcV ⟨zeros32, 0⟩).toArray), kPc.sz, 40) := by kernel_rfl
theorem kPc_M {w : World} {base : Nat} {ok : Nat → Prop} {p : Pc} (h : p.id.length = 32) : kPc.M w base ok p (pcV p) := ⟨u8s p.id, [.int .i64 p.n], rfl, ⟨rfl, h⟩, rfl⟩
theorem far_new {w W : World} {g : Nat} {o : Obj} (h : w.heap.size + 4 ≤ g) (hb : W.heap[g]? = some o) : ∀ k, W.heap.size ≤ k → w.heap.size + 4 ≤ k ∧ k ≠ g := fun k hk => by
  have := blk_lt hb
  omega
theorem enV_set (x : En) (A A' : Option Addr) (c c' : Nat) (ps : List Pc) (hx : x.tree.length = 32) : (enV x A c).toArray.setIfInBounds 34 (.slice A' ps.length c') = (enV { x with ps := ps } A' c').toArray := by
  have h := enV_put_ps x A A' c c' ps hx
  have hl := enV_len x A c hx
  rw [← h, List.setIfInBounds_toArray, List.set_eq_take_append_cons_drop, if_pos (by rw [hl]; decide)]
  simp
set_option maxHeartbeats 4000000 in
set_option maxRecDepth 100000 in
theorem entry_file {w0 w : World} {S : Option Addr} {cs : Nat} {l : List Int} {t : List Int} {kt : Nat} {et : Int} {l1 : List Int} {kd : Int} {kn : Nat} {en : Int} {l2 : List Int} {cnt : Int} {ck : Nat} {ec : Int} {l3 : List Int} (h : Scn w0 (.agg (scV S l.length cs 0).toArray) l 0) (hw : Below w0.heap.size w0 w) (hm : l.length < 140737488355000)
    (ht : textP l 0 32 = (t, kt, et)) (hl1 : l.drop kt = l1) (hn : numP l1 et 0 1 = (kd, kn, en)) (hl2 : l1.drop kn = l2) (hkd : kd ≠ 1) (hc : numP l2 en 0 256 = (cnt, ck, ec)) (hl3 : l2.drop ck = l3) (hec : ec = 0) :
    Calls Tryd.prog 53 #[.agg (scV S l.length cs 0).toArray] w (EntOut w0 w l) := by
  have HM := Aside0.mk (show l.length < 140737488355328 by omega)
  have E := Aside0.mk (Ent.new h hw)
  have HT := Aside0.mk ht
  have HL1 := Aside0.mk hl1
  have HN := Aside0.mk hn
  have HL2 := Aside0.mk hl2
  have HM2 := Aside0.mk (show l2.length < 140737488355328 by rw [← hl2, ← hl1, List.length_drop, List.length_drop]; omega)
  have HC := Aside0.mk hc
  have HL3 := Aside0.mk hl3
  have HM3 := Aside0.mk (show l3.length < 140737488355328 by rw [← hl3, ← hl2, ← hl1, List.length_drop, List.length_drop, List.length_drop]; omega)
  have HX0 := Aside0.mk (show enG l = (⟨strOfNums t, false, zeros32, (pcsG cnt.toNat l3).1⟩, (pcsG cnt.toNat l3).2) from by
      unfold enG
      simp only [ht, hl1, hn, hl2, hkd, hc, hl3, hec, if_false, if_true, ne_eq, not_true_eq_false])
  have hcb : 0 ≤ cnt ∧ cnt ≤ 256 := by have := num_bd (l := l2) (er := en) (a := 0) (b := 256) (by rw [hc]; exact hec); rw [hc] at this; exact this
  obtain ⟨m, rfl⟩ : ∃ m : Nat, cnt = m := ⟨cnt.toNat, by omega⟩
  have HMC := Aside0.mk (show m ≤ 256 by omega)
  rw [Int.toNat_natCast] at HX0
  subst hec
  clear h hw hm ht hl1 hn hl2 hc hl3 hcb
  have hkb : (kd == 1) = false := beq_false_of_ne hkd
  go_enter Tryd.func53, Tryd.ntmps53
  go_wp2_with (first
    | ((with_reducible refine gate_dst (N := 2) rfl ?_); refine wpList_alloc_zero rfl 75 rfl _ info75z ?_)
    | ((with_reducible refine gate_dst (N := 3) rfl ?_); refine wpList_alloc_zero rfl 82 rfl _ info82z ?_)
    | ((with_reducible refine gate_dst (N := 4) rfl ?_); refine wpList_alloc_zero rfl 75 rfl _ info75z ?_)
    | ((with_reducible refine gate_dst (N := 10) rfl ?_); refine load_scan E.out rfl (.tmp 1) rfl rfl ?_)
    | (go_at_call 67; (with_reducible refine (text_calls E.out.sc (Below.trans E.out.b0 (Below.mono E.out.bl E.out.b0.size)) HM.out 32).mono ?_); rw [HT.out]; dsimp only; rw [HL1.out]; rintro e w1 ⟨V1, v1, rfl, hv, hs, hb⟩; obtain ⟨S1, cs1, rfl⟩ := hs.open; have HSC := Aside0.mk hs; have HV := Aside0.mk (Kd.R_lower hv E.out.size); have n0_ := Aside0.mk (E.out.below hb); clear E hv hs hb; have E := n0_; clear n0_; have f0 := blk_frozen E.out.k1 0; have f1 := blk_frozen E.out.k1 1; have c0 := (blk_cell E.out.k1 0).trans rfl; have c1 := (blk_cell E.out.k1 1).trans rfl)
    | (go_at_call 52; have n0_ := Aside0.mk (E.out.scan (S' := S1) (cs' := cs1) (l' := l1) (e' := et) (((Only.refl w.heap.size w1).set 0 (.slice S1 l1.length cs1)).set 1 (.int .i64 et)) (blk_put (blk_put E.out.k1 0 (.slice S1 l1.length cs1) rfl) 1 (.int .i64 et) rfl) HSC.out); clear E f0 f1 c0 c1 HSC; have E := n0_; clear n0_; (with_reducible refine (num_calls E.out.sc (Below.trans E.out.b0 (Below.mono E.out.bl E.out.b0.size)) 0 1).mono ?_); rw [HN.out]; dsimp only; rw [HL2.out]; rintro e w2 ⟨v2, rfl, hs, hb⟩; obtain ⟨S2, cs2, rfl⟩ := hs.open; have HSC := Aside0.mk hs; have n0_ := Aside0.mk (E.out.below hb); have n1_ := Aside0.mk (Kd.R_below (R_set_low (R_set_low HV.out (p := ⟨w.heap.size, 0, none⟩) (Nat.lt_add_of_pos_right (by decide)) (.slice S1 l1.length cs1)) (p := ⟨w.heap.size, 1, none⟩) (Nat.lt_add_of_pos_right (by decide)) (.int .i64 et)) hb); clear E HV hs hb; have E := n0_; have HV := n1_; clear n0_ n1_; have f0 := blk_frozen E.out.k1 0; have f1 := blk_frozen E.out.k1 1; have c0 := (blk_cell E.out.k1 0).trans rfl; have c1 := (blk_cell E.out.k1 1).trans rfl)
    | ((with_reducible refine gate_dst (N := 20) rfl ?_); have n0_ := Aside0.mk (E.out.scan (S' := S2) (cs' := cs2) (l' := l2) (e' := en) (((Only.refl w.heap.size w2).set 0 (.slice S2 l2.length cs2)).set 1 (.int .i64 en)) (blk_put (blk_put E.out.k1 0 (.slice S2 l2.length cs2) rfl) 1 (.int .i64 en) rfl) HSC.out); have n1_ := Aside0.mk (R_set_low (R_set_low HV.out (p := ⟨w.heap.size, 0, none⟩) (Nat.lt_add_of_pos_right (by decide)) (.slice S2 l2.length cs2)) (p := ⟨w.heap.size, 1, none⟩) (Nat.lt_add_of_pos_right (by decide)) (.int .i64 en)); clear E HV HSC f0 f1 c0 c1; generalize (w2.setCell ⟨w.heap.size, 0, none⟩ (.slice S2 l2.length cs2)).setCell ⟨w.heap.size, 1, none⟩ (.int .i64 en) = w3 at *; have E := n0_; have HV := n1_; clear n0_ n1_; refine wpList_str rfl (.tmp 19) rfl V1 t rfl (Rd.own HV.out) ?_; have g0 : w3.frozen? ⟨w.heap.size + 1 + 1 + 1, 0, none⟩ = false := blk_frozen E.out.k4 0; have g1 : w3.frozen? ⟨w.heap.size + 1 + 1 + 1, 1, none⟩ = false := blk_frozen E.out.k4 1; have d0 : w3.cell? ⟨w.heap.size + 1 + 1 + 1, 0, none⟩ = some (.string ByteArray.empty) := (blk_cell E.out.k4 0).trans rfl; have q0 : w3.cell? ⟨w.heap.size, 0, none⟩ = some (.slice S2 l2.length cs2) := (blk_cell E.out.k1 0).trans rfl; have q1 : w3.cell? ⟨w.heap.size, 1, none⟩ = some (.int .i64 en) := (blk_cell E.out.k1 1).trans rfl; have d1 : w3.cell? ⟨w.heap.size + 1 + 1 + 1, 1, none⟩ = some (.bool false) := (blk_cell E.out.k4 1).trans rfl)
    | (go_at_call 52; have n0_ := Aside0.mk (Ent.entry (x' := ⟨strOfNums t, false, zeros32, []⟩) (A' := none) (c' := 0) E.out (((Only.refl (w.heap.size + 3) w3).set 0 (.string (strOfNums t))).set 1 (.bool false)) (blk_put (blk_put E.out.k4 0 (.string (strOfNums t)) rfl) 1 (.bool false) rfl) rfl); clear E HV g0 g1 d0 d1 q0 q1; have E := n0_; clear n0_; (with_reducible refine (num_calls E.out.sc (Below.trans E.out.b0 (Below.mono E.out.bl E.out.b0.size)) 0 256).mono ?_); rw [HC.out]; dsimp only; rw [HL3.out]; rintro e w4 ⟨v4, rfl, hs, hb⟩; obtain ⟨S3, cs3, rfl⟩ := hs.open; have HSC := Aside0.mk hs; have n0_ := Aside0.mk (E.out.below hb); clear E hs hb; have E := n0_; clear n0_; have f0 := blk_frozen E.out.k1 0; have f1 := blk_frozen E.out.k1 1; have c0 := (blk_cell E.out.k1 0).trans rfl; have c1 := (blk_cell E.out.k1 1).trans rfl)
    )
  have n0_ := Aside0.mk (E.out.scan (S' := S3) (cs' := cs3) (l' := l3) (e' := 0) (((Only.refl w.heap.size w4).set 0 (.slice S3 l3.length cs3)).set 1 (.int .i64 0)) (blk_put (blk_put E.out.k1 0 (.slice S3 l3.length cs3) rfl) 1 (.int .i64 0) rfl) HSC.out)
  clear E f0 f1 c0 c1 HSC
  have E := n0_
  clear n0_
  generalize (w4.setCell ⟨w.heap.size, 0, none⟩ (.slice S3 l3.length cs3)).setCell ⟨w.heap.size, 1, none⟩ (.int .i64 0) = wq at *
  have HV := Aside0.mk (Kd.R_nil kPc 78 wq (w.heap.size + 4) (fun _ => True))
  have HJ := Aside0.mk (PJ.zero m l3)
  go_loopw [41] (fun v41 wr => ∃ (i : Nat) (ps : List Pc) (lr : List Int) (S : Option Addr) (cs : Nat) (A : Option Addr) (c : Nat), v41 = .int .i64 i ∧ i ≤ m ∧ Aside0 (Ent w0 w wr lr 0 S cs ⟨strOfNums t, false, zeros32, ps⟩ A c) ∧ Aside0 (kPc.R 78 wr (w.heap.size + 4) (fun _ => True) (.slice A ps.length c) ps) ∧ Aside0 (PJ m l3 i ps lr) ∧ Aside0 (lr.length < 140737488355328)) (fun v41 _ => m - (intOf v41).toNat)
  case atStart => exact ⟨0, [], l3, S3, cs3, none, 0, rfl, Nat.zero_le _, E, HV, HJ, HM3⟩
  case round =>
    obtain ⟨i, ps, lr, S4, cs4, A4, c4, rfl, hi, En_, HVn, HJn, HMn⟩ := hrel
    clear E HV HJ HM3
    have E := En_
    have HV := HVn
    have HJ := HJn
    have HM3 := HMn
    clear En_ HVn HJn HMn
    obtain ⟨wo, rfl⟩ : ∃ x : World, x = wr := ⟨_, rfl⟩
    by_cases hlt : i < m
    · have hltb : decide ((i : Int) < (m : Int)) = true := decide_eq_true (by omega)
      have hltn : decide (i < m) = true := decide_eq_true hlt
      have hltp : (i < m) = True := eq_true hlt
      have hwi : wrap64 ((i : Int) + 1) = (i : Int) + 1 := n64 (by omega) (by have := HMC.out; omega)
      have HLT := Aside0.mk hlt
      obtain ⟨f, fk, ef, hf⟩ : ∃ f fk ef, fixP lr 0 32 = (f, fk, ef) := ⟨_, _, _, rfl⟩
      have HF := Aside0.mk hf
      obtain ⟨l4, hl4⟩ : ∃ l4, lr.drop fk = l4 := ⟨_, rfl⟩
      have HL4 := Aside0.mk hl4
      obtain ⟨n, nk, e5, hn5⟩ : ∃ n nk e5, numP l4 ef 1 4096 = (n, nk, e5) := ⟨_, _, _, rfl⟩
      have HN5 := Aside0.mk hn5
      obtain ⟨l5, hl5⟩ : ∃ l5, l4.drop nk = l5 := ⟨_, rfl⟩
      have HL5 := Aside0.mk hl5
      have HP := Aside0.mk (show pcG lr = (⟨ids f, n⟩, l5, e5) by unfold pcG; simp only [hf, hl4, hn5, hl5])
      have HM5 := Aside0.mk (show l5.length < 140737488355328 by have := HM3.out; rw [← hl5, ← hl4, List.length_drop, List.length_drop]; omega)
      clear hf hl4 hn5 hl5 hlt hi
      by_cases he5 : e5 = 0
      · have hnb : (e5 != 0) = false := by rw [he5]; rfl
        have HE5 := Aside0.mk he5
        clear he5
        go_wp2_with (first
            | ((with_reducible refine gate_dst (N := 8) rfl ?_); refine wpList_alloc_zero rfl 78 rfl _ info78z ?_; have K8 := Aside0.mk (heap_alloc_new wo (.cells (pcV ⟨zeros32, 0⟩).toArray 78)); have n0_ := Aside0.mk (E.out.below (below_alloc (Below.refl _ _) (.cells (pcV ⟨zeros32, 0⟩).toArray 78))); have n1_ := Aside0.mk (Far.new HV.out (below_alloc (Below.refl _ _) (.cells (pcV ⟨zeros32, 0⟩).toArray 78))); have HG := Aside0.mk E.out.size; have hg1 := Nat.ne_of_gt (Nat.lt_of_lt_of_le (Nat.lt_add_of_pos_right (by decide)) HG.out); have hg2 := hg1.symm; clear E HV; have E := n0_; have HV := n1_; clear n0_ n1_; (try dsimp only [Value.cells]); generalize wo.alloc (.cells (pcV ⟨zeros32, 0⟩).toArray 78) = wa at *; generalize wo.heap.size = g8 at *; have f0 := blk_frozen E.out.k1 0; have f1 := blk_frozen E.out.k1 1; have c0 := (blk_cell E.out.k1 0).trans rfl; have c1 := (blk_cell E.out.k1 1).trans rfl)
            | (go_at_call 68; (with_reducible refine (id_calls E.out.sc (Below.trans E.out.b0 (Below.mono E.out.bl E.out.b0.size)) HM3.out).mono ?_); rw [HF.out]; dsimp only; rw [HL4.out]; rintro e w5 ⟨v5, rfl, hs, hb⟩; obtain ⟨S6, cs6, rfl⟩ := hs.open; have HSC := Aside0.mk hs; have n0_ := Aside0.mk (E.out.below hb); have n1_ := Aside0.mk (HV.out.below hb); have n2_ := Aside0.mk (blk_below K8.out hb); clear E HV K8 hs hb f0 f1 c0 c1; have E := n0_; have HV := n1_; have K8 := n2_; clear n0_ n1_ n2_)
            | ((with_reducible refine gate_store (t := 72) (p := 48) (v := .tmp 46) rfl ?_); refine wpList_store_blk rfl 72 (.tmp 48) (.tmp 46) rfl g8 0 rfl (.agg (u8s (ids f)).toArray) (u8s (ids f)) rfl rfl (by rw [u8s_len, ids_len]; exact info23) (u8s_one _) _ 78 K8.out (by rw [u8s_len, ids_len]; decide) ?_; rw [pcV_put_id ⟨zeros32, 0⟩ (ids f) rfl (ids_len f)]; intro w6 hk ho; have n0_ := Aside0.mk (E.out.bel (ho.below HG.out)); have n1_ := Aside0.mk (HV.out.only ho (Or.inr rfl)); clear E HV K8 ho; have E := n0_; have HV := n1_; have K8 := Aside0.mk hk; clear n0_ n1_ hk; have f0 := blk_frozen E.out.k1 0; have f1 := blk_frozen E.out.k1 1; have c0 := (blk_cell E.out.k1 0).trans rfl; have c1 := (blk_cell E.out.k1 1).trans rfl)
            | (go_at_call 52; have HOS := ((Only.refl w.heap.size w6).set 0 (.slice S6 l4.length cs6)).set 1 (.int .i64 ef); have n0_ := Aside0.mk (E.out.scan (S' := S6) (cs' := cs6) (l' := l4) (e' := ef) HOS (blk_put (blk_put E.out.k1 0 (.slice S6 l4.length cs6) rfl) 1 (.int .i64 ef) rfl) HSC.out); have n1_ := Aside0.mk (HV.out.only HOS (Or.inl (Nat.lt_add_of_pos_right (by decide)))); have n2_ := Aside0.mk ((HOS.block g8 (by have := HG.out; omega)).trans K8.out); clear E HV K8 HOS f0 f1 c0 c1 HSC; have E := n0_; have HV := n1_; have K8 := n2_; clear n0_ n1_ n2_; (with_reducible refine (num_calls E.out.sc (Below.trans E.out.b0 (Below.mono E.out.bl E.out.b0.size)) 1 4096).mono ?_); rw [HN5.out]; dsimp only; rw [HL5.out]; rintro e w7 ⟨v7, rfl, hs, hb⟩; obtain ⟨S7, cs7, rfl⟩ := hs.open; have HSC := Aside0.mk hs; have n0_ := Aside0.mk (E.out.below hb); have n1_ := Aside0.mk (HV.out.below hb); have n2_ := Aside0.mk (blk_below K8.out hb); clear E HV K8 hs hb; have E := n0_; have HV := n1_; have K8 := n2_; clear n0_ n1_ n2_; have f0 := blk_frozen E.out.k1 0; have f1 := blk_frozen E.out.k1 1; have c0 := (blk_cell E.out.k1 0).trans rfl; have c1 := (blk_cell E.out.k1 1).trans rfl; have f8 := blk_frozen K8.out 32; have c8 : w7.cell? ⟨g8, 32, none⟩ = some (.int .i64 0) := (blk_cell K8.out 32).trans (by rw [List.getElem?_toArray]; exact pcV_32 (ids_len f)))
            | (go_at_call 54; have HO8 := (Only.refl g8 w7).set 32 (.int .i64 n); have n0_ := Aside0.mk (E.out.bel (HO8.below HG.out)); have n1_ := Aside0.mk (HV.out.only HO8 (Or.inr rfl)); have n2_ := Aside0.mk (blk_put K8.out 32 (.int .i64 n) (pcV_set (ids f) n (ids_len f))); clear E HV K8 HO8 f0 f1 c0 c1 f8 c8; have E := n0_; have HV := n1_; have K8 := n2_; clear n0_ n1_ n2_; generalize w7.setCell ⟨g8, 32, none⟩ (.int .i64 n) = w8 at *; have HOS := ((Only.refl w.heap.size w8).set 0 (.slice S7 l5.length cs7)).set 1 (.int .i64 e5); have n0_ := Aside0.mk (E.out.scan (S' := S7) (cs' := cs7) (l' := l5) (e' := e5) HOS (blk_put (blk_put E.out.k1 0 (.slice S7 l5.length cs7) rfl) 1 (.int .i64 e5) rfl) HSC.out); have n1_ := Aside0.mk (HV.out.only HOS (Or.inl (Nat.lt_add_of_pos_right (by decide)))); have n2_ := Aside0.mk ((HOS.block g8 (by have := HG.out; omega)).trans K8.out); clear E HV K8 HOS HSC; have E := n0_; have HV := n1_; have K8 := n2_; clear n0_ n1_ n2_; (with_reducible refine (err_calls (E.out.sc.below (Below.trans E.out.b0 (Below.mono E.out.bl E.out.b0.size)))).mono ?_); rintro e w9 ⟨rfl, hb⟩; have n0_ := Aside0.mk (E.out.below hb); have n1_ := Aside0.mk (HV.out.below hb); have n2_ := Aside0.mk (blk_below K8.out hb); clear E HV K8 hb; have E := n0_; have HV := n1_; have K8 := n2_; clear n0_ n1_ n2_; have c34 : w9.cell? ⟨w.heap.size + 1 + 1 + 1, 34, none⟩ = some (.slice A4 ps.length c4) := E.out.cell (enV_34 _ _ _ E.out.tl))
            | ((with_reducible refine gate_dst (N := 60) rfl ?_); refine wpList_load_part rfl 78 (.tmp 8) rfl g8 0 rfl (pcV ⟨ids f, n⟩) _ (fun j v hv => by rw [Nat.zero_add, blk_cell K8.out, List.getElem?_toArray, hv]) Tryd.underlying78 rfl (by rw [pcV_len (p := ⟨ids f, n⟩) (ids_len f)]; exact info62) ?_)
            | ((with_reducible refine gate_dst (N := 61) rfl ?_); refine one_row rfl 73 78 33 _ Tryd.underlying73 info78b (by decide) (by decide) rfl (.tmp 60) rfl (pcV ⟨ids f, n⟩) (pcV_len (p := ⟨ids f, n⟩) (ids_len f)) rfl ?_)
            | ((with_reducible refine gate_builtin (b := .append) (xs := #[.tmp 59, .tmp 61]) rfl ?_); at_builtin; refine Kd.R_append kPc (w0 := w9) (w.heap.size + 4) rfl (.tmp 59) (.tmp 61) 73 78 _ 40 rfl Tryd.underlying73 info78a rfl (by decide) (by decide) (.slice A4 ps.length c4) ps ⟨ids f, n⟩ (pcV ⟨ids f, n⟩) (fun k => w.heap.size + 4 ≤ k ∧ k ≠ g8) (fun _ => False) rfl rfl (kPc_M (ids_len f)) (fun _ h => h.elim) (far_new HG.out K8.out) HV.out (Below.refl _ _) (Nat.le_trans HG.out (Nat.le_of_lt (blk_lt K8.out))) (by have := HJ.out.len; have := HLT.out; have := HMC.out; omega) ?_; intro V9 w10 ho hb9 hg hat; have n0_ := Aside0.mk (E.out.bel hb9); have n1_ := Aside0.mk (Kd.R_mono ho (fun _ _ => trivial)); obtain ⟨ps9, hp9⟩ : ∃ q, ps ++ [(⟨ids f, n⟩ : Pc)] = q := ⟨_, rfl⟩; rw [hp9] at n1_; have HP9 := Aside0.mk hp9; clear E HV K8 ho hb9 hg hat c34 hp9; have E := n0_; have HV := n1_; clear n0_ n1_; obtain ⟨A9, c9, rfl⟩ := Kd.R_slice HV.out; have f34 : w10.frozen? ⟨w.heap.size + 1 + 1 + 1, 34, none⟩ = false := blk_frozen E.out.k4 34; have c34 : w10.cell? ⟨w.heap.size + 1 + 1 + 1, 34, none⟩ = some (.slice A4 ps.length c4) := E.out.cell (enV_34 _ _ _ E.out.tl))
          )
        have HO9 := (Only.refl (w.heap.size + 3) w10).set 34 (.slice A9 ps9.length c9)
        have ENEW := Aside0.mk (Ent.entry (x' := ⟨strOfNums t, false, zeros32, ps9⟩) (A' := A9) (c' := c9) E.out HO9 (blk_put E.out.k4 34 (.slice A9 ps9.length c9) (enV_set _ _ _ _ _ _ rfl)) rfl)
        have HVN := Aside0.mk (R_only HV.out HO9 (by omega))
        rw [HE5.out] at HP ENEW
        have HJ2 := Aside0.mk (HJ.out.step HLT.out HP.out)
        rw [HP9.out] at HJ2
        clear E HV HO9 HJ f34 c34
        (try simp only [hwi])
        go_roundw
        case rel => exact ⟨i + 1, ps9, l5, S7, cs7, A9, c9, by go_num, by have := HLT.out; omega, ENEW, HVN, HJ2, HM5⟩
        case measure => simp [intOf]; have := HLT.out; omega
      · have hnb : (e5 != 0) = true := bne_iff_ne.mpr he5
        have HE5 := Aside0.mk he5
        clear he5
        go_wp2_with (first
            | ((with_reducible refine gate_dst (N := 8) rfl ?_); refine wpList_alloc_zero rfl 78 rfl _ info78z ?_; have K8 := Aside0.mk (heap_alloc_new wo (.cells (pcV ⟨zeros32, 0⟩).toArray 78)); have n0_ := Aside0.mk (E.out.below (below_alloc (Below.refl _ _) (.cells (pcV ⟨zeros32, 0⟩).toArray 78))); have n1_ := Aside0.mk (Far.new HV.out (below_alloc (Below.refl _ _) (.cells (pcV ⟨zeros32, 0⟩).toArray 78))); have HG := Aside0.mk E.out.size; have hg1 := Nat.ne_of_gt (Nat.lt_of_lt_of_le (Nat.lt_add_of_pos_right (by decide)) HG.out); have hg2 := hg1.symm; clear E HV; have E := n0_; have HV := n1_; clear n0_ n1_; (try dsimp only [Value.cells]); generalize wo.alloc (.cells (pcV ⟨zeros32, 0⟩).toArray 78) = wa at *; generalize wo.heap.size = g8 at *; have f0 := blk_frozen E.out.k1 0; have f1 := blk_frozen E.out.k1 1; have c0 := (blk_cell E.out.k1 0).trans rfl; have c1 := (blk_cell E.out.k1 1).trans rfl)
            | (go_at_call 68; (with_reducible refine (id_calls E.out.sc (Below.trans E.out.b0 (Below.mono E.out.bl E.out.b0.size)) HM3.out).mono ?_); rw [HF.out]; dsimp only; rw [HL4.out]; rintro e w5 ⟨v5, rfl, hs, hb⟩; obtain ⟨S6, cs6, rfl⟩ := hs.open; have HSC := Aside0.mk hs; have n0_ := Aside0.mk (E.out.below hb); have n1_ := Aside0.mk (HV.out.below hb); have n2_ := Aside0.mk (blk_below K8.out hb); clear E HV K8 hs hb f0 f1 c0 c1; have E := n0_; have HV := n1_; have K8 := n2_; clear n0_ n1_ n2_)
            | ((with_reducible refine gate_store (t := 72) (p := 48) (v := .tmp 46) rfl ?_); refine wpList_store_blk rfl 72 (.tmp 48) (.tmp 46) rfl g8 0 rfl (.agg (u8s (ids f)).toArray) (u8s (ids f)) rfl rfl (by rw [u8s_len, ids_len]; exact info23) (u8s_one _) _ 78 K8.out (by rw [u8s_len, ids_len]; decide) ?_; rw [pcV_put_id ⟨zeros32, 0⟩ (ids f) rfl (ids_len f)]; intro w6 hk ho; have n0_ := Aside0.mk (E.out.bel (ho.below HG.out)); have n1_ := Aside0.mk (HV.out.only ho (Or.inr rfl)); clear E HV K8 ho; have E := n0_; have HV := n1_; have K8 := Aside0.mk hk; clear n0_ n1_ hk; have f0 := blk_frozen E.out.k1 0; have f1 := blk_frozen E.out.k1 1; have c0 := (blk_cell E.out.k1 0).trans rfl; have c1 := (blk_cell E.out.k1 1).trans rfl)
            | (go_at_call 52; have HOS := ((Only.refl w.heap.size w6).set 0 (.slice S6 l4.length cs6)).set 1 (.int .i64 ef); have n0_ := Aside0.mk (E.out.scan (S' := S6) (cs' := cs6) (l' := l4) (e' := ef) HOS (blk_put (blk_put E.out.k1 0 (.slice S6 l4.length cs6) rfl) 1 (.int .i64 ef) rfl) HSC.out); have n1_ := Aside0.mk (HV.out.only HOS (Or.inl (Nat.lt_add_of_pos_right (by decide)))); have n2_ := Aside0.mk ((HOS.block g8 (by have := HG.out; omega)).trans K8.out); clear E HV K8 HOS f0 f1 c0 c1 HSC; have E := n0_; have HV := n1_; have K8 := n2_; clear n0_ n1_ n2_; (with_reducible refine (num_calls E.out.sc (Below.trans E.out.b0 (Below.mono E.out.bl E.out.b0.size)) 1 4096).mono ?_); rw [HN5.out]; dsimp only; rw [HL5.out]; rintro e w7 ⟨v7, rfl, hs, hb⟩; obtain ⟨S7, cs7, rfl⟩ := hs.open; have HSC := Aside0.mk hs; have n0_ := Aside0.mk (E.out.below hb); have n1_ := Aside0.mk (HV.out.below hb); have n2_ := Aside0.mk (blk_below K8.out hb); clear E HV K8 hs hb; have E := n0_; have HV := n1_; have K8 := n2_; clear n0_ n1_ n2_; have f0 := blk_frozen E.out.k1 0; have f1 := blk_frozen E.out.k1 1; have c0 := (blk_cell E.out.k1 0).trans rfl; have c1 := (blk_cell E.out.k1 1).trans rfl; have f8 := blk_frozen K8.out 32; have c8 : w7.cell? ⟨g8, 32, none⟩ = some (.int .i64 0) := (blk_cell K8.out 32).trans (by rw [List.getElem?_toArray]; exact pcV_32 (ids_len f)))
            | (go_at_call 54; have HO8 := (Only.refl g8 w7).set 32 (.int .i64 n); have n0_ := Aside0.mk (E.out.bel (HO8.below HG.out)); have n1_ := Aside0.mk (HV.out.only HO8 (Or.inr rfl)); have n2_ := Aside0.mk (blk_put K8.out 32 (.int .i64 n) (pcV_set (ids f) n (ids_len f))); clear E HV K8 HO8 f0 f1 c0 c1 f8 c8; have E := n0_; have HV := n1_; have K8 := n2_; clear n0_ n1_ n2_; generalize w7.setCell ⟨g8, 32, none⟩ (.int .i64 n) = w8 at *; have HOS := ((Only.refl w.heap.size w8).set 0 (.slice S7 l5.length cs7)).set 1 (.int .i64 e5); have n0_ := Aside0.mk (E.out.scan (S' := S7) (cs' := cs7) (l' := l5) (e' := e5) HOS (blk_put (blk_put E.out.k1 0 (.slice S7 l5.length cs7) rfl) 1 (.int .i64 e5) rfl) HSC.out); have n1_ := Aside0.mk (HV.out.only HOS (Or.inl (Nat.lt_add_of_pos_right (by decide)))); have n2_ := Aside0.mk ((HOS.block g8 (by have := HG.out; omega)).trans K8.out); clear E HV K8 HOS HSC; have E := n0_; have HV := n1_; have K8 := n2_; clear n0_ n1_ n2_; (with_reducible refine (err_calls (E.out.sc.below (Below.trans E.out.b0 (Below.mono E.out.bl E.out.b0.size)))).mono ?_); rintro e w9 ⟨rfl, hb⟩; have n0_ := Aside0.mk (E.out.below hb); have n1_ := Aside0.mk (HV.out.below hb); have n2_ := Aside0.mk (blk_below K8.out hb); clear E HV K8 hb; have E := n0_; have HV := n1_; have K8 := n2_; clear n0_ n1_ n2_; have c34 : w9.cell? ⟨w.heap.size + 1 + 1 + 1, 34, none⟩ = some (.slice A4 ps.length c4) := E.out.cell (enV_34 _ _ _ E.out.tl))
          )
        have HX := Aside0.mk (show (enG l).2 = (l5, e5) ∧ (e5 = 0 → (enG l).1 = ⟨strOfNums t, false, zeros32, ps⟩ ∧ kPc.R 78 w9 (w.heap.size + 4) (fun _ => True) (.slice A4 ps.length c4) ps) from by
          rw [HX0.out, HJ.out.stop HLT.out HP.out HE5.out]
          exact ⟨rfl, fun h => absurd h HE5.out⟩)
        clear HX0 HJ
        have q0 : w9.cell? ⟨w.heap.size, 0, none⟩ = some (.slice S7 l5.length cs7) := (blk_cell E.out.k1 0).trans rfl
        have q1 : w9.cell? ⟨w.heap.size, 1, none⟩ = some (.int .i64 e5) := (blk_cell E.out.k1 1).trans rfl
        refine start_ (n := 4) (S := fun w' => w'.cell? ⟨w.heap.size, 0, none⟩ = some (.slice S7 l5.length cs7) ∧ w'.cell? ⟨w.heap.size, 1, none⟩ = some (.int .i64 e5)) (ds := [3]) #[false, false, false, false] (by kernel_rfl) rfl rfl ⟨q0, q1⟩ (fun hHeld => ?_)
        refine take_ (i := 1) (N := some 66) (v := ?_) (a' := ?_) #[false, true, false, false] rfl rfl (by kernel_rfl) (fun _ _ _ h => h) (Or.inl ⟨by rfl, ?_⟩) hHeld ?_ ?_
        rotate_left
        · rintro w' ⟨s0, s1⟩
          go_simp
          with_reducible rfl
        rotate_left
        · simp only [Act.put, List.setIfInBounds_toArray, List.set_cons_zero, List.set_cons_succ, i64_w, i32_w]
          rfl
        refine one_ (i := 0) (N := some 65) #[true, true, false, false] rfl rfl (by kernel_rfl) (by decide) (fun K hK => ?_)
        refine value_ (w1 := w9.drew) (v := .agg (enV ⟨strOfNums t, false, zeros32, ps⟩ A4 c4).toArray) (by rfl) rfl ?hld ?_
        case hld => exact run_load_part 75 (.tmp 4) rfl (w.heap.size + 1 + 1 + 1) 0 rfl (enV ⟨strOfNums t, false, zeros32, ps⟩ A4 c4) _ (fun j v hj => by rw [Nat.zero_add]; exact E.out.drew.cell hj) Tryd.underlying75 rfl (by rw [enV_len _ _ _ E.out.tl]; exact info26)
        refine hK.out _ _ ⟨q0, q1⟩ (fun hHeld => ?_)
        clear hK K
        refine norm_ (a' := ?_) ?_ ?_
        rotate_left
        · show Act.put _ (some 65) _ = _
          simp only [Act.put, List.setIfInBounds_toArray, List.set_cons_zero, List.set_cons_succ, i64_w, i32_w]
          rfl
        refine one_ (i := 2) (N := none) #[true, true, true, false] rfl rfl (by kernel_rfl) (by decide) (fun K hK => ?_)
        refine skip_ (w1 := setRow w9.drew (w.heap.size + 1) 0 (enV ⟨strOfNums t, false, zeros32, ps⟩ A4 c4) 0) (by rfl) rfl ?hst ?_
        case hst => exact run_store_row 75 (.tmp 2) (.tmp 65) rfl (w.heap.size + 1) 0 rfl (enV ⟨strOfNums t, false, zeros32, ps⟩ A4 c4) rfl (by rw [enV_len _ _ _ E.out.tl]; exact info26) (enV_one _ _ _) (fun j hj => ⟨_, (blk_cell E.out.drew.k2 (0 + j)).trans (Array.getElem?_eq_getElem (by rw [enV_len _ _ _ E.out.tl] at hj; rw [Nat.zero_add]; exact hj))⟩) (fun j => blk_frozen E.out.drew.k2 j)
        have HO1 := Aside0.mk (Only.setRow (g := w.heap.size + 1) (off := 0) (enV ⟨strOfNums t, false, zeros32, ps⟩ A4 c4) 0 _ (Only.refl (w.heap.size + 1) w9.drew))
        obtain ⟨wr, hwr⟩ : ∃ wr, setRow w9.drew (w.heap.size + 1) 0 (enV ⟨strOfNums t, false, zeros32, ps⟩ A4 c4) 0 = wr := ⟨_, rfl⟩
        have HWR := Aside0.mk hwr
        have KR := Aside0.mk ((HO1.out.block _ (by omega : w.heap.size + 1 + 1 ≠ w.heap.size + 1)).trans E.out.drew.k3)
        have KE := Aside0.mk ((HO1.out.block _ (by omega : w.heap.size ≠ w.heap.size + 1)).trans E.out.drew.k1)
        rw [hwr] at KR KE ⊢
        clear hwr HO1 q0 q1
        have rz0 := (blk_cell KR.out 0).trans rfl
        have rz1 := (blk_cell KR.out 1).trans rfl
        have rf0 := blk_frozen KR.out 0
        have rf1 := blk_frozen KR.out 1
        refine hK.out _ _ ⟨(blk_cell KE.out 0).trans rfl, (blk_cell KE.out 1).trans rfl⟩ (fun hHeld => ?_)
        clear hK K
        refine last_ (i := 3) (N := none) #[true, true, true, true] rfl rfl (by kernel_rfl) (by decide) (fun K hK => ?_)
        refine skip_ (w1 := ?_) (by rfl) rfl ?_ ?_
        rotate_left
        · go_simp
          rfl
        refine hK.out _ _ ?_
        clear hK K
        refine done_ (by kernel_rfl) ?_
        go_wp2
        have HZ := E.out.out HWR.out rfl
        exact bodyPost_ret (results_cell_cell rfl _ _ (w.heap.size + 1) (w.heap.size + 1 + 1) _ _ rfl rfl HZ.r1 HZ.r2) rfl (EntOut.mk E.out HZ HX.out.1 HX.out.2)
    · obtain rfl : i = m := by omega
      have hltb : decide ((i : Int) < (i : Int)) = false := decide_eq_false (by omega)
      have HX := Aside0.mk (show (enG l).2 = (lr, 0) ∧ (True → (enG l).1 = ⟨strOfNums t, false, zeros32, ps⟩ ∧ kPc.R 78 wo (w.heap.size + 4) (fun _ => True) (.slice A4 ps.length c4) ps) from by
        rw [HX0.out, HJ.out.done]
        exact ⟨rfl, fun _ => ⟨rfl, HV.out⟩⟩)
      clear HX0 HJ
      go_wp2
      have q0 : wo.cell? ⟨w.heap.size, 0, none⟩ = some (.slice S4 lr.length cs4) := (blk_cell E.out.k1 0).trans rfl
      have q1 : wo.cell? ⟨w.heap.size, 1, none⟩ = some (.int .i64 0) := (blk_cell E.out.k1 1).trans rfl
      refine start_ (n := 4) (S := fun w' => w'.cell? ⟨w.heap.size, 0, none⟩ = some (.slice S4 lr.length cs4) ∧ w'.cell? ⟨w.heap.size, 1, none⟩ = some (.int .i64 0)) (ds := [3]) #[false, false, false, false] (by kernel_rfl) rfl rfl ⟨q0, q1⟩ (fun hHeld => ?_)
      refine take_ (i := 1) (N := some 66) (v := ?_) (a' := ?_) #[false, true, false, false] rfl rfl (by kernel_rfl) (fun _ _ _ h => h) (Or.inl ⟨by rfl, ?_⟩) hHeld ?_ ?_
      rotate_left
      · rintro w' ⟨s0, s1⟩
        go_simp
        with_reducible rfl
      rotate_left
      · simp only [Act.put, List.setIfInBounds_toArray, List.set_cons_zero, List.set_cons_succ, i64_w, i32_w]
        rfl
      refine one_ (i := 0) (N := some 65) #[true, true, false, false] rfl rfl (by kernel_rfl) (by decide) (fun K hK => ?_)
      refine value_ (w1 := wo.drew) (v := .agg (enV ⟨strOfNums t, false, zeros32, ps⟩ A4 c4).toArray) (by rfl) rfl ?hld ?_
      case hld => exact run_load_part 75 (.tmp 4) rfl (w.heap.size + 1 + 1 + 1) 0 rfl (enV ⟨strOfNums t, false, zeros32, ps⟩ A4 c4) _ (fun j v hj => by rw [Nat.zero_add]; exact E.out.drew.cell hj) Tryd.underlying75 rfl (by rw [enV_len _ _ _ E.out.tl]; exact info26)
      refine hK.out _ _ ⟨q0, q1⟩ (fun hHeld => ?_)
      clear hK K
      refine norm_ (a' := ?_) ?_ ?_
      rotate_left
      · show Act.put _ (some 65) _ = _
        simp only [Act.put, List.setIfInBounds_toArray, List.set_cons_zero, List.set_cons_succ, i64_w, i32_w]
        rfl
      refine one_ (i := 2) (N := none) #[true, true, true, false] rfl rfl (by kernel_rfl) (by decide) (fun K hK => ?_)
      refine skip_ (w1 := setRow wo.drew (w.heap.size + 1) 0 (enV ⟨strOfNums t, false, zeros32, ps⟩ A4 c4) 0) (by rfl) rfl ?hst ?_
      case hst => exact run_store_row 75 (.tmp 2) (.tmp 65) rfl (w.heap.size + 1) 0 rfl (enV ⟨strOfNums t, false, zeros32, ps⟩ A4 c4) rfl (by rw [enV_len _ _ _ E.out.tl]; exact info26) (enV_one _ _ _) (fun j hj => ⟨_, (blk_cell E.out.drew.k2 (0 + j)).trans (Array.getElem?_eq_getElem (by rw [enV_len _ _ _ E.out.tl] at hj; rw [Nat.zero_add]; exact hj))⟩) (fun j => blk_frozen E.out.drew.k2 j)
      have HO1 := Aside0.mk (Only.setRow (g := w.heap.size + 1) (off := 0) (enV ⟨strOfNums t, false, zeros32, ps⟩ A4 c4) 0 _ (Only.refl (w.heap.size + 1) wo.drew))
      obtain ⟨wr, hwr⟩ : ∃ wr, setRow wo.drew (w.heap.size + 1) 0 (enV ⟨strOfNums t, false, zeros32, ps⟩ A4 c4) 0 = wr := ⟨_, rfl⟩
      have HWR := Aside0.mk hwr
      have KR := Aside0.mk ((HO1.out.block _ (by omega : w.heap.size + 1 + 1 ≠ w.heap.size + 1)).trans E.out.drew.k3)
      have KE := Aside0.mk ((HO1.out.block _ (by omega : w.heap.size ≠ w.heap.size + 1)).trans E.out.drew.k1)
      rw [hwr] at KR KE ⊢
      clear hwr HO1 q0 q1
      have rz0 := (blk_cell KR.out 0).trans rfl
      have rz1 := (blk_cell KR.out 1).trans rfl
      have rf0 := blk_frozen KR.out 0
      have rf1 := blk_frozen KR.out 1
      refine hK.out _ _ ⟨(blk_cell KE.out 0).trans rfl, (blk_cell KE.out 1).trans rfl⟩ (fun hHeld => ?_)
      clear hK K
      refine last_ (i := 3) (N := none) #[true, true, true, true] rfl rfl (by kernel_rfl) (by decide) (fun K hK => ?_)
      refine skip_ (w1 := ?_) (by rfl) rfl ?_ ?_
      rotate_left
      · go_simp
        rfl
      refine hK.out _ _ ?_
      clear hK K
      refine done_ (by kernel_rfl) ?_
      go_wp2
      have HZ := E.out.out HWR.out rfl
      exact bodyPost_ret (results_cell_cell rfl _ _ (w.heap.size + 1) (w.heap.size + 1 + 1) _ _ rfl rfl HZ.r1 HZ.r2) rfl (EntOut.mk E.out HZ HX.out.1 (fun _ => HX.out.2 trivial))
end Go.Proofs.YthpgbhpnlnpfnaaDoor.Law

namespace Go.Proofs.YthpgbhpnlnpfnaaDoor.Law
open Go.RowKit Go.Proofs.YthpgbhpnlnpfnaaDoor Go.Proofs.YthpgbhpnlnpfnaaDoorW.PrintWords Go.Proofs.YthpgbhpnlnpfnaaDoor.E
theorem entry_calls {w0 w : World} {v : Value} {l : List Int} (h : Scn w0 v l 0) (hw : Below w0.heap.size w0 w) (hm : l.length < 140737488355000) : Calls Tryd.prog 53 #[v] w (EntOut w0 w l) := by
  obtain ⟨S, cs, rfl⟩ := h.open
  by_cases hkd : (numP (l.drop (textP l 0 32).2.1) (textP l 0 32).2.2 0 1).1 = 1
  · exact entry_dir h hw hm rfl rfl rfl rfl hkd rfl rfl
  · by_cases hec : (numP ((l.drop (textP l 0 32).2.1).drop (numP (l.drop (textP l 0 32).2.1) (textP l 0 32).2.2 0 1).2.1) (numP (l.drop (textP l 0 32).2.1) (textP l 0 32).2.2 0 1).2.2 0 256).2.2 = 0
    · exact entry_file h hw hm rfl rfl rfl rfl hkd rfl rfl hec
    · exact entry_bad h hw hm rfl rfl rfl rfl hkd rfl rfl hec
end Go.Proofs.YthpgbhpnlnpfnaaDoor.Law
