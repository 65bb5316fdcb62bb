/- The walks of ID: the program's and the document's. -/
import Derived.Test.YthpgbhpnlnpfnaaDoorQ7
import Derived.Test.YthpgbhpnlnpfnaaDoorQ8

namespace Go.Proofs.YthpgbhpnlnpfnaaDoor.Law
open Go.RowKit Go.Proofs.YthpgbhpnlnpfnaaDoor Go.Proofs.YthpgbhpnlnpfnaaDoorW.PrintWords Go.Proofs.YthpgbhpnlnpfnaaDoorW.PrintLast Go.Proofs.YthpgbhpnlnpfnaaDoorW.PrintMore Go.Proofs.YthpgbhpnlnpfnaaDoor.E
set_option linter.unusedSimpArgs false
section
variable {P : Program}
theorem run_store_row {o : Oper} {ev : Operand → Value} {w : World} (ty : TypeId) (x y : Operand) (ho : o.op = .store ty x y) (g off : Nat) (hx : ev x = .pointer (some ⟨g, off, none⟩)) (vs : List Value)
    (hy : ev y = .agg vs.toArray) (hi : (P.info? ty).map (·.size) = some vs.length) (h1 : ∀ v ∈ vs, v.oneCell' = true) (h2 : ∀ j, j < vs.length → ∃ u, w.cell? ⟨g, off + j, none⟩ = some u)
    (h3 : ∀ j, w.frozen? ⟨g, j, none⟩ = false) : (execOp ev o).run P w = .ok .skip (setRow w g off vs 0) := by
  have hs : (storeVar ty ⟨g, off, none⟩ (.agg vs.toArray)).run P w = .ok () (setRow w g off vs 0) := by
    cases hq : P.info? ty with
    | none => simp [hq] at hi
    | some i =>
      have hsz : i.size = vs.length := by simpa [hq] using hi
      have hr := run_storeCells_row (P := P) g off vs 0 w h1 (fun j hj => by rw [Nat.zero_add]; exact h2 j hj) h3
      simp [storeVar, sizeOf, typeInfo, hq, hsz, Value.cells, hr]
  unfold execOp
  simp only [ho, hx, hy, Instr.storeAt, Instr.sureAddr, Sem.run_bind, Sem.run_pure, Result.andThen_ok, hs]
theorem run_loadVar_part {w : World} (ty : TypeId) (g off : Nat) (vs : List Value) (d : TypeDesc) (hc : ∀ j v, vs[j]? = some v → w.cell? ⟨g, off + j, none⟩ = some v) (hu : P.underlying ty = some d)
    (hd : (match d with | .struct _ | .array _ _ => true | _ => false) = true) (hi : (P.info? ty).map (·.size) = some vs.length) : (loadVar ty ⟨g, off, none⟩).run P w = .ok (.agg vs.toArray) w := by
  have hl : (loadCells ⟨g, off, none⟩ vs.length).run P w = .ok vs.toArray w :=
    run_loadCells_list (P := P) w ⟨g, off, none⟩ vs (fun j v hv => by rw [addr_add]; exact hc j v hv)
  cases hq : P.info? ty with
  | none => simp [hq] at hi
  | some i =>
    have hs : i.size = vs.length := by simpa [hq] using hi
    have hagg : (isAgg ty).run P w = .ok true w := by
      unfold isAgg
      rw [Sem.run_bind, run_underlying hu w]
      cases d <;> simp_all
    simp [loadVar, Sem.run_bind, hagg, sizeOf, typeInfo, hq, hs, hl]
theorem run_load_part {o : Oper} {ev : Operand → Value} {w : World} (ty : TypeId) (x : Operand) (ho : o.op = .load ty x) (g off : Nat) (hx : ev x = .pointer (some ⟨g, off, none⟩)) (vs : List Value) (d : TypeDesc)
    (hc : ∀ j v, vs[j]? = some v → w.cell? ⟨g, off + j, none⟩ = some v) (hu : P.underlying ty = some d) (hd : (match d with | .struct _ | .array _ _ => true | _ => false) = true)
    (hi : (P.info? ty).map (·.size) = some vs.length) : (execOp ev o).run P w = .ok (.value (.agg vs.toArray)) w := by
  have hl := run_loadVar_part (P := P) ty g off vs d hc hu hd hi
  unfold execOp
  simp only [ho, hx, Instr.loadAt, Instr.sureAddr, Sem.run_bind, Sem.run_pure, Result.andThen_ok, hl]
theorem results_cell_cell {fn : Func} {p q : Tmp} {ty tz : TypeId} (h : fn.results = #[.cell p ty, .cell q tz]) (tmps : Array Value) (w : World) (g k : Nat) (u v : Value)
    (hp : tmps.getD p undef = .pointer (some ⟨g, 0, none⟩)) (hq : tmps.getD q undef = .pointer (some ⟨k, 0, none⟩)) (h1 : (loadVar ty ⟨g, 0, none⟩).run P w = .ok u w) (h2 : (loadVar tz ⟨k, 0, none⟩).run P w = .ok v w) :
    (results fn tmps).run P w = .ok (.tuple #[u, v]) w := by
  have hp' : tmps[p]?.getD undef = .pointer (some ⟨g, 0, none⟩) := by simpa using hp
  have hq' : tmps[q]?.getD undef = .pointer (some ⟨k, 0, none⟩) := by simpa using hq
  simp [results, h, hp', hq', asAddr, Result.andThen, h1, h2]
end
theorem cell_row {e base g p : Nat} {w w' : World} {l : List Int} (h : Kd.R (Kd.int .u8) e w base (fun _ => True) (.slice (some ⟨g, 0, none⟩) l.length p) l) (hb : Below w.heap.size w w') (i : Nat) (hi : i < l.length) : w'.cell? ⟨g, i, none⟩ = some (.int .u8 (l.getD i 0)) := by
  have hc := (Kd.R_cell (enc := Value.int .u8) (d := (0 : Int)) (h1 := fun _ => rfl) h (i : Int) (by omega) (by omega)).1
  rw [Int.toNat_natCast] at hc
  have := (hb.cell (World.block_lt_of_cell? w _ hc)).trans hc
  rw [this]; unfold rdOf; rw [Int.toNat_natCast]
theorem u8s_get {l : List Int} {j : Nat} {v : Value} (h : (u8s l)[j]? = some v) : j < l.length ∧ v = .int .u8 (l.getD j 0) := by
  unfold u8s at h
  rw [List.getElem?_map] at h
  rcases Nat.lt_or_ge j l.length with hj | hj
  · refine ⟨hj, ?_⟩
    rw [List.getElem?_eq_getElem hj] at h
    rw [List.getD_eq_getElem?_getD, List.getElem?_eq_getElem hj]
    exact (Option.some.inj h).symm
  · rw [List.getElem?_eq_none hj] at h; cases h
abbrev zv32 : List Value := [.int .u8 0, .int .u8 0, .int .u8 0, .int .u8 0, .int .u8 0, .int .u8 0, .int .u8 0, .int .u8 0, .int .u8 0, .int .u8 0, .int .u8 0, .int .u8 0, .int .u8 0, .int .u8 0, .int .u8 0, .int .u8 0, .int .u8 0, .int .u8 0, .int .u8 0, .int .u8 0, .int .u8 0, .int .u8 0, .int .u8 0, .int .u8 0, .int .u8 0, .int .u8 0, .int .u8 0, .int .u8 0, .int .u8 0, .int .u8 0, .int .u8 0, .int .u8 0]
/-- the id that is told -/
def ids (b : List Int) : List Int := if b.length = 32 then b else zeros32
theorem ids_len (b : List Int) : (ids b).length = 32 := by unfold ids; split
                                                           · assumption
                                                           · rfl
theorem fix32 (l : List Int) (er : Int) : (fixP l er 32).1 = [] ∨ (fixP l er 32).1.length = 32 := by
  unfold fixP
  split
  · exact .inl rfl
  · split
    · exact .inl rfl
    · rename_i h; right; rw [List.length_take]; omega
theorem info65 : (Tryd.prog.info? 72).map (·.size) = some 32 := by kernel_rfl
theorem updRow_all (C : Nat → Value) (l : List Int) (h : l.length = 32) (j : Nat) (hj : j < 32) : updRow C 0 (u8s l) 0 j = .int .u8 (l.getD j 0) := by
  have hl := u8s_len l
  unfold updRow
  rw [if_pos (by omega), Nat.add_zero, Nat.sub_zero, List.getD_eq_getElem?_getD]
  unfold u8s
  rw [List.getElem?_map, List.getElem?_eq_getElem (by omega), List.getD_eq_getElem?_getD, List.getElem?_eq_getElem (by omega)]; rfl
theorem blk_read {w : World} {g : Nat} {C : Nat → Value} {l : List Int} (hb : Blk w g 32 C) (h : l.length = 32) (hC : ∀ j, j < 32 → C j = .int .u8 (l.getD j 0)) : (loadVar 72 ⟨g, 0, none⟩).run Tryd.prog w = .ok (.agg (u8s l).toArray) w :=
  run_loadVar_part 72 g 0 (u8s l) _ (fun j v hv => by obtain ⟨h1, rfl⟩ := u8s_get hv; rw [Nat.zero_add, hb.cell j (by omega), hC j (by omega)]) Tryd.underlying72 rfl (by rw [u8s_len, h]; exact info65)
theorem only_heap {g k : Nat} {w w' : World} {o : Obj} (h : Only g w w') (hk : k ≠ g) (hb : w.heap[k]? = some o) : w'.heap[k]? = some o := (h.block k hk).trans hb
theorem zeros_getD : ∀ i, i < 32 → zeros32.getD i 0 = 0 := by decide
theorem run_arrayAt (ad : Addr) (c : Nat) (w' : World) : (Instr.arrayAt 72 (.slice (some ad) 32 c)).run Tryd.prog w' = .ok (.pointer (some ad)) w' := by
  have hu := run_underlying Tryd.underlying72 w'
  unfold Instr.arrayAt
  rw [Sem.run_bind, hu]
  simp [Result.andThen]
theorem heap_alloc3_new (w : World) (A B C : Obj) : (((w.alloc A).alloc B).alloc C).heap[w.heap.size + 1 + 1]? = some C := by
  have h := heap_alloc_new ((w.alloc A).alloc B) C
  have e : ((w.alloc A).alloc B).heap.size = w.heap.size + 1 + 1 := by
    show ((w.heap.push A).push B).size = _
    simp
  rwa [e] at h
theorem blk_of_heap {w : World} {g n : Nat} {cs : List Value} {t : TypeId} (h : w.heap[g]? = some (.cells cs.toArray t (0, 0))) (hn : cs.length = n) : Blk w g n (fun i => cs.getD i undef) := by
  refine ⟨fun i hi => ?_, fun i => blk_frozen h i⟩
  rw [blk_cell h i, List.getElem?_toArray, List.getD_eq_getElem?_getD, List.getElem?_eq_getElem (by omega)]; rfl
theorem blk_other {w : World} {g k n : Nat} {C : Nat → Value} (hb : Blk w g n C) (hk : k ≠ g) (j : Nat) (u : Value) : Blk (w.setCell ⟨k, j, none⟩ u) g n C := ((Only.refl k w).set j u).blk hb (fun h => hk h.symm)
set_option maxHeartbeats 4000000 in
set_option maxRecDepth 100000 in
theorem id_0 (A : Option Addr) (c : Nat) (er e : Int) (k : Nat) (l l' b : List Int) (w0 w : World) (hr : Kd.C (Kd.int .u8) w0 A l.length l) (hc : l.length ≤ c) (hb : Bytes l) (hw : Below w0.heap.size w0 w) (hm : l.length < 140737488355328) (hp : fixP l er 32 = (b, k, e)) (hl : l.drop k = l') (hb0 : b = []) :
    Calls Tryd.prog 68 #[.agg #[.slice A l.length c, .int .i64 er]] w fun x w' => ∃ v', x = .returned (.tuple #[.agg (u8s zeros32).toArray, v']) ∧ Scn w0 v' l' e ∧ Below w.heap.size w w' := by
  have HS := Aside0.mk (show Scn w0 (.agg #[.slice A l.length c, .int .i64 er]) l er from ⟨A, c, rfl, hr, hc, hb⟩)
  have HW := Aside0.mk hw
  have HP := Aside0.mk hp
  have HL := Aside0.mk hl
  clear hr hc hb hw hp hl
  subst hb0
  go_enter Tryd.func68, Tryd.ntmps68
  go_wp2_with (first | (go_at_call 74; refine (fix_calls HS.out (below_alloc (below_alloc2 HW.out _ _) _) hm 32).mono ?_; rw [HP.out]; dsimp only; rw [HL.out]; rintro x w2 ⟨V, v', rfl, hv, ⟨A', c', rfl, hr', hc', hy'⟩, hb⟩; have K2 := Aside0.mk (blk_below (blk_below (blk_below (heap_alloc2_new w (.cells #[.slice A l.length c, .int .i64 er] 82) (.cells #[.int .u8 0, .int .u8 0, .int .u8 0, .int .u8 0, .int .u8 0, .int .u8 0, .int .u8 0, .int .u8 0, .int .u8 0, .int .u8 0, .int .u8 0, .int .u8 0, .int .u8 0, .int .u8 0, .int .u8 0, .int .u8 0, .int .u8 0, .int .u8 0, .int .u8 0, .int .u8 0, .int .u8 0, .int .u8 0, .int .u8 0, .int .u8 0, .int .u8 0, .int .u8 0, .int .u8 0, .int .u8 0, .int .u8 0, .int .u8 0, .int .u8 0, .int .u8 0] 72)) (below_alloc (Below.refl _ _) (.cells #[.slice none 0 0, .int .i64 0] 82))) hb) (below_alloc (Below.refl w2.heap.size w2) (.cells #[.slice A' l'.length c', .int .i64 e] 82))); have K3 := Aside0.mk (blk_below (blk_below (heap_alloc3_new w (.cells #[.slice A l.length c, .int .i64 er] 82) (.cells #[.int .u8 0, .int .u8 0, .int .u8 0, .int .u8 0, .int .u8 0, .int .u8 0, .int .u8 0, .int .u8 0, .int .u8 0, .int .u8 0, .int .u8 0, .int .u8 0, .int .u8 0, .int .u8 0, .int .u8 0, .int .u8 0, .int .u8 0, .int .u8 0, .int .u8 0, .int .u8 0, .int .u8 0, .int .u8 0, .int .u8 0, .int .u8 0, .int .u8 0, .int .u8 0, .int .u8 0, .int .u8 0, .int .u8 0, .int .u8 0, .int .u8 0, .int .u8 0] 72) (.cells #[.slice none 0 0, .int .i64 0] 82)) hb) (below_alloc (Below.refl w2.heap.size w2) (.cells #[.slice A' l'.length c', .int .i64 e] 82))); have K5 := Aside0.mk (heap_alloc_new w2 (.cells #[.slice A' l'.length c', .int .i64 e] 82)); have HB2 := Aside0.mk (below_step (below_alloc (below_alloc2 (Below.refl w.heap.size w) (.cells #[.slice A l.length c, .int .i64 er] 82) (.cells #[.int .u8 0, .int .u8 0, .int .u8 0, .int .u8 0, .int .u8 0, .int .u8 0, .int .u8 0, .int .u8 0, .int .u8 0, .int .u8 0, .int .u8 0, .int .u8 0, .int .u8 0, .int .u8 0, .int .u8 0, .int .u8 0, .int .u8 0, .int .u8 0, .int .u8 0, .int .u8 0, .int .u8 0, .int .u8 0, .int .u8 0, .int .u8 0, .int .u8 0, .int .u8 0, .int .u8 0, .int .u8 0, .int .u8 0, .int .u8 0, .int .u8 0, .int .u8 0] 72)) (.cells #[.slice none 0 0, .int .i64 0] 82)) hb); have HB := Aside0.mk (below_alloc HB2.out (.cells #[.slice A' l'.length c', .int .i64 e] 82)); have hg5 := (below_size (below_step (below_alloc (below_alloc2 (Below.refl w.heap.size w) (.cells #[.slice A l.length c, .int .i64 er] 82) (.cells #[.int .u8 0, .int .u8 0, .int .u8 0, .int .u8 0, .int .u8 0, .int .u8 0, .int .u8 0, .int .u8 0, .int .u8 0, .int .u8 0, .int .u8 0, .int .u8 0, .int .u8 0, .int .u8 0, .int .u8 0, .int .u8 0, .int .u8 0, .int .u8 0, .int .u8 0, .int .u8 0, .int .u8 0, .int .u8 0, .int .u8 0, .int .u8 0, .int .u8 0, .int .u8 0, .int .u8 0, .int .u8 0, .int .u8 0, .int .u8 0, .int .u8 0, .int .u8 0] 72)) (.cells #[.slice none 0 0, .int .i64 0] 82)) hb)); have h35 := blk_lt (blk_below (heap_alloc3_new w (.cells #[.slice A l.length c, .int .i64 er] 82) (.cells #[.int .u8 0, .int .u8 0, .int .u8 0, .int .u8 0, .int .u8 0, .int .u8 0, .int .u8 0, .int .u8 0, .int .u8 0, .int .u8 0, .int .u8 0, .int .u8 0, .int .u8 0, .int .u8 0, .int .u8 0, .int .u8 0, .int .u8 0, .int .u8 0, .int .u8 0, .int .u8 0, .int .u8 0, .int .u8 0, .int .u8 0, .int .u8 0, .int .u8 0, .int .u8 0, .int .u8 0, .int .u8 0, .int .u8 0, .int .u8 0, .int .u8 0, .int .u8 0] 72) (.cells #[.slice none 0 0, .int .i64 0] 82)) hb); have HSn := Aside0.mk (show Scn w0 (.agg #[.slice A' l'.length c', .int .i64 e]) l' e from ⟨A', c', rfl, hr', hc', hy'⟩); obtain ⟨Av, cv, rfl, _, _⟩ := Rd.own hv; clear hr' hc' hy' hv hb))
  generalize w2.alloc (.cells #[.slice A' l'.length c', .int .i64 e] 82) = wq at *
  generalize hge : w2.heap.size = ge at *
  have HLN := Aside0.mk (show zeros32.length = 32 from rfl)
  have HQ := Aside0.mk (show Blk wq.drew (w.heap.size + 1) 32 _ from blk_of_heap (cs := u8s zeros32) (t := 72) K2.out rfl)
  refine start_ (n := 4) (S := fun w' => w'.cell? ⟨ge, 0, none⟩ = some (.slice A' l'.length c') ∧ w'.cell? ⟨ge, 1, none⟩ = some (.int .i64 e)) (ds := [3]) #[false, false, false, false] (by kernel_rfl) rfl rfl ⟨(blk_cell K5.out 0).trans rfl, (blk_cell K5.out 1).trans rfl⟩ (fun hHeld => ?_)
  refine pure_ (i := 0) (N := some 14) (v := ?_) (a' := ?_) #[true, false, false, false] rfl rfl (by kernel_rfl) (fun _ _ _ h => h) (Or.inl ⟨by rfl, ?_⟩) ?_ ?_
  rotate_left
  · intro w'
    go_simp
    with_reducible rfl
  rotate_left
  · simp only [Act.put, List.setIfInBounds_toArray, List.set_cons_zero, List.set_cons_succ, i64_w, i32_w]
    rfl
  refine take_ (i := 1) (N := some 15) (v := ?_) (a' := ?_) #[true, true, false, false] rfl rfl (by kernel_rfl) (fun _ _ _ h => h) (Or.inl ⟨by rfl, ?_⟩) hHeld ?_ ?_
  rotate_left
  · rintro w' ⟨s0, s1⟩
    go_simp
    with_reducible rfl
  rotate_left
  · simp only [Act.put, List.setIfInBounds_toArray, List.set_cons_zero, List.set_cons_succ, i64_w, i32_w]
    rfl
  refine one_ (i := 2) (N := none) #[true, true, true, false] rfl rfl (by kernel_rfl) (by decide) (fun K hK => ?_)
  refine skip_ (w1 := setRow wq.drew (w.heap.size + 1) 0 (u8s zeros32) 0) (by rfl) rfl ?hst ?_
  case hst => exact run_store_row 72 (.tmp 2) (.tmp 14) rfl (w.heap.size + 1) 0 rfl (u8s zeros32) rfl (by rw [u8s_len, HLN.out]; exact info65) (u8s_one _) (fun j hj => ⟨_, HQ.out.cell (0 + j) (by rw [u8s_len, HLN.out] at hj; omega)⟩) HQ.out.fz
  have HO1 := Aside0.mk (Only.setRow (g := w.heap.size + 1) (off := 0) (u8s zeros32) 0 _ (Only.refl (w.heap.size + 1) wq.drew))
  have hqs := Blk.setRow (n := 32) (off := 0) (u8s zeros32) 0 wq.drew _ HQ.out (by rw [u8s_len, HLN.out]; omega)
  have HQ1 := Aside0.mk (Blk.congr hqs (C' := fun j => .int .u8 (zeros32.getD j 0)) (fun j hj => (updRow_all _ zeros32 HLN.out j hj).symm))
  clear hqs
  have KR := Aside0.mk (only_heap (k := w.heap.size + 1 + 1) HO1.out (by omega) K3.out)
  have HOb := Aside0.mk ((below_drew1 HB.out).trans (HO1.out.below (by omega)))
  have KE := Aside0.mk (only_heap (k := ge) HO1.out (by omega) K5.out)
  clear HO1
  generalize setRow wq.drew (w.heap.size + 1) 0 (u8s zeros32) 0 = wr at *
  have rz0 := (blk_cell KR.out 0).trans rfl
  have rz1 := (blk_cell KR.out 1).trans rfl
  have rf0 := blk_frozen KR.out 0
  have rf1 := blk_frozen KR.out 1
  refine hK.out _ _ ⟨(blk_cell KE.out 0).trans rfl, (blk_cell KE.out 1).trans rfl⟩ (fun hHeld => ?_)
  clear hK K
  refine last_ (i := 3) (N := none) #[true, true, true, true] rfl rfl (by kernel_rfl) (by decide) (fun K hK => ?_)
  refine skip_ (w1 := ?_) (by rfl) rfl ?_ ?_
  rotate_left
  · go_simp
    rfl
  refine hK.out _ _ ?_
  clear hK K
  refine done_ (by kernel_rfl) ?_
  go_wp2
  have hbb := below_set (j := 1) (v := .int .i64 e) (below_set (j := 0) (v := .slice A' l'.length c') HOb.out (Nat.le_succ_of_le (Nat.le_succ _))) (Nat.le_succ_of_le (Nat.le_succ _))
  exact bodyPost_ret (results_cell_cell rfl _ _ (w.heap.size + 1) (w.heap.size + 1 + 1) (.agg (u8s zeros32).toArray) _ rfl rfl (blk_read (blk_other (k := w.heap.size + 1 + 1) (blk_other (k := w.heap.size + 1 + 1) HQ1.out (by omega) 0 _) (by omega) 1 _) HLN.out (fun _ _ => rfl)) (run_loadVar_row _ _ 82 _ _ (0, 0) _ (blk_put (blk_put KR.out 0 _ rfl) 1 _ rfl) Tryd.underlying82 rfl (by kernel_rfl))) rfl ⟨_, rfl, HSn.out, hbb⟩
set_option maxHeartbeats 4000000 in
set_option maxRecDepth 100000 in
theorem id_1 (A : Option Addr) (c : Nat) (er e : Int) (k : Nat) (l l' b : List Int) (w0 w : World) (hr : Kd.C (Kd.int .u8) w0 A l.length l) (hc : l.length ≤ c) (hb : Bytes l) (hw : Below w0.heap.size w0 w) (hm : l.length < 140737488355328) (hp : fixP l er 32 = (b, k, e)) (hl : l.drop k = l') (hb32 : b.length = 32) :
    Calls Tryd.prog 68 #[.agg #[.slice A l.length c, .int .i64 er]] w fun x w' => ∃ v', x = .returned (.tuple #[.agg (u8s b).toArray, v']) ∧ Scn w0 v' l' e ∧ Below w.heap.size w w' := by
  have HS := Aside0.mk (show Scn w0 (.agg #[.slice A l.length c, .int .i64 er]) l er from ⟨A, c, rfl, hr, hc, hb⟩)
  have HW := Aside0.mk hw
  have HP := Aside0.mk hp
  have HL := Aside0.mk hl
  clear hr hc hb hw hp hl
  go_enter Tryd.func68, Tryd.ntmps68
  go_wp2_with (first | (go_at_call 74; refine (fix_calls HS.out (below_alloc (below_alloc2 HW.out _ _) _) hm 32).mono ?_; rw [HP.out]; dsimp only; rw [HL.out]; rintro x w2 ⟨V, v', rfl, hv, ⟨A', c', rfl, hr', hc', hy'⟩, hb⟩; have K2 := Aside0.mk (blk_below (blk_below (blk_below (heap_alloc2_new w (.cells #[.slice A l.length c, .int .i64 er] 82) (.cells #[.int .u8 0, .int .u8 0, .int .u8 0, .int .u8 0, .int .u8 0, .int .u8 0, .int .u8 0, .int .u8 0, .int .u8 0, .int .u8 0, .int .u8 0, .int .u8 0, .int .u8 0, .int .u8 0, .int .u8 0, .int .u8 0, .int .u8 0, .int .u8 0, .int .u8 0, .int .u8 0, .int .u8 0, .int .u8 0, .int .u8 0, .int .u8 0, .int .u8 0, .int .u8 0, .int .u8 0, .int .u8 0, .int .u8 0, .int .u8 0, .int .u8 0, .int .u8 0] 72)) (below_alloc (Below.refl _ _) (.cells #[.slice none 0 0, .int .i64 0] 82))) hb) (below_alloc (Below.refl w2.heap.size w2) (.cells #[.slice A' l'.length c', .int .i64 e] 82))); have K3 := Aside0.mk (blk_below (blk_below (heap_alloc3_new w (.cells #[.slice A l.length c, .int .i64 er] 82) (.cells #[.int .u8 0, .int .u8 0, .int .u8 0, .int .u8 0, .int .u8 0, .int .u8 0, .int .u8 0, .int .u8 0, .int .u8 0, .int .u8 0, .int .u8 0, .int .u8 0, .int .u8 0, .int .u8 0, .int .u8 0, .int .u8 0, .int .u8 0, .int .u8 0, .int .u8 0, .int .u8 0, .int .u8 0, .int .u8 0, .int .u8 0, .int .u8 0, .int .u8 0, .int .u8 0, .int .u8 0, .int .u8 0, .int .u8 0, .int .u8 0, .int .u8 0, .int .u8 0] 72) (.cells #[.slice none 0 0, .int .i64 0] 82)) hb) (below_alloc (Below.refl w2.heap.size w2) (.cells #[.slice A' l'.length c', .int .i64 e] 82))); have K5 := Aside0.mk (heap_alloc_new w2 (.cells #[.slice A' l'.length c', .int .i64 e] 82)); have HB2 := Aside0.mk (below_step (below_alloc (below_alloc2 (Below.refl w.heap.size w) (.cells #[.slice A l.length c, .int .i64 er] 82) (.cells #[.int .u8 0, .int .u8 0, .int .u8 0, .int .u8 0, .int .u8 0, .int .u8 0, .int .u8 0, .int .u8 0, .int .u8 0, .int .u8 0, .int .u8 0, .int .u8 0, .int .u8 0, .int .u8 0, .int .u8 0, .int .u8 0, .int .u8 0, .int .u8 0, .int .u8 0, .int .u8 0, .int .u8 0, .int .u8 0, .int .u8 0, .int .u8 0, .int .u8 0, .int .u8 0, .int .u8 0, .int .u8 0, .int .u8 0, .int .u8 0, .int .u8 0, .int .u8 0] 72)) (.cells #[.slice none 0 0, .int .i64 0] 82)) hb); have HB := Aside0.mk (below_alloc HB2.out (.cells #[.slice A' l'.length c', .int .i64 e] 82)); have hg5 := (below_size (below_step (below_alloc (below_alloc2 (Below.refl w.heap.size w) (.cells #[.slice A l.length c, .int .i64 er] 82) (.cells #[.int .u8 0, .int .u8 0, .int .u8 0, .int .u8 0, .int .u8 0, .int .u8 0, .int .u8 0, .int .u8 0, .int .u8 0, .int .u8 0, .int .u8 0, .int .u8 0, .int .u8 0, .int .u8 0, .int .u8 0, .int .u8 0, .int .u8 0, .int .u8 0, .int .u8 0, .int .u8 0, .int .u8 0, .int .u8 0, .int .u8 0, .int .u8 0, .int .u8 0, .int .u8 0, .int .u8 0, .int .u8 0, .int .u8 0, .int .u8 0, .int .u8 0, .int .u8 0] 72)) (.cells #[.slice none 0 0, .int .i64 0] 82)) hb)); have h35 := blk_lt (blk_below (heap_alloc3_new w (.cells #[.slice A l.length c, .int .i64 er] 82) (.cells #[.int .u8 0, .int .u8 0, .int .u8 0, .int .u8 0, .int .u8 0, .int .u8 0, .int .u8 0, .int .u8 0, .int .u8 0, .int .u8 0, .int .u8 0, .int .u8 0, .int .u8 0, .int .u8 0, .int .u8 0, .int .u8 0, .int .u8 0, .int .u8 0, .int .u8 0, .int .u8 0, .int .u8 0, .int .u8 0, .int .u8 0, .int .u8 0, .int .u8 0, .int .u8 0, .int .u8 0, .int .u8 0, .int .u8 0, .int .u8 0, .int .u8 0, .int .u8 0] 72) (.cells #[.slice none 0 0, .int .i64 0] 82)) hb); have HSn := Aside0.mk (show Scn w0 (.agg #[.slice A' l'.length c', .int .i64 e]) l' e from ⟨A', c', rfl, hr', hc', hy'⟩); obtain ⟨gv, cv, rfl, _, _, _⟩ := Kd.R_form hv (by omega); have har := run_arrayAt ⟨gv, 0, none⟩ cv; have HCV := Aside0.mk (fun j (hj : j < b.length) => cell_row hv (below_drew1 (below_alloc (Below.refl w2.heap.size w2) (.cells #[.slice A' l'.length c', .int .i64 e] 82))) j hj); clear hr' hc' hy' hv hb))
  generalize w2.alloc (.cells #[.slice A' l'.length c', .int .i64 e] 82) = wq at *
  generalize hge : w2.heap.size = ge at *
  have HLN := Aside0.mk hb32
  have HQ := Aside0.mk (show Blk wq.drew (w.heap.size + 1) 32 _ from blk_of_heap (cs := u8s zeros32) (t := 72) K2.out rfl)
  refine start_ (n := 6) (S := fun w' => w'.cell? ⟨ge, 0, none⟩ = some (.slice A' l'.length c') ∧ w'.cell? ⟨ge, 1, none⟩ = some (.int .i64 e)) (ds := [5]) #[false, false, false, false, false, false] (by kernel_rfl) rfl rfl ⟨(blk_cell K5.out 0).trans rfl, (blk_cell K5.out 1).trans rfl⟩ (fun hHeld => ?_)
  refine pure_ (i := 0) (N := some 16) (v := ?_) (a' := ?_) #[true, false, false, false, false, false] rfl rfl (by kernel_rfl) (fun _ _ _ h => h) (Or.inl ⟨by rfl, ?_⟩) ?_ ?_
  rotate_left
  · intro w'
    go_simp
    with_reducible rfl
  rotate_left
  · simp only [Act.put, List.setIfInBounds_toArray, List.set_cons_zero, List.set_cons_succ, i64_w, i32_w]
    rfl
  refine pure_ (i := 1) (N := some 17) (v := ?_) (a' := ?_) #[true, true, false, false, false, false] rfl rfl (by kernel_rfl) (fun _ _ _ h => h) (Or.inl ⟨by rfl, ?_⟩) ?_ ?_
  rotate_left
  · intro w'
    go_simp
    with_reducible rfl
  rotate_left
  · simp only [Act.put, List.setIfInBounds_toArray, List.set_cons_zero, List.set_cons_succ, i64_w, i32_w]
    rfl
  refine take_ (i := 3) (N := some 19) (v := ?_) (a' := ?_) #[true, true, false, true, false, false] rfl rfl (by kernel_rfl) (fun _ _ _ h => h) (Or.inl ⟨by rfl, ?_⟩) hHeld ?_ ?_
  rotate_left
  · rintro w' ⟨s0, s1⟩
    go_simp
    with_reducible rfl
  rotate_left
  · simp only [Act.put, List.setIfInBounds_toArray, List.set_cons_zero, List.set_cons_succ, i64_w, i32_w]
    rfl
  refine one_ (i := 2) (N := some 18) #[true, true, true, true, false, false] rfl rfl (by kernel_rfl) (by decide) (fun K hK => ?_)
  refine value_ (w1 := wq.drew) (v := .agg (u8s b).toArray) (by rfl) rfl ?hld ?_
  case hld => exact run_load_part 72 (.tmp 17) rfl gv 0 rfl (u8s b) _ (fun j v hj => by obtain ⟨h1, rfl⟩ := u8s_get hj; rw [Nat.zero_add]; exact HCV.out j h1) Tryd.underlying72 rfl (by rw [u8s_len, HLN.out]; exact info65)
  refine hK.out _ _ ⟨(blk_cell K5.out 0).trans rfl, (blk_cell K5.out 1).trans rfl⟩ (fun hHeld => ?_)
  clear hK K
  refine norm_ (a' := ?_) ?_ ?_
  rotate_left
  · show Act.put _ (some 18) _ = _
    simp only [Act.put, List.setIfInBounds_toArray, List.set_cons_zero, List.set_cons_succ, i64_w, i32_w]
    rfl
  refine one_ (i := 4) (N := none) #[true, true, true, true, true, false] rfl rfl (by kernel_rfl) (by decide) (fun K hK => ?_)
  refine skip_ (w1 := setRow wq.drew (w.heap.size + 1) 0 (u8s b) 0) (by rfl) rfl ?hst ?_
  case hst => exact run_store_row 72 (.tmp 2) (.tmp 18) rfl (w.heap.size + 1) 0 rfl (u8s b) rfl (by rw [u8s_len, HLN.out]; exact info65) (u8s_one _) (fun j hj => ⟨_, HQ.out.cell (0 + j) (by rw [u8s_len, HLN.out] at hj; omega)⟩) HQ.out.fz
  have HO1 := Aside0.mk (Only.setRow (g := w.heap.size + 1) (off := 0) (u8s b) 0 _ (Only.refl (w.heap.size + 1) wq.drew))
  have hqs := Blk.setRow (n := 32) (off := 0) (u8s b) 0 wq.drew _ HQ.out (by rw [u8s_len, HLN.out]; omega)
  have HQ1 := Aside0.mk (Blk.congr hqs (C' := fun j => .int .u8 (b.getD j 0)) (fun j hj => (updRow_all _ b HLN.out j hj).symm))
  clear hqs
  have KR := Aside0.mk (only_heap (k := w.heap.size + 1 + 1) HO1.out (by omega) K3.out)
  have HOb := Aside0.mk ((below_drew1 HB.out).trans (HO1.out.below (by omega)))
  have KE := Aside0.mk (only_heap (k := ge) HO1.out (by omega) K5.out)
  clear HO1
  generalize setRow wq.drew (w.heap.size + 1) 0 (u8s b) 0 = wr at *
  have rz0 := (blk_cell KR.out 0).trans rfl
  have rz1 := (blk_cell KR.out 1).trans rfl
  have rf0 := blk_frozen KR.out 0
  have rf1 := blk_frozen KR.out 1
  refine hK.out _ _ ⟨(blk_cell KE.out 0).trans rfl, (blk_cell KE.out 1).trans rfl⟩ (fun hHeld => ?_)
  clear hK K
  refine last_ (i := 5) (N := none) #[true, true, true, true, true, true] rfl rfl (by kernel_rfl) (by decide) (fun K hK => ?_)
  refine skip_ (w1 := ?_) (by rfl) rfl ?_ ?_
  rotate_left
  · go_simp
    rfl
  refine hK.out _ _ ?_
  clear hK K
  refine done_ (by kernel_rfl) ?_
  go_wp2
  have hbb := below_set (j := 1) (v := .int .i64 e) (below_set (j := 0) (v := .slice A' l'.length c') HOb.out (Nat.le_succ_of_le (Nat.le_succ _))) (Nat.le_succ_of_le (Nat.le_succ _))
  exact bodyPost_ret (results_cell_cell rfl _ _ (w.heap.size + 1) (w.heap.size + 1 + 1) (.agg (u8s b).toArray) _ rfl rfl (blk_read (blk_other (k := w.heap.size + 1 + 1) (blk_other (k := w.heap.size + 1 + 1) HQ1.out (by omega) 0 _) (by omega) 1 _) HLN.out (fun _ _ => rfl)) (run_loadVar_row _ _ 82 _ _ (0, 0) _ (blk_put (blk_put KR.out 0 _ rfl) 1 _ rfl) Tryd.underlying82 rfl (by kernel_rfl))) rfl ⟨_, rfl, HSn.out, hbb⟩
theorem id_calls {w0 w : World} {v : Value} {l : List Int} {er : Int} (h : Scn w0 v l er) (hw : Below w0.heap.size w0 w) (hm : l.length < 140737488355328) :
    Calls Tryd.prog 68 #[v] w fun x w' => ∃ v', x = .returned (.tuple #[.agg (u8s (ids (fixP l er 32).1)).toArray, v']) ∧ Scn w0 v' (l.drop (fixP l er 32).2.1) (fixP l er 32).2.2 ∧ Below w.heap.size w w' := by
  obtain ⟨A, c, rfl, hr, hc, hb⟩ := h
  rcases fix32 l er with h | h
  · have e : ids (fixP l er 32).1 = zeros32 := by unfold ids; rw [if_neg (by rw [h]; decide)]
    rw [e]
    exact id_0 A c er _ _ l _ _ w0 w hr hc hb hw hm rfl rfl h
  · have e : ids (fixP l er 32).1 = (fixP l er 32).1 := by unfold ids; rw [if_pos h]
    rw [e]
    exact id_1 A c er _ _ l _ _ w0 w hr hc hb hw hm rfl rfl h
end Go.Proofs.YthpgbhpnlnpfnaaDoor.Law

namespace Go.Proofs.YthpgbhpnlnpfnaaDoor.Law
open Go.RowKit Go.Proofs.YthpgbhpnlnpfnaaDoor Go.Proofs.YthpgbhpnlnpfnaaDoorW.PrintWords Go.Proofs.YthpgbhpnlnpfnaaDoorW.PrintLast Go.Proofs.YthpgbhpnlnpfnaaDoorW.PrintMore Go.Proofs.YthpgbhpnlnpfnaaDoor.E
set_option linter.unusedSimpArgs false
set_option maxHeartbeats 4000000 in
set_option maxRecDepth 100000 in
theorem rid_0 (A : Option Addr) (c : Nat) (er e : Int) (k : Nat) (l l' b : List Int) (w0 w : World) (hr : Kd.C (Kd.int .u8) w0 A l.length l) (hc : l.length ≤ c) (hb : Bytes l) (hw : Below w0.heap.size w0 w) (hp : fixP l er 32 = (b, k, e)) (hl : l.drop k = l') (hb32 : b = [] ∨ b.length = 32) :
    Calls Tryd.prog 58 #[.agg #[.slice A l.length c, .int .i64 er]] w fun x w' => ∃ v', x = .returned (.tuple #[.agg (u8s (ids b)).toArray, v']) ∧ Scn w0 v' l' e ∧ Below w.heap.size w w' := by
  have HS := Aside0.mk (show Scn w0 (.agg #[.slice A l.length c, .int .i64 er]) l er from ⟨A, c, rfl, hr, hc, hb⟩)
  have HW := Aside0.mk hw
  have HP := Aside0.mk hp
  have HL := Aside0.mk hl
  clear hr hc hb hw hp hl
  have hbl : b.length ≤ 32 := by rcases hb32 with h | h
                                 · rw [h]; exact Nat.zero_le _
                                 · omega
  go_enter Tryd.func58, Tryd.ntmps58
  go_wp2_with (first | (go_at_call 70; refine (rfix_calls HS.out (below_alloc (below_alloc2 HW.out _ _) _) 32).mono ?_; rw [HP.out]; dsimp only; rw [HL.out]; rintro x w2 ⟨V, v', rfl, hv, ⟨A', c', rfl, hr', hc', hy'⟩, hb⟩; have K2 := Aside0.mk (blk_below (blk_below (blk_below (heap_alloc2_new w (.cells #[.slice A l.length c, .int .i64 er] 90) (.cells #[.int .u8 0, .int .u8 0, .int .u8 0, .int .u8 0, .int .u8 0, .int .u8 0, .int .u8 0, .int .u8 0, .int .u8 0, .int .u8 0, .int .u8 0, .int .u8 0, .int .u8 0, .int .u8 0, .int .u8 0, .int .u8 0, .int .u8 0, .int .u8 0, .int .u8 0, .int .u8 0, .int .u8 0, .int .u8 0, .int .u8 0, .int .u8 0, .int .u8 0, .int .u8 0, .int .u8 0, .int .u8 0, .int .u8 0, .int .u8 0, .int .u8 0, .int .u8 0] 72)) (below_alloc (Below.refl _ _) (.cells #[.slice none 0 0, .int .i64 0] 90))) hb) (below_alloc (Below.refl w2.heap.size w2) (.cells #[.slice A' l'.length c', .int .i64 e] 90))); have K3 := Aside0.mk (blk_below (blk_below (heap_alloc3_new w (.cells #[.slice A l.length c, .int .i64 er] 90) (.cells #[.int .u8 0, .int .u8 0, .int .u8 0, .int .u8 0, .int .u8 0, .int .u8 0, .int .u8 0, .int .u8 0, .int .u8 0, .int .u8 0, .int .u8 0, .int .u8 0, .int .u8 0, .int .u8 0, .int .u8 0, .int .u8 0, .int .u8 0, .int .u8 0, .int .u8 0, .int .u8 0, .int .u8 0, .int .u8 0, .int .u8 0, .int .u8 0, .int .u8 0, .int .u8 0, .int .u8 0, .int .u8 0, .int .u8 0, .int .u8 0, .int .u8 0, .int .u8 0] 72) (.cells #[.slice none 0 0, .int .i64 0] 90)) hb) (below_alloc (Below.refl w2.heap.size w2) (.cells #[.slice A' l'.length c', .int .i64 e] 90))); have K5 := Aside0.mk (heap_alloc_new w2 (.cells #[.slice A' l'.length c', .int .i64 e] 90)); have HB2 := Aside0.mk (below_step (below_alloc (below_alloc2 (Below.refl w.heap.size w) (.cells #[.slice A l.length c, .int .i64 er] 90) (.cells #[.int .u8 0, .int .u8 0, .int .u8 0, .int .u8 0, .int .u8 0, .int .u8 0, .int .u8 0, .int .u8 0, .int .u8 0, .int .u8 0, .int .u8 0, .int .u8 0, .int .u8 0, .int .u8 0, .int .u8 0, .int .u8 0, .int .u8 0, .int .u8 0, .int .u8 0, .int .u8 0, .int .u8 0, .int .u8 0, .int .u8 0, .int .u8 0, .int .u8 0, .int .u8 0, .int .u8 0, .int .u8 0, .int .u8 0, .int .u8 0, .int .u8 0, .int .u8 0] 72)) (.cells #[.slice none 0 0, .int .i64 0] 90)) hb); have HB := Aside0.mk (below_alloc HB2.out (.cells #[.slice A' l'.length c', .int .i64 e] 90)); have hg5 := (below_size (below_step (below_alloc (below_alloc2 (Below.refl w.heap.size w) (.cells #[.slice A l.length c, .int .i64 er] 90) (.cells #[.int .u8 0, .int .u8 0, .int .u8 0, .int .u8 0, .int .u8 0, .int .u8 0, .int .u8 0, .int .u8 0, .int .u8 0, .int .u8 0, .int .u8 0, .int .u8 0, .int .u8 0, .int .u8 0, .int .u8 0, .int .u8 0, .int .u8 0, .int .u8 0, .int .u8 0, .int .u8 0, .int .u8 0, .int .u8 0, .int .u8 0, .int .u8 0, .int .u8 0, .int .u8 0, .int .u8 0, .int .u8 0, .int .u8 0, .int .u8 0, .int .u8 0, .int .u8 0] 72)) (.cells #[.slice none 0 0, .int .i64 0] 90)) hb)); have h35 := blk_lt (blk_below (heap_alloc3_new w (.cells #[.slice A l.length c, .int .i64 er] 90) (.cells #[.int .u8 0, .int .u8 0, .int .u8 0, .int .u8 0, .int .u8 0, .int .u8 0, .int .u8 0, .int .u8 0, .int .u8 0, .int .u8 0, .int .u8 0, .int .u8 0, .int .u8 0, .int .u8 0, .int .u8 0, .int .u8 0, .int .u8 0, .int .u8 0, .int .u8 0, .int .u8 0, .int .u8 0, .int .u8 0, .int .u8 0, .int .u8 0, .int .u8 0, .int .u8 0, .int .u8 0, .int .u8 0, .int .u8 0, .int .u8 0, .int .u8 0, .int .u8 0] 72) (.cells #[.slice none 0 0, .int .i64 0] 90)) hb); have HSn := Aside0.mk (show Scn w0 (.agg #[.slice A' l'.length c', .int .i64 e]) l' e from ⟨A', c', rfl, hr', hc', hy'⟩); obtain ⟨Av, cv, rfl, hrv, _⟩ := hv; have HV := Aside0.mk hrv; clear hr' hc' hy' hrv hb) | ((with_reducible refine gate_dst (N := 6) rfl ?_); refine wpList_alloc_zero rfl 72 rfl (.agg #[.int .u8 0, .int .u8 0, .int .u8 0, .int .u8 0, .int .u8 0, .int .u8 0, .int .u8 0, .int .u8 0, .int .u8 0, .int .u8 0, .int .u8 0, .int .u8 0, .int .u8 0, .int .u8 0, .int .u8 0, .int .u8 0, .int .u8 0, .int .u8 0, .int .u8 0, .int .u8 0, .int .u8 0, .int .u8 0, .int .u8 0, .int .u8 0, .int .u8 0, .int .u8 0, .int .u8 0, .int .u8 0, .int .u8 0, .int .u8 0, .int .u8 0, .int .u8 0]) (by kernel_rfl) ?_; (try dsimp only [Value.cells]); have hgs := Aside0.mk (show (w2.alloc (.cells #[.slice A' l'.length c', .int .i64 e] 90)).heap.size = w2.heap.size + 1 by show (w2.heap.push _).size = _; simp); have K6 := Aside0.mk (heap_alloc_new (w2.alloc (.cells #[.slice A' l'.length c', .int .i64 e] 90)) (.cells #[.int .u8 0, .int .u8 0, .int .u8 0, .int .u8 0, .int .u8 0, .int .u8 0, .int .u8 0, .int .u8 0, .int .u8 0, .int .u8 0, .int .u8 0, .int .u8 0, .int .u8 0, .int .u8 0, .int .u8 0, .int .u8 0, .int .u8 0, .int .u8 0, .int .u8 0, .int .u8 0, .int .u8 0, .int .u8 0, .int .u8 0, .int .u8 0, .int .u8 0, .int .u8 0, .int .u8 0, .int .u8 0, .int .u8 0, .int .u8 0, .int .u8 0, .int .u8 0] 72)); have n0_ := Aside0.mk (blk_below K2.out (below_alloc (Below.refl _ _) (.cells #[.int .u8 0, .int .u8 0, .int .u8 0, .int .u8 0, .int .u8 0, .int .u8 0, .int .u8 0, .int .u8 0, .int .u8 0, .int .u8 0, .int .u8 0, .int .u8 0, .int .u8 0, .int .u8 0, .int .u8 0, .int .u8 0, .int .u8 0, .int .u8 0, .int .u8 0, .int .u8 0, .int .u8 0, .int .u8 0, .int .u8 0, .int .u8 0, .int .u8 0, .int .u8 0, .int .u8 0, .int .u8 0, .int .u8 0, .int .u8 0, .int .u8 0, .int .u8 0] 72))); have n1_ := Aside0.mk (blk_below K3.out (below_alloc (Below.refl _ _) (.cells #[.int .u8 0, .int .u8 0, .int .u8 0, .int .u8 0, .int .u8 0, .int .u8 0, .int .u8 0, .int .u8 0, .int .u8 0, .int .u8 0, .int .u8 0, .int .u8 0, .int .u8 0, .int .u8 0, .int .u8 0, .int .u8 0, .int .u8 0, .int .u8 0, .int .u8 0, .int .u8 0, .int .u8 0, .int .u8 0, .int .u8 0, .int .u8 0, .int .u8 0, .int .u8 0, .int .u8 0, .int .u8 0, .int .u8 0, .int .u8 0, .int .u8 0, .int .u8 0] 72))); have n2_ := Aside0.mk (blk_below K5.out (below_alloc (Below.refl _ _) (.cells #[.int .u8 0, .int .u8 0, .int .u8 0, .int .u8 0, .int .u8 0, .int .u8 0, .int .u8 0, .int .u8 0, .int .u8 0, .int .u8 0, .int .u8 0, .int .u8 0, .int .u8 0, .int .u8 0, .int .u8 0, .int .u8 0, .int .u8 0, .int .u8 0, .int .u8 0, .int .u8 0, .int .u8 0, .int .u8 0, .int .u8 0, .int .u8 0, .int .u8 0, .int .u8 0, .int .u8 0, .int .u8 0, .int .u8 0, .int .u8 0, .int .u8 0, .int .u8 0] 72))); have n3_ := Aside0.mk (below_alloc HB.out (.cells #[.int .u8 0, .int .u8 0, .int .u8 0, .int .u8 0, .int .u8 0, .int .u8 0, .int .u8 0, .int .u8 0, .int .u8 0, .int .u8 0, .int .u8 0, .int .u8 0, .int .u8 0, .int .u8 0, .int .u8 0, .int .u8 0, .int .u8 0, .int .u8 0, .int .u8 0, .int .u8 0, .int .u8 0, .int .u8 0, .int .u8 0, .int .u8 0, .int .u8 0, .int .u8 0, .int .u8 0, .int .u8 0, .int .u8 0, .int .u8 0, .int .u8 0, .int .u8 0] 72)); clear K2 K3 K5 HB; have K2 := n0_; have K3 := n1_; have K5 := n2_; have HB := n3_; clear n0_ n1_ n2_ n3_; generalize (w2.alloc (.cells #[.slice A' l'.length c', .int .i64 e] 90)).alloc (.cells #[.int .u8 0, .int .u8 0, .int .u8 0, .int .u8 0, .int .u8 0, .int .u8 0, .int .u8 0, .int .u8 0, .int .u8 0, .int .u8 0, .int .u8 0, .int .u8 0, .int .u8 0, .int .u8 0, .int .u8 0, .int .u8 0, .int .u8 0, .int .u8 0, .int .u8 0, .int .u8 0, .int .u8 0, .int .u8 0, .int .u8 0, .int .u8 0, .int .u8 0, .int .u8 0, .int .u8 0, .int .u8 0, .int .u8 0, .int .u8 0, .int .u8 0, .int .u8 0] 72) = wy at *; generalize (w2.alloc (.cells #[.slice A' l'.length c', .int .i64 e] 90)).heap.size = gi at *; have HZ := Aside0.mk (show Blk wy gi 32 _ from blk_of_heap (cs := u8s zeros32) (t := 72) K6.out rfl); clear K6) | ((with_reducible refine wpList_store_row rfl 72 (.tmp 6) (.tmp 13) rfl gi 0 rfl zv32 rfl (by kernel_rfl) (by decide) (fun j hj => ⟨_, HZ.out.cell (0 + j) (by simp [zv32] at hj; omega)⟩) HZ.out.fz ?_); go_loud (have hgs' := hgs.out; have HO1 := Only.setRow (g := gi) (off := 0) zv32 0 _ (Only.refl gi wy); have n0_ := Aside0.mk (only_heap (k := w.heap.size + 1) HO1 (by omega) K2.out); have n1_ := Aside0.mk (only_heap (k := w.heap.size + 1 + 1) HO1 (by omega) K3.out); have n2_ := Aside0.mk (only_heap (k := w2.heap.size) HO1 (by omega) K5.out); have n3_ := Aside0.mk (HB.out.trans (HO1.below (by omega))); have HQ6 := Aside0.mk ((Blk.setRow (n := 32) (off := 0) zv32 0 _ _ HZ.out (by have : zv32.length = 32 := rfl; omega)).congr (C' := fun i => .int .u8 (if i < 0 then b.getD i 0 else 0)) (fun i hi => by (try dsimp only); rw [if_neg (by omega)]; exact ((updRow_all _ zeros32 rfl i hi).trans (by rw [zeros_getD i hi])).symm)); clear K2 K3 K5 HB HZ HO1 hgs'; have K2 := n0_; have K3 := n1_; have K5 := n2_; have HB := n3_; clear n0_ n1_ n2_ n3_; generalize setRow wy gi 0 zv32 0 = wq at *)))
  have hgi : w2.heap.size < gi := by have := hgs.out; omega
  clear hgs
  generalize w2.heap.size = ge at *
  have HO6 := Aside0.mk (Only.refl gi wq)
  go_loopw [7] (fun v7 wr => ∃ (j : Nat), j ≤ b.length ∧ v7 = .int .i64 j ∧ Aside0 (Blk wr gi 32 (fun i => .int .u8 (if i < j then b.getD i 0 else 0))) ∧ Aside0 (Only gi wq wr)) (fun v7 _ => b.length - (intOf v7).toNat)
  case atStart => exact ⟨0, by omega, rfl, HQ6, HO6⟩
  case round =>
    obtain ⟨j, hj, rfl, HQr, HOr⟩ := hrel
    obtain ⟨wo, rfl⟩ : ∃ x : World, x = wr := ⟨_, rfl⟩
    by_cases hlt : j < b.length
    · have hltb : decide ((j : Int) < (b.length : Int)) = true := decide_eq_true (by omega)
      have hwi : wrap64 ((j : Int) + 1) = (j : Int) + 1 := w64 (by omega) (by omega)
      obtain ⟨ad, hA, hcell⟩ := Kd.at_int (Kd.C_below HV.out ((HW.out.trans (HB.out.mono HW.out.size)).trans (HOr.out.below (by have := HW.out.size; omega)))) (j : Int) (by omega) (by omega)
      obtain rfl := hA
      rw [Int.toNat_natCast] at hcell
      have hcl := HQr.out.cell j (by omega)
      have hfz := HQr.out.fz j
      have hj32 : j < 32 := by omega
      have HQn := Aside0.mk ((HQr.out.set (show j < 32 by omega) (.int .u8 (rd b (j : Int)))).congr (C' := fun i => .int .u8 (if i < j + 1 then b.getD i 0 else 0)) (fun i hi => by
        unfold upd
        dsimp only
        by_cases e3 : i = j
        · rw [if_pos e3, if_pos (by omega), e3]; rfl
        · rw [if_neg e3]
          by_cases e2 : i < j
          · rw [if_pos e2, if_pos (by omega)]
          · rw [if_neg e2, if_neg (by omega)]))
      have HOn := Aside0.mk (HOr.out.set j (.int .u8 (rd b (j : Int))))
      generalize rd b (j : Int) = x at *
      go_wp2
      go_roundw
      case rel => exact ⟨j + 1, by omega, by go_num, HQn, HOn⟩
      case measure => simp [intOf]; omega
    · obtain rfl : j = b.length := by omega
      have hltb : decide ((b.length : Int) < (b.length : Int)) = false := decide_eq_false (by omega)
      have HLN := Aside0.mk (ids_len b)
      have HC := Aside0.mk (show ∀ i, i < 32 → wo.drew.cell? ⟨gi, i, none⟩ = some (.int .u8 ((ids b).getD i 0)) from fun i hi => by
        have h := HQr.out.cell i hi
        rw [show wo.drew.cell? ⟨gi, i, none⟩ = wo.cell? ⟨gi, i, none⟩ from rfl, h]
        unfold ids
        rcases hb32 with hb | hb
        · subst hb
          rw [if_neg (show ¬ ([] : List Int).length = 32 by decide), if_neg (show ¬ i < ([] : List Int).length from Nat.not_lt_zero i), zeros_getD i hi]
        · rw [if_pos hb, if_pos (by omega)])
      have n0_ := Aside0.mk (only_heap (k := w.heap.size + 1) HOr.out (by omega) K2.out)
      have n1_ := Aside0.mk (only_heap (k := w.heap.size + 1 + 1) HOr.out (by omega) K3.out)
      have n2_ := Aside0.mk (only_heap (k := ge) HOr.out (by omega) K5.out)
      have n3_ := Aside0.mk (HB.out.trans (HOr.out.below (by omega)))
      clear K2 K3 K5 HB HQr HQ6 HO6 hltb
      have K2 := n0_
      have K3 := n1_
      have K5 := n2_
      have HB := n3_
      clear n0_ n1_ n2_ n3_
      have HQ := Aside0.mk (show Blk wo.drew (w.heap.size + 1) 32 _ from blk_of_heap (cs := u8s zeros32) (t := 72) K2.out rfl)
      have hltb : decide ((b.length : Int) < (b.length : Int)) = false := decide_eq_false (by omega)
      go_wp2
      refine start_ (n := 4) (S := fun w' => w'.cell? ⟨ge, 0, none⟩ = some (.slice A' l'.length c') ∧ w'.cell? ⟨ge, 1, none⟩ = some (.int .i64 e)) (ds := [3]) #[false, false, false, false] (by kernel_rfl) rfl rfl ⟨(blk_cell K5.out 0).trans rfl, (blk_cell K5.out 1).trans rfl⟩ (fun hHeld => ?_)
      refine take_ (i := 1) (N := some 27) (v := ?_) (a' := ?_) #[false, true, false, false] rfl rfl (by kernel_rfl) (fun _ _ _ h => h) (Or.inl ⟨by rfl, ?_⟩) hHeld ?_ ?_
      rotate_left
      · rintro w' ⟨s0, s1⟩
        go_simp
        with_reducible rfl
      rotate_left
      · simp only [Act.put, List.setIfInBounds_toArray, List.set_cons_zero, List.set_cons_succ, i64_w, i32_w]
        rfl
      refine one_ (i := 0) (N := some 26) #[true, true, false, false] rfl rfl (by kernel_rfl) (by decide) (fun K hK => ?_)
      refine value_ (w1 := wo.drew) (v := .agg (u8s (ids b)).toArray) (by rfl) rfl ?hld ?_
      case hld => exact run_load_part 72 (.tmp 6) rfl gi 0 rfl (u8s (ids b)) _ (fun j v hj => by obtain ⟨h1, rfl⟩ := u8s_get hj; rw [ids_len] at h1; rw [Nat.zero_add]; exact HC.out j h1) Tryd.underlying72 rfl (by rw [u8s_len, HLN.out]; exact info65)
      refine hK.out _ _ ⟨(blk_cell K5.out 0).trans rfl, (blk_cell K5.out 1).trans rfl⟩ (fun hHeld => ?_)
      clear hK K
      refine norm_ (a' := ?_) ?_ ?_
      rotate_left
      · show Act.put _ (some 26) _ = _
        simp only [Act.put, List.setIfInBounds_toArray, List.set_cons_zero, List.set_cons_succ, i64_w, i32_w]
        rfl
      refine one_ (i := 2) (N := none) #[true, true, true, false] rfl rfl (by kernel_rfl) (by decide) (fun K hK => ?_)
      refine skip_ (w1 := setRow wo.drew (w.heap.size + 1) 0 (u8s (ids b)) 0) (by rfl) rfl ?hst ?_
      case hst => exact run_store_row 72 (.tmp 2) (.tmp 26) rfl (w.heap.size + 1) 0 rfl (u8s (ids b)) rfl (by rw [u8s_len, HLN.out]; exact info65) (u8s_one _) (fun j hj => ⟨_, HQ.out.cell (0 + j) (by rw [u8s_len, HLN.out] at hj; omega)⟩) HQ.out.fz
      have HO1 := Aside0.mk (Only.setRow (g := w.heap.size + 1) (off := 0) (u8s (ids b)) 0 _ (Only.refl (w.heap.size + 1) wo.drew))
      have hqs := Blk.setRow (n := 32) (off := 0) (u8s (ids b)) 0 wo.drew _ HQ.out (by rw [u8s_len, HLN.out]; omega)
      have HQ1 := Aside0.mk (Blk.congr hqs (C' := fun j => .int .u8 ((ids b).getD j 0)) (fun j hj => (updRow_all _ (ids b) HLN.out j hj).symm))
      clear hqs
      have KR := Aside0.mk (only_heap (k := w.heap.size + 1 + 1) HO1.out (by omega) K3.out)
      have HOb := Aside0.mk ((below_drew1 HB.out).trans (HO1.out.below (by omega)))
      have KE := Aside0.mk (only_heap (k := ge) HO1.out (by omega) K5.out)
      clear HO1
      generalize setRow wo.drew (w.heap.size + 1) 0 (u8s (ids b)) 0 = wr at *
      have rz0 := (blk_cell KR.out 0).trans rfl
      have rz1 := (blk_cell KR.out 1).trans rfl
      have rf0 := blk_frozen KR.out 0
      have rf1 := blk_frozen KR.out 1
      refine hK.out _ _ ⟨(blk_cell KE.out 0).trans rfl, (blk_cell KE.out 1).trans rfl⟩ (fun hHeld => ?_)
      clear hK K
      refine last_ (i := 3) (N := none) #[true, true, true, true] rfl rfl (by kernel_rfl) (by decide) (fun K hK => ?_)
      refine skip_ (w1 := ?_) (by rfl) rfl ?_ ?_
      rotate_left
      · go_simp
        rfl
      refine hK.out _ _ ?_
      clear hK K
      refine done_ (by kernel_rfl) ?_
      go_wp2
      have hbb := below_set (j := 1) (v := .int .i64 e) (below_set (j := 0) (v := .slice A' l'.length c') HOb.out (Nat.le_succ_of_le (Nat.le_succ _))) (Nat.le_succ_of_le (Nat.le_succ _))
      exact bodyPost_ret (results_cell_cell rfl _ _ (w.heap.size + 1) (w.heap.size + 1 + 1) (.agg (u8s (ids b)).toArray) _ rfl rfl (blk_read (blk_other (k := w.heap.size + 1 + 1) (blk_other (k := w.heap.size + 1 + 1) HQ1.out (by omega) 0 _) (by omega) 1 _) HLN.out (fun _ _ => rfl)) (run_loadVar_row _ _ 90 _ _ (0, 0) _ (blk_put (blk_put KR.out 0 _ rfl) 1 _ rfl) Tryd.underlying90 rfl (by kernel_rfl))) rfl ⟨_, rfl, HSn.out, hbb⟩
theorem rid_calls {w0 w : World} {v : Value} {l : List Int} {er : Int} (h : Scn w0 v l er) (hw : Below w0.heap.size w0 w) :
    Calls Tryd.prog 58 #[v] w fun x w' => ∃ v', x = .returned (.tuple #[.agg (u8s (ids (fixP l er 32).1)).toArray, v']) ∧ Scn w0 v' (l.drop (fixP l er 32).2.1) (fixP l er 32).2.2 ∧ Below w.heap.size w w' := by
  obtain ⟨A, c, rfl, hr, hc, hb⟩ := h
  exact rid_0 A c er _ _ l _ _ w0 w hr hc hb hw rfl rfl (fix32 l er)
end Go.Proofs.YthpgbhpnlnpfnaaDoor.Law
