/- Entries as values: a name, a flag, an id of 32 bytes, a row of pieces; how they lie in memory. -/
import Derived.Test.YthpgbhpnlnpfnaaDoorQ5
import Derived.Test.YthpgbhpnlnpfnaaDoorQ1
import Derived.Test.YthpgbhpnlnpfnaaDoorQ7
import Derived.ChangeKeysEq

namespace Go.Proofs.YthpgbhpnlnpfnaaDoor.Law
open Go.RowKit Go.Proofs.YthpgbhpnlnpfnaaDoor Go.Proofs.YthpgbhpnlnpfnaaDoorW.PrintWords Go.Proofs.YthpgbhpnlnpfnaaDoorW.PrintLast Go.Proofs.YthpgbhpnlnpfnaaDoorW.PrintMore Go.Proofs.YthpgbhpnlnpfnaaDoor.E
set_option linter.unusedSimpArgs false
set_option linter.unusedVariables false
def u8s (l : List Int) : List Value := l.map (Value.int .u8)
theorem u8s_len (l : List Int) : (u8s l).length = l.length := List.length_map _
theorem u8s_one (l : List Int) : ∀ v ∈ u8s l, v.oneCell' = true := fun v hv => by
  obtain ⟨x, _, rfl⟩ := List.mem_map.mp hv; rfl
/-- an id: 32 bytes in line -/
def kId : Kd (List Int) where
  sz := 32
  E := []
  K := fun _ l cs => cs = u8s l ∧ l.length = 32
  M := fun _ _ _ l cs => cs = u8s l ∧ l.length = 32
  K_len := fun h => by rw [h.1, u8s_len, h.2]
  K_one := fun h u hu => by rw [h.1] at hu; exact u8s_one _ u hu
  K_below := fun _ h => h
  K_of_M := fun h => h
  M_mono := fun _ h => h
  M_bound := fun h => h
  M_move := fun _ h => h
  M_lower := fun _ h => h
structure Pc where
  id : List Int
  n : Int
def kPc : Kd Pc := Kd.iso (Kd.pair kId (Kd.int .i64)) (fun p => (p.id, p.n))
structure En where
  nm : ByteArray
  dir : Bool
  tree : List Int
  ps : List Pc
def kEn : Kd En := Kd.iso (Kd.pair Kd.string (Kd.pair Kd.bool (Kd.pair kId (Kd.slice 78 kPc)))) (fun x => (x.nm, x.dir, x.tree, x.ps))
def zPc : Pc := ⟨[], 0⟩
theorem kPc_open {w : World} {x : Pc} {cs : List Value} (h : kPc.K w x cs) : cs = u8s x.id ++ [.int .i64 x.n] ∧ x.id.length = 32 := by
  obtain ⟨_, _, rfl, ⟨rfl, h⟩, rfl⟩ := h
  exact ⟨rfl, h⟩
/-- an entry's cells -/
def enV (x : En) (A : Option Addr) (c : Nat) : List Value := .string x.nm :: .bool x.dir :: (u8s x.tree ++ [.slice A x.ps.length c])
theorem kEn_open {w : World} {x : En} {cs : List Value} (h : kEn.K w x cs) : ∃ A c, cs = enV x A c ∧ x.tree.length = 32 ∧ x.ps.length ≤ c ∧ Kd.C kPc w A x.ps.length x.ps := by
  obtain ⟨_, _, rfl, rfl, _, _, rfl, rfl, _, _, rfl, ⟨rfl, h1⟩, A, c, rfl, h2, h3⟩ := h
  exact ⟨A, c, rfl, h1, h2, h3⟩
theorem kEn_mk {w : World} {x : En} {A : Option Addr} {c : Nat} (h1 : x.tree.length = 32) (h2 : x.ps.length ≤ c) (h3 : Kd.C kPc w A x.ps.length x.ps) : kEn.K w x (enV x A c) :=
  ⟨[.string x.nm], .bool x.dir :: (u8s x.tree ++ [.slice A x.ps.length c]), rfl, rfl, [.bool x.dir], _, rfl, rfl, u8s x.tree, _, rfl, ⟨rfl, h1⟩, A, c, rfl, h2, h3⟩
theorem enV_len (x : En) (A : Option Addr) (c : Nat) (h : x.tree.length = 32) : (enV x A c).length = 35 := by
  unfold enV
  rw [List.length_cons, List.length_cons, List.length_append, u8s_len, h]; rfl
theorem enV_0 (x : En) (A : Option Addr) (c : Nat) : (enV x A c)[0]? = some (.string x.nm) := rfl
theorem enV_1 (x : En) (A : Option Addr) (c : Nat) : (enV x A c)[1]? = some (.bool x.dir) := rfl
theorem enV_34 (x : En) (A : Option Addr) (c : Nat) (h : x.tree.length = 32) : (enV x A c)[34]? = some (.slice A x.ps.length c) := by
  unfold enV
  rw [List.getElem?_cons_succ, List.getElem?_cons_succ, List.getElem?_append_right (by rw [u8s_len, h]; decide), u8s_len, h]; rfl
theorem enV_id (x : En) (A : Option Addr) (c : Nat) (h : x.tree.length = 32) (j : Nat) (hj : j < 32) : (enV x A c)[2 + j]? = some (.int .u8 (x.tree.getD j 0)) := by
  unfold enV
  rw [show 2 + j = (j + 1) + 1 by omega, List.getElem?_cons_succ, List.getElem?_cons_succ, List.getElem?_append_left (by rw [u8s_len, h]; exact hj)]
  unfold u8s
  rw [List.getElem?_map, List.getElem?_eq_getElem (by omega), List.getD_eq_getElem?_getD, List.getElem?_eq_getElem (by omega)]; rfl
/-- an entry that lies in a block of its own -/
structure EnAt (w : World) (g : Nat) (x : En) (A : Option Addr) (c : Nat) : Prop where
  blk : w.heap[g]? = some (.cells (enV x A c).toArray 75 (0, 0))
  tl : x.tree.length = 32
  hc : x.ps.length ≤ c
  rd : Kd.C kPc w A x.ps.length x.ps
theorem EnAt.cell {w : World} {g : Nat} {x : En} {A : Option Addr} {c : Nat} (h : EnAt w g x A c) {j : Nat} {v : Value} (hv : (enV x A c)[j]? = some v) : w.cell? ⟨g, j, none⟩ = some v := by
  rw [blk_cell h.blk j, List.getElem?_toArray, hv]
theorem EnAt.below {w w' : World} {g : Nat} {x : En} {A : Option Addr} {c : Nat} (h : EnAt w g x A c) (hb : Below w.heap.size w w') : EnAt w' g x A c := ⟨blk_below h.blk hb, h.tl, h.hc, Kd.C_below h.rd hb⟩
theorem EnAt.tree {w : World} {g : Nat} {x : En} {A : Option Addr} {c : Nat} (h : EnAt w g x A c) (j : Nat) (v : Value) (hv : (u8s x.tree)[j]? = some v) : w.cell? ⟨g, 2 + j, none⟩ = some v := by
  refine h.cell ?_
  unfold enV
  have hj : j < (u8s x.tree).length := (List.getElem?_eq_some_iff.mp hv).1
  rw [show 2 + j = (j + 1) + 1 by omega, List.getElem?_cons_succ, List.getElem?_cons_succ, List.getElem?_append_left hj, hv]
theorem EnAt.K {w : World} {g : Nat} {x : En} {A : Option Addr} {c : Nat} (h : EnAt w g x A c) : kEn.K w x (enV x A c) := kEn_mk h.tl h.hc h.rd
theorem info26 : (Tryd.prog.info? 75).map (·.size) = some 35 := by kernel_rfl
theorem info62 : (Tryd.prog.info? 78).map (·.size) = some 33 := by kernel_rfl
theorem info23 : (Tryd.prog.info? 72).map (·.size) = some 32 := by kernel_rfl
section
variable {ops : Array Oper} {rest : List Oper} {o : Oper} {a : Act} {w : World} {Q : Exit → Act → World → Prop}
/-- a load of a whole entry out of its block -/
theorem load_en (hgd : o.guard = none) (x : Operand) (ho : o.op = .load 75 x) (g : Nat) (hx : a.eval x = .pointer (some ⟨g, 0, none⟩)) {y : En} {A : Option Addr} {c : Nat} (hK : EnAt w g y A c)
    (h : wpList Tryd.prog ops Q rest (a.put o.dst (.agg (enV y A c).toArray)) w) : wpList Tryd.prog ops Q (o :: rest) a w :=
  wpList_load_part hgd 75 x ho g 0 hx (enV y A c) _ (fun j v hv => by rw [Nat.zero_add]; exact hK.cell hv) Tryd.underlying75 rfl (by rw [enV_len _ _ _ hK.tl]; exact info26) h
end
/-- a load of a whole row from any address -/
theorem wpList_load_at {P : Program} {ops : Array Oper} {rest : List Oper} {o : Oper} {a : Act} {w : World} {Q : Exit → Act → World → Prop} (hgd : o.guard = none) (ty : TypeId) (x : Operand) (ho : o.op = .load ty x) (ad : Addr) (hx : a.eval x = .pointer (some ad)) (vs : List Value) (d : TypeDesc)
    (hc : ∀ j v, vs[j]? = some v → w.cell? (ad.add j) = some v) (hu : P.underlying ty = some d) (hd : (match d with | .struct _ | .array _ _ => true | _ => false) = true)
    (hi : (P.info? ty).map (·.size) = some vs.length) (h : wpList P ops Q rest (a.put o.dst (.agg vs.toArray)) w) : wpList P ops Q (o :: rest) a w := by
  refine wpList_plain hgd fun K hK => ?_
  have hl : (loadVar ty ad).run P w = .ok (.agg vs.toArray) w := by
    have hl : (loadCells ad vs.length).run P w = .ok vs.toArray w := run_loadCells_list (P := P) w ad vs hc
    cases hq : P.info? ty with
    | none => simp [hq] at hi
    | some i =>
      have hs : i.size = vs.length := by simpa [hq] using hi
      have hagg : (isAgg ty).run P w = .ok true w := by
        unfold isAgg
        rw [Sem.run_bind, run_underlying hu w]
        cases d <;> simp_all
      simp [loadVar, Sem.run_bind, hagg, sizeOf, typeInfo, hq, hs, hl]
  unfold Oper.wp execOp
  simp only [ho, hx, Instr.loadAt, Instr.sureAddr, Sem.run_bind, Sem.run_pure, Result.andThen_ok, hl]
  exact hK _ _ h
/-- a parameter that is boxed -/
theorem wpList_box {P : Program} {ops : Array Oper} {rest : List Oper} {o : Oper} {a : Act} {w : World} {Q : Exit → Act → World → Prop} (hgd : o.guard = none) (ty : TypeId) (x : Operand) (ho : o.op = .box ty x) (cs : List Value) (hx : a.eval x = .agg cs.toArray)
    (h : ∀ w1 : World, w1.heap[w.heap.size]? = some (.cells cs.toArray ty (0, 0)) → Below w.heap.size w w1 → w1.heap.size = w.heap.size + 1 → wpList P ops Q rest (a.put o.dst (.pointer (some ⟨w.heap.size, 0, none⟩))) w1) : wpList P ops Q (o :: rest) a w := by
  refine wpList_plain hgd fun K hK => ?_
  have hb : (Instr.box ty (.agg cs.toArray)).run P w = .ok (.pointer (some ⟨w.heap.size, 0, none⟩)) (w.alloc (.cells cs.toArray ty)) := by
    simp [Instr.box, newVar, newRow, newObj, Value.cells, Sem.run]
  unfold Oper.wp execOp
  simp only [ho, hx, Sem.run_bind, Sem.run_pure, Result.andThen_ok, hb]
  exact hK _ _ (h _ (heap_alloc_new w _) (below_alloc (Below.refl _ _) _) (World.size_alloc _ _))
/-- a store of a whole row over a whole block -/
theorem setRow_heap {g t : Nat} (vs : List Value) : ∀ (i : Nat) (w : World) (C : List Value), w.heap[g]? = some (.cells C.toArray t (0, 0)) → i + vs.length ≤ C.length →
    (setRow w g 0 vs i).heap[g]? = some (.cells (C.take i ++ vs ++ C.drop (i + vs.length)).toArray t (0, 0)) := by
  induction vs with
  | nil => intro i w C h _; simpa [setRow] using h
  | cons v vs ih =>
    intro i w C h hle
    have h1 : (w.setCell ⟨g, 0 + i, none⟩ v).heap[g]? = some (.cells (C.set i v).toArray t (0, 0)) := by
      rw [Nat.zero_add]
      exact blk_put h i v (by simp)
    have h2 := ih (i + 1) _ _ h1 (by rw [List.length_set]; rw [List.length_cons] at hle; omega)
    show (setRow (w.setCell ⟨g, 0 + i, none⟩ v) g 0 vs (i + 1)).heap[g]? = _
    rw [h2, List.length_cons]
    rw [List.length_cons] at hle
    have e1 : (C.set i v).take (i + 1) = C.take i ++ [v] := by
      rw [List.take_succ_eq_append_getElem (by rw [List.length_set]; omega), List.getElem_set_self, List.take_set_of_le (Nat.le_refl _)]
    have e2 : (C.set i v).drop (i + 1 + vs.length) = C.drop (i + (vs.length + 1)) := by
      rw [List.drop_set_of_lt (by omega)]; congr 1; omega
    rw [e1, e2, List.append_assoc, List.append_assoc, List.append_assoc]; rfl
/-- a new variable, and a whole row stored into it -/
theorem wpList_new_row {P : Program} {ops : Array Oper} {rest : List Oper} {o o2 : Oper} {a : Act} {w : World} {Q : Exit → Act → World → Prop} (hgd : o.guard = none) (hgd2 : o2.guard = none) (ty : TypeId) (ho : o.op = .alloc ty) (z : Value) (hi : (P.info? ty).map (·.zero) = some (some z))
    (x y : Operand) (ho2 : o2.op = .store ty x y) (hx : (a.put o.dst (.pointer (some ⟨w.heap.size, 0, none⟩))).eval x = .pointer (some ⟨w.heap.size, 0, none⟩)) (vs : List Value) (hy : (a.put o.dst (.pointer (some ⟨w.heap.size, 0, none⟩))).eval y = .agg vs.toArray)
    (hs : (P.info? ty).map (·.size) = some vs.length) (hz : z.cells.size = vs.length) (h1 : ∀ v ∈ vs, v.oneCell' = true)
    (h : ∀ w1 : World, w1.heap[w.heap.size]? = some (.cells vs.toArray ty (0, 0)) → Below w.heap.size w w1 → w1.heap.size = w.heap.size + 1 → wpList P ops Q rest ((a.put o.dst (.pointer (some ⟨w.heap.size, 0, none⟩))).put o2.dst undef) w1) : wpList P ops Q (o :: o2 :: rest) a w := by
  refine wpList_alloc_zero hgd ty ho z hi ?_
  have hb0 : (w.alloc (.cells z.cells ty)).heap[w.heap.size]? = some (.cells z.cells ty (0, 0)) := heap_alloc_new w _
  refine wpList_store_row hgd2 ty x y ho2 w.heap.size 0 hx vs hy hs h1 (fun j hj => ?_) (fun j => blk_frozen hb0 j) ?_
  · rw [blk_cell hb0]
    exact ⟨_, Array.getElem?_eq_getElem (by omega)⟩
  · have hb1 := setRow_heap (g := w.heap.size) (t := ty) vs 0 _ z.cells.toList (by rw [Array.toArray_toList]; exact hb0) (by simp [hz])
    have hon := Only.setRow (g := w.heap.size) (off := 0) vs 0 _ (Only.refl w.heap.size (w.alloc (.cells z.cells ty)))
    refine h _ ?_ ((below_alloc (Below.refl _ _) _).trans (hon.below (Nat.le_refl _))) (by rw [hon.size, World.size_alloc])
    rw [hb1, List.take_zero, List.nil_append, Nat.zero_add, List.drop_eq_nil_of_le (by rw [Array.length_toList]; omega), List.append_nil]
/-! two ids compared -/
def zeros32 : List Int := [0, 0, 0, 0, 0, 0, 0, 0, 0, 0, 0, 0, 0, 0, 0, 0, 0, 0, 0, 0, 0, 0, 0, 0, 0, 0, 0, 0, 0, 0, 0, 0]
theorem run_part_u8 (w : World) (l : List Int) (j : Nat) (hj : j < l.length) : (part 5 (u8s l).toArray j).run Tryd.prog w = .ok (.int .u8 (l.getD j 0)) w := by
  have hagg : (isAgg 5).run Tryd.prog w = .ok false w := by
    unfold isAgg
    rw [Sem.run_bind, run_underlying Tryd.underlying5 w]
    rfl
  have hget : (u8s l).toArray[j]? = some (.int .u8 (l.getD j 0)) := by
    rw [List.getElem?_toArray]
    unfold u8s
    rw [List.getElem?_map, List.getElem?_eq_getElem hj, List.getD_eq_getElem?_getD, List.getElem?_eq_getElem hj]; rfl
  unfold part
  rw [Sem.run_bind, hagg]
  simp [hget]
theorem eqItems_u8 (w : World) (d : Nat) (l m : List Int) : ∀ is : List Nat, (∀ j ∈ is, j < l.length ∧ j < m.length) → (Op.eqItems (d + 1) 5 1 (u8s l).toArray (u8s m).toArray is).run Tryd.prog w = .ok (is.all fun j => l.getD j 0 == m.getD j 0) w := by
  intro is
  induction is with
  | nil => intro _; simp [Op.eqItems]
  | cons j is ih =>
    intro h
    have hj := run_part_u8 w l j (h j List.mem_cons_self).1
    have hm := run_part_u8 w m j (h j List.mem_cons_self).2
    have he := run_equalIn_int (P := Tryd.prog) (w := w) d 5 .u8 .u8 (l.getD j 0) (m.getD j 0) Tryd.underlying5
    have hi := ih (fun k hk => h k (List.mem_cons_of_mem _ hk))
    rw [List.all_cons]
    generalize l.getD j 0 = v at *
    generalize m.getD j 0 = u at *
    by_cases e : v = u
    · subst e
      simp [Op.eqItems, Sem.run_bind, hj, hm, he, hi]
    · have e1 : (v == u) = false := beq_eq_false_iff_ne.mpr e
      have e2 := he
      rw [e1] at e2 ⊢
      simp [Op.eqItems, Sem.run_bind, hj, hm, e2]
theorem all_getD {l m : List Int} {n : Nat} (hl : l.length = n) (hm : m.length = n) : ((List.range n).all fun j => l.getD j 0 == m.getD j 0) = decide (l = m) := by
  rw [Bool.eq_iff_iff, List.all_eq_true, decide_eq_true_iff]
  constructor
  · intro h
    apply List.ext_getElem (by omega)
    intro j h1 h2
    have := h j (List.mem_range.mpr (by omega))
    rw [beq_iff_eq, List.getD_eq_getElem?_getD, List.getD_eq_getElem?_getD, List.getElem?_eq_getElem h1, List.getElem?_eq_getElem h2] at this
    exact this
  · rintro rfl j _
    exact beq_self_eq_true _
theorem run_eqId (l m : List Int) (hl : l.length = 32) (hm : m.length = 32) (w : World) : (Op.equalIn 10000 72 (.agg (u8s l).toArray) (.agg (u8s m).toArray)).run Tryd.prog w = .ok (decide (l = m)) w := by
  obtain ⟨i0, hi0⟩ : ∃ i, Tryd.prog.info? 5 = some i := by
    have h : (Tryd.prog.info? 5).isSome = true := by kernel_rfl
    exact Option.isSome_iff_exists.mp h
  have h1 := run_equalIn_array (P := Tryd.prog) (w := w) 9999 (u8s l).toArray (u8s m).toArray Tryd.underlying72 hi0
  have hc : Tryd.prog.cellsOf 5 = 1 := by kernel_rfl
  rw [hc, eqItems_u8 w 9998 l m _ (fun j hj => by have := List.mem_range.mp hj; omega), all_getD hl hm] at h1
  exact h1
section
variable {ops : Array Oper} {rest : List Oper} {o : Oper} {a : Act} {w : World} {Q : Exit → Act → World → Prop}
theorem wpList_eqId (hgd : o.guard = none) (x y : Operand) (ho : o.op = .binOp .eql 72 x y 72) (l m : List Int) (hl : l.length = 32) (hm : m.length = 32) (hx : a.eval x = .agg (u8s l).toArray) (hy : a.eval y = .agg (u8s m).toArray) (b : Bool) (hb : (decide (l = m)) = b)
    (h : wpList Tryd.prog ops Q rest (a.put o.dst (.bool b)) w) : wpList Tryd.prog ops Q (o :: rest) a w := by
  refine wpList_plain hgd fun K hK => ?_
  have hg : (Tryd.prog.eqGuardType Tryd.prog.depth 72) = false := by kernel_rfl
  have h2 := run_eqId l m hl hm w
  subst hb
  unfold Oper.wp execOp
  simp only [ho, hx, hy, Sem.run_bind, eqGuard, binOp, Op.equal, Op.maxDepth]
  simp [Sem.run_bind, hg, h2]
  exact hK _ _ (by simpa using h)
theorem wpList_neId (hgd : o.guard = none) (x y : Operand) (ho : o.op = .binOp .neq 72 x y 72) (l m : List Int) (hl : l.length = 32) (hm : m.length = 32) (hx : a.eval x = .agg (u8s l).toArray) (hy : a.eval y = .agg (u8s m).toArray) (b : Bool) (hb : (!decide (l = m)) = b)
    (h : wpList Tryd.prog ops Q rest (a.put o.dst (.bool b)) w) : wpList Tryd.prog ops Q (o :: rest) a w := by
  refine wpList_plain hgd fun K hK => ?_
  have hg : (Tryd.prog.eqGuardType Tryd.prog.depth 72) = false := by kernel_rfl
  have h2 := run_eqId l m hl hm w
  subst hb
  unfold Oper.wp execOp
  simp only [ho, hx, hy, Sem.run_bind, eqGuard, binOp, Op.equal, Op.maxDepth]
  simp [Sem.run_bind, hg, h2]
  exact hK _ _ (by simpa using h)
end
theorem ename_calls (s : ByteArray) (w : World) : Calls Tryd.prog 18 #[.string s] w fun e w' => e = .returned (.bool (nameB s)) ∧ Below w.heap.size w w' := (node_Name.same s w).mono fun _ _ ⟨h1, h2⟩ => ⟨h1, by rw [h2]; exact Below.refl _ _⟩
end Go.Proofs.YthpgbhpnlnpfnaaDoor.Law

namespace Go.Proofs.YthpgbhpnlnpfnaaDoor.Law
open Go.RowKit Go.Proofs.YthpgbhpnlnpfnaaDoor Go.Proofs.YthpgbhpnlnpfnaaDoorW.PrintWords Go.Proofs.YthpgbhpnlnpfnaaDoorW.PrintLast Go.Proofs.YthpgbhpnlnpfnaaDoorW.PrintMore Go.Proofs.YthpgbhpnlnpfnaaDoor.E
set_option linter.unusedSimpArgs false
set_option linter.unusedVariables false
theorem add_add (ad : Addr) (m j : Nat) : (ad.add m).add j = ad.add (m + j) := by
  unfold Addr.add
  by_cases h : m = 0
  · subst h; simp
  · by_cases h' : j = 0
    · subst h'; simp [h]
    · have : ¬ m + j = 0 := by omega
      simp [h, h', this, Nat.add_assoc]
/-- a piece's cells -/
def pcV (p : Pc) : List Value := u8s p.id ++ [.int .i64 p.n]
theorem pcV_len {p : Pc} (h : p.id.length = 32) : (pcV p).length = 33 := by unfold pcV; rw [List.length_append, u8s_len, h]; rfl
theorem pcV_32 {p : Pc} (h : p.id.length = 32) : (pcV p)[32]? = some (.int .i64 p.n) := by
  unfold pcV
  rw [List.getElem?_append_right (by rw [u8s_len, h]; decide), u8s_len, h]; rfl
theorem pcV_id {p : Pc} (h : p.id.length = 32) {j : Nat} (hj : j < 32) : (pcV p)[j]? = some (.int .u8 (p.id.getD j 0)) := by
  unfold pcV
  rw [List.getElem?_append_left (by rw [u8s_len, h]; exact hj)]
  unfold u8s
  rw [List.getElem?_map, List.getElem?_eq_getElem (by omega), List.getD_eq_getElem?_getD, List.getElem?_eq_getElem (by omega)]; rfl
theorem pcV_one (p : Pc) : ∀ v ∈ pcV p, v.oneCell' = true := fun v hv => by
  rcases List.mem_append.mp hv with h | h
  · exact u8s_one _ v h
  · rw [List.mem_singleton.mp h]; rfl
def rdPc (ps : List Pc) (i : Nat) : Pc := ps.getD i zPc
theorem rdPc_mem {ps : List Pc} {i : Nat} (h : i < ps.length) : rdPc ps i ∈ ps := by
  unfold rdPc
  rw [List.getD_eq_getElem?_getD, List.getElem?_eq_getElem h]
  exact List.getElem_mem h
theorem take_rdPc {ps : List Pc} {i : Nat} (h : i < ps.length) : ps.take (i + 1) = ps.take i ++ [rdPc ps i] := by
  rw [List.take_succ_eq_append_getElem h]
  unfold rdPc
  rw [List.getD_eq_getElem?_getD, List.getElem?_eq_getElem h]; rfl
/-- the i-th piece of a row that is read -/
theorem at_Pc {w : World} {A : Option Addr} {n : Nat} {ps : List Pc} (h : Kd.C kPc w A n ps) {i : Nat} (h1 : i < n) :
    ∃ ad, A = some ad ∧ (rdPc ps i).id.length = 32 ∧ (∀ j u, (pcV (rdPc ps i))[j]? = some u → w.cell? ((ad.add (i * 33)).add j) = some u) ∧ w.cell? ⟨(ad.add (i * 33)).block, (ad.add (i * 33)).off + 32, none⟩ = some (.int .i64 (rdPc ps i).n) := by
  obtain ⟨ad, c, e, _, hK, hc0⟩ := Kd.C_get h zPc (i : Int) (by omega) (by omega)
  have hc : ∀ j u, c[j]? = some u → w.cell? (ad.add (i * 33 + j)) = some u := hc0
  have hK' : kPc.K w (rdPc ps i) c := hK
  obtain ⟨rfl, hl⟩ := kPc_open hK'
  refine ⟨ad, e, hl, fun j u hu => by rw [add_add]; exact hc j u hu, ?_⟩
  rw [← add_field _ _ 32 (by omega)]
  exact hc 32 _ (pcV_32 hl)
/-- how many bytes pieces have -/
def sumN (ps : List Pc) : Int := (ps.map (·.n)).sum
theorem sumN_snoc (l : List Pc) (p : Pc) : sumN (l ++ [p]) = sumN l + p.n := by unfold sumN; rw [List.map_append, List.sum_append]; simp
def okN (n : Int) : Prop := 1 ≤ n ∧ n ≤ 4096
/-- a file's pieces that may be -/
def FineP (x : En) : Prop := x.tree = zeros32 ∧ x.ps.length ≤ 256 ∧ (∀ p ∈ x.ps, okN p.n) ∧ sumN x.ps ≤ 8192
instance (n : Int) : Decidable (okN n) := by unfold okN; infer_instance
instance (x : En) : Decidable (FineP x) := by unfold FineP; infer_instance
/-- whether an entry may be -/
def mayB (x : En) : Bool := nameB x.nm && (if x.dir then decide (x.ps.length = 0) else decide (FineP x))
theorem may_noname {x : En} (h : nameB x.nm = false) : mayB x = false := by unfold mayB; rw [h]; rfl
theorem may_dir {x : En} (h : nameB x.nm = true) (hd : x.dir = true) : mayB x = decide (x.ps.length = 0) := by unfold mayB; rw [h, hd]; rfl
theorem may_no {x : En} (hd : x.dir = false) (hf : ¬ FineP x) : mayB x = false := by unfold mayB; rw [hd, decide_eq_false hf]; simp
theorem may_yes {x : En} (h : nameB x.nm = true) (hd : x.dir = false) (hf : FineP x) : mayB x = true := by unfold mayB; rw [h, hd, decide_eq_true hf]; rfl
theorem len_eq0 (n : Nat) : (((n : Int)) == 0) = decide (n = 0) := by
  rw [Bool.eq_iff_iff, beq_iff_eq, decide_eq_true_iff]; omega
theorem min2_nx (k k' : IntKind) (x y : Int) : Builtin.min2 (.int k x) (.int k' y) = pure (.int k (min x y)) := by rw [min2_int]; congr 2; omega
theorem info62z : (Tryd.prog.info? 78).map (·.zero) = some (some (.agg (pcV ⟨zeros32, 0⟩).toArray)) := by kernel_rfl
/-- a piece that lies in a block of its own -/
structure PcAt (w : World) (g : Nat) (p : Pc) : Prop where
  blk : w.heap[g]? = some (.cells (pcV p).toArray 78 (0, 0))
  il : p.id.length = 32
theorem PcAt.cell {w : World} {g : Nat} {p : Pc} (h : PcAt w g p) {j : Nat} {v : Value} (hv : (pcV p)[j]? = some v) : w.cell? ⟨g, j, none⟩ = some v := by
  rw [blk_cell h.blk j, List.getElem?_toArray, hv]
theorem PcAt.below {w w' : World} {g : Nat} {p : Pc} (h : PcAt w g p) (hb : Below w.heap.size w w') : PcAt w' g p := ⟨blk_below h.blk hb, h.il⟩
section
variable {ops : Array Oper} {rest : List Oper} {o o2 : Oper} {a : Act} {w : World} {Q : Exit → Act → World → Prop}
/-- an element of a row of pieces, loaded whole -/
theorem load_pc (hgd : o.guard = none) (x : Operand) (ho : o.op = .load 78 x) (ad : Addr) (hx : a.eval x = .pointer (some ad)) (p : Pc) (hl : p.id.length = 32) (hc : ∀ j u, (pcV p)[j]? = some u → w.cell? (ad.add j) = some u)
    (h : wpList Tryd.prog ops Q rest (a.put o.dst (.agg (pcV p).toArray)) w) : wpList Tryd.prog ops Q (o :: rest) a w :=
  wpList_load_at hgd 78 x ho ad hx (pcV p) _ hc Tryd.underlying78 rfl (by rw [pcV_len hl]; exact info62) h
/-- a new piece -/
theorem new_pc (hgd : o.guard = none) (hgd2 : o2.guard = none) (ho : o.op = .alloc 78) (x y : Operand) (ho2 : o2.op = .store 78 x y) (hx : (a.put o.dst (.pointer (some ⟨w.heap.size, 0, none⟩))).eval x = .pointer (some ⟨w.heap.size, 0, none⟩))
    (p : Pc) (hl : p.id.length = 32) (hy : (a.put o.dst (.pointer (some ⟨w.heap.size, 0, none⟩))).eval y = .agg (pcV p).toArray)
    (h : ∀ w1 : World, PcAt w1 w.heap.size p → Below w.heap.size w w1 → w1.heap.size = w.heap.size + 1 → wpList Tryd.prog ops Q rest ((a.put o.dst (.pointer (some ⟨w.heap.size, 0, none⟩))).put o2.dst undef) w1) : wpList Tryd.prog ops Q (o :: o2 :: rest) a w :=
  wpList_new_row hgd hgd2 78 ho (.agg (pcV ⟨zeros32, 0⟩).toArray) info62z x y ho2 hx (pcV p) hy (by rw [pcV_len hl]; exact info62) (by rw [pcV_len hl]; rfl) (pcV_one p) (fun w1 h1 h2 h3 => h w1 ⟨h1, hl⟩ h2 h3)
end
set_option maxHeartbeats 4000000 in
set_option maxRecDepth 100000 in
theorem may_calls {x : En} {cs : List Value} {w : World} (h : kEn.K w x cs) (hs : x.nm.size ≤ 140737488355328) (hp : x.ps.length ≤ 140737488355328) :
    Calls Tryd.prog 48 #[.agg cs.toArray] w fun e w' => e = .returned (.bool (mayB x)) ∧ Below w.heap.size w w' := by
  obtain ⟨A, c, rfl, ht, hc, hr⟩ := kEn_open h
  have HT := Aside0.mk ht
  have HC := Aside0.mk hc
  have HR := Aside0.mk hr
  clear h ht hc hr
  cases hnm : nameB x.nm with
  | false =>
    have HNM := Aside0.mk hnm
    have HM := Aside0.mk (may_noname hnm)
    clear hnm
    go_enter Tryd.func48, Tryd.ntmps48
    go_wp2_with (first | ((with_reducible refine gate_dst (N := 1) rfl ?_); refine wpList_box rfl 75 (.tmp 0) rfl (enV x A c) rfl ?_; intro w1 hk hb hs; have E := Aside0.mk (EnAt.mk hk HT.out HC.out (Kd.C_below HR.out hb)); have HB := Aside0.mk hb; have HZ := Aside0.mk hs; have z0 := E.out.cell (enV_0 x _ _); have z1 := E.out.cell (enV_1 x _ _); have z34 := E.out.cell (enV_34 x _ _ HT.out); clear hk hb hs) | (go_at_call 19; with_reducible refine (rname_calls x.nm hs _).mono ?_; rw [HNM.out]; rintro e w2 ⟨rfl, hb⟩; have nB_ := Aside0.mk (below_step HB.out hb); have nE_ := Aside0.mk (E.out.below hb); clear HB E z0 z1 z34 hb; have HB := nB_; have E := nE_; clear nB_ nE_; have z0 := E.out.cell (enV_0 x _ _); have z1 := E.out.cell (enV_1 x _ _); have z34 := E.out.cell (enV_34 x _ _ HT.out)) | (rw [HNM.out]))
    go_ret
    exact ⟨by rw [HM.out]; rfl, HB.out⟩
  | true =>
  have HNM := Aside0.mk hnm
  cases hd : x.dir with
  | true =>
    have HM := Aside0.mk (may_dir hnm hd)
    have HD := Aside0.mk hd
    clear hnm hd
    go_enter Tryd.func48, Tryd.ntmps48
    go_wp2_with (first | ((with_reducible refine gate_dst (N := 1) rfl ?_); refine wpList_box rfl 75 (.tmp 0) rfl (enV x A c) rfl ?_; intro w1 hk hb hs; have E := Aside0.mk (EnAt.mk hk HT.out HC.out (Kd.C_below HR.out hb)); have HB := Aside0.mk hb; have HZ := Aside0.mk hs; have z0 := E.out.cell (enV_0 x _ _); have z1 := (E.out.cell (enV_1 x _ _)).trans (congrArg (fun b => some (Value.bool b)) HD.out); have z34 := E.out.cell (enV_34 x _ _ HT.out); clear hk hb hs) | (go_at_call 19; with_reducible refine (rname_calls x.nm hs _).mono ?_; rw [HNM.out]; rintro e w2 ⟨rfl, hb⟩; have nB_ := Aside0.mk (below_step HB.out hb); have nE_ := Aside0.mk (E.out.below hb); clear HB E z0 z1 z34 hb; have HB := nB_; have E := nE_; clear nB_ nE_; have z0 := E.out.cell (enV_0 x _ _); have z1 := (E.out.cell (enV_1 x _ _)).trans (congrArg (fun b => some (Value.bool b)) HD.out); have z34 := E.out.cell (enV_34 x _ _ HT.out)) | (rw [HNM.out]))
    go_ret
    exact ⟨by rw [HM.out, ← len_eq0]; rfl, HB.out⟩
  | false =>
    have HD := Aside0.mk hd
    clear hd hnm
    have hz : x.tree = zeros32 ∨ ¬ x.tree = zeros32 := Decidable.em _
    rcases hz with hz | hz
    · have HTZ := Aside0.mk (show (!decide (x.tree = zeros32)) = false by rw [decide_eq_true hz]; rfl)
      have HTE := Aside0.mk hz
      clear hz
      by_cases h256 : x.ps.length ≤ 256
      · have b1 : decide ((256 : Int) < (x.ps.length : Int)) = false := decide_eq_false (by omega)
        go_enter Tryd.func48, Tryd.ntmps48
        go_wp2_with (first | ((with_reducible refine gate_dst (N := 1) rfl ?_); refine wpList_box rfl 75 (.tmp 0) rfl (enV x A c) rfl ?_; intro w1 hk hb hs; have E := Aside0.mk (EnAt.mk hk HT.out HC.out (Kd.C_below HR.out hb)); have HB := Aside0.mk hb; have HZ := Aside0.mk hs; have z0 := E.out.cell (enV_0 x _ _); have z1 := (E.out.cell (enV_1 x _ _)).trans (congrArg (fun b => some (Value.bool b)) HD.out); have z34 := E.out.cell (enV_34 x _ _ HT.out); clear hk hb hs) | (go_at_call 19; with_reducible refine (rname_calls x.nm hs _).mono ?_; rw [HNM.out]; rintro e w2 ⟨rfl, hb⟩; have nB_ := Aside0.mk (below_step HB.out hb); have nE_ := Aside0.mk (E.out.below hb); clear HB E z0 z1 z34 hb; have HB := nB_; have E := nE_; clear nB_ nE_; have z0 := E.out.cell (enV_0 x _ _); have z1 := (E.out.cell (enV_1 x _ _)).trans (congrArg (fun b => some (Value.bool b)) HD.out); have z34 := E.out.cell (enV_34 x _ _ HT.out)) | (rw [HNM.out]) | ((with_reducible refine gate_dst (N := 16) rfl ?_); refine wpList_load_part rfl 72 (.tmp 15) rfl w.heap.size 2 rfl (u8s x.tree) _ E.out.tree Tryd.underlying72 rfl (by rw [u8s_len, HT.out]; exact info23) ?_) | ((with_reducible refine gate_dst (N := 18) rfl ?_); refine wpList_neId rfl (.tmp 16) (.tmp 17) rfl x.tree zeros32 HT.out rfl rfl rfl _ HTZ.out ?_))
        clear b1
        go_loop [3, 4] (fun v3 v4 => ∃ (i : Nat) (S : Int), i ≤ x.ps.length ∧ 0 ≤ S ∧ S ≤ 4096 * i ∧ v3 = .int .i64 S ∧ v4 = .int .i64 i ∧ Aside0 (S = sumN (x.ps.take i)) ∧ Aside0 (∀ p ∈ x.ps.take i, okN p.n)) (fun _ v4 => x.ps.length - (intOf v4).toNat)
        case atStart => exact ⟨0, 0, by omega, by omega, by omega, rfl, rfl, ⟨rfl⟩, ⟨fun p hp => by cases hp⟩⟩
        case round =>
          obtain ⟨i, S, hi, hS0, hS1, rfl, rfl, HS, HP⟩ := hrel
          by_cases hlt : i < x.ps.length
          · have hltb : decide ((i : Int) < (x.ps.length : Int)) = true := decide_eq_true (by omega)
            have p1 : (0 ≤ (i : Int)) = True := eq_true (by omega)
            have p2 : ((i : Int) < (x.ps.length : Int)) = True := eq_true (by omega)
            have hwi : wrap64 ((i : Int) + 1) = (i : Int) + 1 := n64 (by omega) (by omega)
            obtain ⟨ad, rfl, hil, _, hx⟩ := at_Pc E.out.rd hlt
            have HIN := Aside0.mk (rdPc_mem hlt)
            have HTK := Aside0.mk (take_rdPc hlt)
            clear hil
            generalize rdPc x.ps i = p at *
            obtain ⟨n, hn⟩ : ∃ n, n = p.n := ⟨_, rfl⟩
            rw [← hn] at hx
            have HNN := Aside0.mk hn
            clear hn
            by_cases c1 : n < 1
            · have HM := Aside0.mk (may_no HD.out (fun f => by have := f.2.2.1 p HIN.out; unfold okN at this; rw [← HNN.out] at this; omega))
              have d1 := decide_eq_true c1
              clear c1
              go_wp2
              go_ret
              exact ⟨by rw [HM.out]; rfl, HB.out⟩
            · have d1 := decide_eq_false c1
              by_cases c2 : 4096 < n
              · have HM := Aside0.mk (may_no HD.out (fun f => by have := f.2.2.1 p HIN.out; unfold okN at this; rw [← HNN.out] at this; omega))
                have d2 := decide_eq_true c2
                clear c1 c2
                go_wp2
                go_ret
                exact ⟨by rw [HM.out]; rfl, HB.out⟩
              · have d2 := decide_eq_false c2
                have hws : wrap64 (S + n) = S + n := n64 (by omega) (by omega)
                have HQ := Aside0.mk (show S + n = sumN (x.ps.take (i + 1)) by rw [HTK.out, sumN_snoc, ← HS.out, ← HNN.out])
                have HP2 := Aside0.mk (show ∀ q ∈ x.ps.take (i + 1), okN q.n from fun q hq => by
                  rw [HTK.out] at hq
                  rcases List.mem_append.mp hq with h | h
                  · exact HP.out q h
                  · rw [List.mem_singleton.mp h, ← HNN.out]; exact ⟨by omega, by omega⟩)
                go_wp2
                go_round
                case rel => exact ⟨i + 1, S + n, by omega, by omega, by omega, rfl, by go_num, HQ, HP2⟩
                case measure => simp [intOf]; omega
          · obtain rfl : i = x.ps.length := by omega
            have hltb : decide ((x.ps.length : Int) < (x.ps.length : Int)) = false := decide_eq_false (by omega)
            have hQ := HS.out
            rw [List.take_length] at hQ
            have hP := HP.out
            rw [List.take_length] at hP
            by_cases c3 : S ≤ 8192
            · have HM := Aside0.mk (may_yes HNM.out HD.out ⟨HTE.out, h256, hP, by rw [← hQ]; exact c3⟩)
              have d3 := decide_eq_true c3
              clear hQ hP c3 h256
              go_wp2
              go_ret
              exact ⟨by rw [HM.out]; rfl, HB.out⟩
            · have HM := Aside0.mk (may_no HD.out (fun f => c3 (by rw [hQ]; exact f.2.2.2)))
              have d3 := decide_eq_false c3
              clear hQ hP c3 h256
              go_wp2
              go_ret
              exact ⟨by rw [HM.out]; rfl, HB.out⟩
      · have b1 : decide ((256 : Int) < (x.ps.length : Int)) = true := decide_eq_true (by omega)
        have HM := Aside0.mk (may_no HD.out (fun f => h256 f.2.1))
        clear h256
        go_enter Tryd.func48, Tryd.ntmps48
        go_wp2_with (first | ((with_reducible refine gate_dst (N := 1) rfl ?_); refine wpList_box rfl 75 (.tmp 0) rfl (enV x A c) rfl ?_; intro w1 hk hb hs; have E := Aside0.mk (EnAt.mk hk HT.out HC.out (Kd.C_below HR.out hb)); have HB := Aside0.mk hb; have HZ := Aside0.mk hs; have z0 := E.out.cell (enV_0 x _ _); have z1 := (E.out.cell (enV_1 x _ _)).trans (congrArg (fun b => some (Value.bool b)) HD.out); have z34 := E.out.cell (enV_34 x _ _ HT.out); clear hk hb hs) | (go_at_call 19; with_reducible refine (rname_calls x.nm hs _).mono ?_; rw [HNM.out]; rintro e w2 ⟨rfl, hb⟩; have nB_ := Aside0.mk (below_step HB.out hb); have nE_ := Aside0.mk (E.out.below hb); clear HB E z0 z1 z34 hb; have HB := nB_; have E := nE_; clear nB_ nE_; have z0 := E.out.cell (enV_0 x _ _); have z1 := (E.out.cell (enV_1 x _ _)).trans (congrArg (fun b => some (Value.bool b)) HD.out); have z34 := E.out.cell (enV_34 x _ _ HT.out)) | (rw [HNM.out]) | ((with_reducible refine gate_dst (N := 16) rfl ?_); refine wpList_load_part rfl 72 (.tmp 15) rfl w.heap.size 2 rfl (u8s x.tree) _ E.out.tree Tryd.underlying72 rfl (by rw [u8s_len, HT.out]; exact info23) ?_) | ((with_reducible refine gate_dst (N := 18) rfl ?_); refine wpList_neId rfl (.tmp 16) (.tmp 17) rfl x.tree zeros32 HT.out rfl rfl rfl _ HTZ.out ?_))
        go_ret
        exact ⟨by rw [HM.out]; rfl, HB.out⟩
    · have HTZ := Aside0.mk (show (!decide (x.tree = zeros32)) = true by rw [decide_eq_false hz]; rfl)
      have HM := Aside0.mk (may_no HD.out (fun f => hz f.1))
      clear hz
      go_enter Tryd.func48, Tryd.ntmps48
      go_wp2_with (first | ((with_reducible refine gate_dst (N := 1) rfl ?_); refine wpList_box rfl 75 (.tmp 0) rfl (enV x A c) rfl ?_; intro w1 hk hb hs; have E := Aside0.mk (EnAt.mk hk HT.out HC.out (Kd.C_below HR.out hb)); have HB := Aside0.mk hb; have HZ := Aside0.mk hs; have z0 := E.out.cell (enV_0 x _ _); have z1 := (E.out.cell (enV_1 x _ _)).trans (congrArg (fun b => some (Value.bool b)) HD.out); have z34 := E.out.cell (enV_34 x _ _ HT.out); clear hk hb hs) | (go_at_call 19; with_reducible refine (rname_calls x.nm hs _).mono ?_; rw [HNM.out]; rintro e w2 ⟨rfl, hb⟩; have nB_ := Aside0.mk (below_step HB.out hb); have nE_ := Aside0.mk (E.out.below hb); clear HB E z0 z1 z34 hb; have HB := nB_; have E := nE_; clear nB_ nE_; have z0 := E.out.cell (enV_0 x _ _); have z1 := (E.out.cell (enV_1 x _ _)).trans (congrArg (fun b => some (Value.bool b)) HD.out); have z34 := E.out.cell (enV_34 x _ _ HT.out)) | (rw [HNM.out]) | ((with_reducible refine gate_dst (N := 16) rfl ?_); refine wpList_load_part rfl 72 (.tmp 15) rfl w.heap.size 2 rfl (u8s x.tree) _ E.out.tree Tryd.underlying72 rfl (by rw [u8s_len, HT.out]; exact info23) ?_) | ((with_reducible refine gate_dst (N := 18) rfl ?_); refine wpList_neId rfl (.tmp 16) (.tmp 17) rfl x.tree zeros32 HT.out rfl rfl rfl _ HTZ.out ?_))
      go_ret
      exact ⟨by rw [HM.out]; rfl, HB.out⟩
section
attribute [local go_sem] min2_nx
set_option maxHeartbeats 4000000 in
set_option maxRecDepth 100000 in
theorem rgt_calls {x : En} {cs : List Value} {w : World} (h : kEn.K w x cs) (hs : x.nm.size ≤ 140737488355328) (hp : x.ps.length ≤ 140737488355328) :
    Calls Tryd.prog 64 #[.agg cs.toArray] w fun e w' => e = .returned (.bool (mayB x)) ∧ Below w.heap.size w w' := by
  obtain ⟨A, c, rfl, ht, hc, hr⟩ := kEn_open h
  have HT := Aside0.mk ht
  have HC := Aside0.mk hc
  have HR := Aside0.mk hr
  clear h ht hc hr
  cases hnm : nameB x.nm with
  | false =>
    have HNM := Aside0.mk hnm
    have HM := Aside0.mk (may_noname hnm)
    clear hnm
    go_enter Tryd.func64, Tryd.ntmps64
    go_wp2_with (first | ((with_reducible refine gate_dst (N := 1) rfl ?_); refine wpList_box rfl 75 (.tmp 0) rfl (enV x A c) rfl ?_; intro w1 hk hb hs; have E := Aside0.mk (EnAt.mk hk HT.out HC.out (Kd.C_below HR.out hb)); have HB := Aside0.mk hb; have HZ := Aside0.mk hs; have z0 := E.out.cell (enV_0 x _ _); have z1 := E.out.cell (enV_1 x _ _); have z34 := E.out.cell (enV_34 x _ _ HT.out); clear hk hb hs) | (go_at_call 18; with_reducible refine (ename_calls x.nm _).mono ?_; rw [HNM.out]; rintro e w2 ⟨rfl, hb⟩; have nB_ := Aside0.mk (below_step HB.out hb); have nE_ := Aside0.mk (E.out.below hb); clear HB E z0 z1 z34 hb; have HB := nB_; have E := nE_; clear nB_ nE_; have z0 := E.out.cell (enV_0 x _ _); have z1 := E.out.cell (enV_1 x _ _); have z34 := E.out.cell (enV_34 x _ _ HT.out)) | (rw [HNM.out]))
    go_ret
    exact ⟨by rw [HM.out]; rfl, HB.out⟩
  | true =>
  have HNM := Aside0.mk hnm
  cases hd : x.dir with
  | true =>
    have HM := Aside0.mk (may_dir hnm hd)
    have HD := Aside0.mk hd
    clear hnm hd
    go_enter Tryd.func64, Tryd.ntmps64
    go_wp2_with (first | ((with_reducible refine gate_dst (N := 1) rfl ?_); refine wpList_box rfl 75 (.tmp 0) rfl (enV x A c) rfl ?_; intro w1 hk hb hs; have E := Aside0.mk (EnAt.mk hk HT.out HC.out (Kd.C_below HR.out hb)); have HB := Aside0.mk hb; have HZ := Aside0.mk hs; have z0 := E.out.cell (enV_0 x _ _); have z1 := (E.out.cell (enV_1 x _ _)).trans (congrArg (fun b => some (Value.bool b)) HD.out); have z34 := E.out.cell (enV_34 x _ _ HT.out); clear hk hb hs) | (go_at_call 18; with_reducible refine (ename_calls x.nm _).mono ?_; rw [HNM.out]; rintro e w2 ⟨rfl, hb⟩; have nB_ := Aside0.mk (below_step HB.out hb); have nE_ := Aside0.mk (E.out.below hb); clear HB E z0 z1 z34 hb; have HB := nB_; have E := nE_; clear nB_ nE_; have z0 := E.out.cell (enV_0 x _ _); have z1 := (E.out.cell (enV_1 x _ _)).trans (congrArg (fun b => some (Value.bool b)) HD.out); have z34 := E.out.cell (enV_34 x _ _ HT.out)) | (rw [HNM.out]))
    go_ret
    exact ⟨by rw [HM.out, ← len_eq0]; rfl, HB.out⟩
  | false =>
    have HD := Aside0.mk hd
    clear hd hnm
    go_enter Tryd.func64, Tryd.ntmps64
    go_wp2_with (first | ((with_reducible refine gate_dst (N := 1) rfl ?_); refine wpList_box rfl 75 (.tmp 0) rfl (enV x A c) rfl ?_; intro w1 hk hb hs; have E := Aside0.mk (EnAt.mk hk HT.out HC.out (Kd.C_below HR.out hb)); have HB := Aside0.mk hb; have HZ := Aside0.mk hs; have z0 := E.out.cell (enV_0 x _ _); have z1 := (E.out.cell (enV_1 x _ _)).trans (congrArg (fun b => some (Value.bool b)) HD.out); have z34 := E.out.cell (enV_34 x _ _ HT.out); clear hk hb hs) | (go_at_call 18; with_reducible refine (ename_calls x.nm _).mono ?_; rw [HNM.out]; rintro e w2 ⟨rfl, hb⟩; have nB_ := Aside0.mk (below_step HB.out hb); have nE_ := Aside0.mk (E.out.below hb); clear HB E z0 z1 z34 hb; have HB := nB_; have E := nE_; clear nB_ nE_; have z0 := E.out.cell (enV_0 x _ _); have z1 := (E.out.cell (enV_1 x _ _)).trans (congrArg (fun b => some (Value.bool b)) HD.out); have z34 := E.out.cell (enV_34 x _ _ HT.out)) | (rw [HNM.out]))
    go_loopw [3, 19] (fun v3 v19 wr => ∃ (i : Nat) (T : Int), i ≤ x.ps.length ∧ 0 ≤ T ∧ T ≤ 8193 ∧ v3 = .int .i64 T ∧ v19 = .int .i64 i ∧ Aside0 (T = min (sumN (x.ps.take i)) 8193) ∧ Aside0 (∀ p ∈ x.ps.take i, okN p.n) ∧ Aside0 (EnAt wr w.heap.size x A c) ∧ Aside0 (Below w.heap.size w wr)) (fun _ v19 _ => x.ps.length - (intOf v19).toNat)
    case atStart => exact ⟨0, 0, by omega, by omega, by omega, rfl, rfl, ⟨rfl⟩, ⟨fun p hp => by cases hp⟩, E, HB⟩
    case round =>
      obtain ⟨i, T, hi, hT0, hT1, rfl, rfl, HS, HP, En, HBn⟩ := hrel
      clear E HB z0 z1 z34
      have E := En
      have HB := HBn
      clear En HBn
      have z0 := E.out.cell (enV_0 x _ _)
      have z1 := (E.out.cell (enV_1 x _ _)).trans (congrArg (fun b => some (Value.bool b)) HD.out)
      have z34 := E.out.cell (enV_34 x _ _ HT.out)
      by_cases hlt : i < x.ps.length
      · have hltb : decide ((i : Int) < (x.ps.length : Int)) = true := decide_eq_true (by omega)
        have p1 : (0 ≤ (i : Int)) = True := eq_true (by omega)
        have p2 : ((i : Int) < (x.ps.length : Int)) = True := eq_true (by omega)
        have hwi : wrap64 ((i : Int) + 1) = (i : Int) + 1 := n64 (by omega) (by omega)
        obtain ⟨ad, rfl, hil, hpc, _⟩ := at_Pc E.out.rd hlt
        have HIN := Aside0.mk (rdPc_mem hlt)
        have HTK := Aside0.mk (take_rdPc hlt)
        have HIL := Aside0.mk hil
        have HPC := Aside0.mk hpc
        clear hil hpc
        generalize rdPc x.ps i = p at *
        obtain ⟨n, hn⟩ : ∃ n, n = p.n := ⟨_, rfl⟩
        have HNN := Aside0.mk hn
        clear hn
        by_cases c1 : n < 1
        · have HM := Aside0.mk (may_no HD.out (fun f => by have := f.2.2.1 p HIN.out; unfold okN at this; rw [← HNN.out] at this; omega))
          have d1 := decide_eq_true c1
          clear c1
          go_wp2_with (first | ((with_reducible refine gate_dst (N := 22) rfl ?_); refine load_pc rfl (.tmp 21) rfl (ad.add (i * 33)) rfl p HIL.out HPC.out ?_) | ((with_reducible refine gate_dst (N := 5) rfl ?_); refine new_pc rfl rfl rfl (.tmp 5) (.tmp 22) rfl rfl p HIL.out rfl ?_; intro w3 hq hb hsz; have y32 := (hq.cell (pcV_32 hq.il)).trans (congrArg (fun b => some (Value.int .i64 b)) HNN.out.symm); have nB_ := Aside0.mk (below_step HB.out hb); have nE_ := Aside0.mk (E.out.below hb); clear HB E z0 z1 z34 hb; have HB := nB_; have E := nE_; clear nB_ nE_; have z0 := E.out.cell (enV_0 x _ _); have z1 := (E.out.cell (enV_1 x _ _)).trans (congrArg (fun b => some (Value.bool b)) HD.out); have z34 := E.out.cell (enV_34 x _ _ HT.out); clear hq hsz))
          go_ret
          exact ⟨by rw [HM.out]; rfl, HB.out⟩
        · have d1 := decide_eq_false c1
          by_cases c2 : 4096 < n
          · have HM := Aside0.mk (may_no HD.out (fun f => by have := f.2.2.1 p HIN.out; unfold okN at this; rw [← HNN.out] at this; omega))
            have d2 := decide_eq_true c2
            clear c1 c2
            go_wp2_with (first | ((with_reducible refine gate_dst (N := 22) rfl ?_); refine load_pc rfl (.tmp 21) rfl (ad.add (i * 33)) rfl p HIL.out HPC.out ?_) | ((with_reducible refine gate_dst (N := 5) rfl ?_); refine new_pc rfl rfl rfl (.tmp 5) (.tmp 22) rfl rfl p HIL.out rfl ?_; intro w3 hq hb hsz; have y32 := (hq.cell (pcV_32 hq.il)).trans (congrArg (fun b => some (Value.int .i64 b)) HNN.out.symm); have nB_ := Aside0.mk (below_step HB.out hb); have nE_ := Aside0.mk (E.out.below hb); clear HB E z0 z1 z34 hb; have HB := nB_; have E := nE_; clear nB_ nE_; have z0 := E.out.cell (enV_0 x _ _); have z1 := (E.out.cell (enV_1 x _ _)).trans (congrArg (fun b => some (Value.bool b)) HD.out); have z34 := E.out.cell (enV_34 x _ _ HT.out); clear hq hsz))
            go_ret
            exact ⟨by rw [HM.out]; rfl, HB.out⟩
          · have d2 := decide_eq_false c2
            have hws : wrap64 (T + n) = T + n := n64 (by omega) (by omega)
            have HQ := Aside0.mk (show min (T + n) 8193 = min (sumN (x.ps.take (i + 1))) 8193 by rw [HTK.out, sumN_snoc, ← HNN.out, HS.out]; omega)
            have HP2 := Aside0.mk (show ∀ q ∈ x.ps.take (i + 1), okN q.n from fun q hq => by
              rw [HTK.out] at hq
              rcases List.mem_append.mp hq with h | h
              · exact HP.out q h
              · rw [List.mem_singleton.mp h, ← HNN.out]; exact ⟨by omega, by omega⟩)
            go_wp2_with (first | ((with_reducible refine gate_dst (N := 22) rfl ?_); refine load_pc rfl (.tmp 21) rfl (ad.add (i * 33)) rfl p HIL.out HPC.out ?_) | ((with_reducible refine gate_dst (N := 5) rfl ?_); refine new_pc rfl rfl rfl (.tmp 5) (.tmp 22) rfl rfl p HIL.out rfl ?_; intro w3 hq hb hsz; have y32 := (hq.cell (pcV_32 hq.il)).trans (congrArg (fun b => some (Value.int .i64 b)) HNN.out.symm); have nB_ := Aside0.mk (below_step HB.out hb); have nE_ := Aside0.mk (E.out.below hb); clear HB E z0 z1 z34 hb; have HB := nB_; have E := nE_; clear nB_ nE_; have z0 := E.out.cell (enV_0 x _ _); have z1 := (E.out.cell (enV_1 x _ _)).trans (congrArg (fun b => some (Value.bool b)) HD.out); have z34 := E.out.cell (enV_34 x _ _ HT.out); clear hq hsz))
            go_roundw
            case rel => exact ⟨i + 1, min (T + n) 8193, by omega, by omega, by omega, congrArg (Value.int .i64) (by first | rfl | (split <;> omega)), by go_num, HQ, HP2, E, HB⟩
            case measure => simp [intOf]; omega
      · obtain rfl : i = x.ps.length := by omega
        have hltb : decide ((x.ps.length : Int) < (x.ps.length : Int)) = false := decide_eq_false (by omega)
        have hQ := HS.out
        rw [List.take_length] at hQ
        have hP := HP.out
        rw [List.take_length] at hP
        have hz : x.tree = zeros32 ∨ ¬ x.tree = zeros32 := Decidable.em _
        rcases hz with hz | hz
        · have HTZ := Aside0.mk (decide_eq_true hz)
          by_cases h256 : x.ps.length ≤ 256
          · have b1 : decide ((x.ps.length : Int) ≤ 256) = true := decide_eq_true (by omega)
            by_cases c3 : T ≤ 8192
            · have HM := Aside0.mk (may_yes HNM.out HD.out ⟨hz, h256, hP, by omega⟩)
              have d3 := decide_eq_true c3
              clear hQ hP c3 h256 hz
              go_wp2_with (first | ((with_reducible refine gate_dst (N := 38) rfl ?_); refine wpList_load_part rfl 72 (.tmp 37) rfl w.heap.size 2 rfl (u8s x.tree) _ E.out.tree Tryd.underlying72 rfl (by rw [u8s_len, HT.out]; exact info23) ?_) | ((with_reducible refine gate_dst (N := 40) rfl ?_); refine wpList_eqId rfl (.tmp 38) (.tmp 39) rfl x.tree zeros32 HT.out rfl rfl rfl _ HTZ.out ?_))
              go_ret
              exact ⟨by rw [HM.out]; rfl, HB.out⟩
            · have HM := Aside0.mk (may_no HD.out (fun f => c3 (by have := f.2.2.2; omega)))
              have d3 := decide_eq_false c3
              clear hQ hP c3 h256 hz
              go_wp2_with (first | ((with_reducible refine gate_dst (N := 38) rfl ?_); refine wpList_load_part rfl 72 (.tmp 37) rfl w.heap.size 2 rfl (u8s x.tree) _ E.out.tree Tryd.underlying72 rfl (by rw [u8s_len, HT.out]; exact info23) ?_) | ((with_reducible refine gate_dst (N := 40) rfl ?_); refine wpList_eqId rfl (.tmp 38) (.tmp 39) rfl x.tree zeros32 HT.out rfl rfl rfl _ HTZ.out ?_))
              go_ret
              exact ⟨by rw [HM.out]; rfl, HB.out⟩
          · have b1 : decide ((x.ps.length : Int) ≤ 256) = false := decide_eq_false (by omega)
            have HM := Aside0.mk (may_no HD.out (fun f => h256 f.2.1))
            clear hQ hP h256 hz
            go_wp2_with (first | ((with_reducible refine gate_dst (N := 38) rfl ?_); refine wpList_load_part rfl 72 (.tmp 37) rfl w.heap.size 2 rfl (u8s x.tree) _ E.out.tree Tryd.underlying72 rfl (by rw [u8s_len, HT.out]; exact info23) ?_) | ((with_reducible refine gate_dst (N := 40) rfl ?_); refine wpList_eqId rfl (.tmp 38) (.tmp 39) rfl x.tree zeros32 HT.out rfl rfl rfl _ HTZ.out ?_))
            go_ret
            exact ⟨by rw [HM.out]; rfl, HB.out⟩
        · have HTZ := Aside0.mk (decide_eq_false hz)
          have HM := Aside0.mk (may_no HD.out (fun f => hz f.1))
          clear hQ hP hz
          go_wp2_with (first | ((with_reducible refine gate_dst (N := 38) rfl ?_); refine wpList_load_part rfl 72 (.tmp 37) rfl w.heap.size 2 rfl (u8s x.tree) _ E.out.tree Tryd.underlying72 rfl (by rw [u8s_len, HT.out]; exact info23) ?_) | ((with_reducible refine gate_dst (N := 40) rfl ?_); refine wpList_eqId rfl (.tmp 38) (.tmp 39) rfl x.tree zeros32 HT.out rfl rfl rfl _ HTZ.out ?_))
          go_ret
          exact ⟨by rw [HM.out]; rfl, HB.out⟩
end
end Go.Proofs.YthpgbhpnlnpfnaaDoor.Law

namespace Go.Proofs.YthpgbhpnlnpfnaaDoor.Law
open Go.RowKit Go.Proofs.YthpgbhpnlnpfnaaDoor Go.Proofs.YthpgbhpnlnpfnaaDoorW.PrintWords Go.Proofs.YthpgbhpnlnpfnaaDoorW.PrintLast Go.Proofs.YthpgbhpnlnpfnaaDoorW.PrintMore Go.Proofs.YthpgbhpnlnpfnaaDoor.E
set_option linter.unusedSimpArgs false
set_option linter.unusedVariables false
def zEn : En := ⟨ByteArray.empty, false, zeros32, []⟩
def rdEn (xs : List En) (i : Nat) : En := xs.getD i zEn
theorem rdEn_mem {xs : List En} {i : Nat} (h : i < xs.length) : rdEn xs i ∈ xs := by
  unfold rdEn
  rw [List.getD_eq_getElem?_getD, List.getElem?_eq_getElem h]
  exact List.getElem_mem h
theorem take_rdEn {xs : List En} {i : Nat} (h : i < xs.length) : xs.take (i + 1) = xs.take i ++ [rdEn xs i] := by
  rw [List.take_succ_eq_append_getElem h]
  unfold rdEn
  rw [List.getD_eq_getElem?_getD, List.getElem?_eq_getElem h]; rfl
theorem rdEn_get {xs : List En} {i : Nat} (h : i < xs.length) : rdEn xs i = xs[i] := by
  unfold rdEn
  rw [List.getD_eq_getElem?_getD, List.getElem?_eq_getElem h]; rfl
/-- the i-th entry of a row that is read -/
theorem at_En {w : World} {A : Option Addr} {n : Nat} {xs : List En} (h : Kd.C kEn w A n xs) {i : Nat} (h1 : i < n) :
    ∃ ad A' c', A = some ad ∧ (rdEn xs i).tree.length = 32 ∧ (rdEn xs i).ps.length ≤ c' ∧ Kd.C kPc w A' (rdEn xs i).ps.length (rdEn xs i).ps ∧ (∀ j u, (enV (rdEn xs i) A' c')[j]? = some u → w.cell? ((ad.add (i * 35)).add j) = some u) ∧ w.cell? (ad.add (i * 35)) = some (.string (rdEn xs i).nm) := by
  obtain ⟨ad, c, e, _, hK, hc0⟩ := Kd.C_get h zEn (i : Int) (by omega) (by omega)
  have hc : ∀ j u, c[j]? = some u → w.cell? (ad.add (i * 35 + j)) = some u := hc0
  have hK' : kEn.K w (rdEn xs i) c := hK
  obtain ⟨A', c', rfl, h2, h3, h4⟩ := kEn_open hK'
  exact ⟨ad, A', c', e, h2, h3, h4, fun j u hu => by rw [add_add]; exact hc j u hu, hc 0 _ rfl⟩
theorem enV_one (x : En) (A : Option Addr) (c : Nat) : ∀ v ∈ enV x A c, v.oneCell' = true := fun v hv => by
  unfold enV at hv
  rcases List.mem_cons.mp hv with rfl | hv
  · rfl
  · rcases List.mem_cons.mp hv with rfl | hv
    · rfl
    · rcases List.mem_append.mp hv with h | h
      · exact u8s_one _ v h
      · rw [List.mem_singleton.mp h]; rfl
theorem info26z : (Tryd.prog.info? 75).map (·.zero) = some (some (.agg (enV zEn none 0).toArray)) := by kernel_rfl
section
variable {ops : Array Oper} {rest : List Oper} {o o2 : Oper} {a : Act} {w : World} {Q : Exit → Act → World → Prop}
/-- an element of a row of entries, loaded whole -/
theorem load_enAt (hgd : o.guard = none) (x : Operand) (ho : o.op = .load 75 x) (ad : Addr) (hx : a.eval x = .pointer (some ad)) (y : En) (A : Option Addr) (c : Nat) (hl : y.tree.length = 32) (hc : ∀ j u, (enV y A c)[j]? = some u → w.cell? (ad.add j) = some u)
    (h : wpList Tryd.prog ops Q rest (a.put o.dst (.agg (enV y A c).toArray)) w) : wpList Tryd.prog ops Q (o :: rest) a w :=
  wpList_load_at hgd 75 x ho ad hx (enV y A c) _ hc Tryd.underlying75 rfl (by rw [enV_len _ _ _ hl]; exact info26) h
/-- a new entry -/
theorem new_en (hgd : o.guard = none) (hgd2 : o2.guard = none) (ho : o.op = .alloc 75) (x y : Operand) (ho2 : o2.op = .store 75 x y) (hx : (a.put o.dst (.pointer (some ⟨w.heap.size, 0, none⟩))).eval x = .pointer (some ⟨w.heap.size, 0, none⟩))
    (p : En) (A : Option Addr) (c : Nat) (hl : p.tree.length = 32) (hy : (a.put o.dst (.pointer (some ⟨w.heap.size, 0, none⟩))).eval y = .agg (enV p A c).toArray)
    (h : ∀ w1 : World, w1.heap[w.heap.size]? = some (.cells (enV p A c).toArray 75 (0, 0)) → Below w.heap.size w w1 → w1.heap.size = w.heap.size + 1 → wpList Tryd.prog ops Q rest ((a.put o.dst (.pointer (some ⟨w.heap.size, 0, none⟩))).put o2.dst undef) w1) : wpList Tryd.prog ops Q (o :: o2 :: rest) a w :=
  wpList_new_row hgd hgd2 75 ho (.agg (enV zEn none 0).toArray) info26z x y ho2 hx (enV p A c) hy (by rw [enV_len _ _ _ hl]; exact info26) (by rw [enV_len _ _ _ hl]; rfl) (enV_one p A c) h
end
/-- what entries' names do -/
def RiseP (xs : List En) : Prop := ∀ i, i + 1 < xs.length → Op.bytesLess (rdEn xs i).nm.toList (rdEn xs (i + 1)).nm.toList = true
instance (xs : List En) : Decidable (RiseP xs) := decidable_of_iff (∀ i, i < xs.length → i + 1 < xs.length → Op.bytesLess (rdEn xs i).nm.toList (rdEn xs (i + 1)).nm.toList = true) ⟨fun h i hi => h i (by omega) hi, fun h i _ hi => h i hi⟩
/-- why entries may not be -/
def risingP (xs : List En) : Int := if ∀ x ∈ xs, mayB x = true then (if RiseP xs then 0 else 19) else 1
theorem rising_no {xs : List En} {x : En} (hx : x ∈ xs) (hm : mayB x = false) : risingP xs = 1 := by
  unfold risingP
  rw [if_neg (fun h => by rw [h x hx] at hm; cases hm)]
theorem rising_there {xs : List En} {i : Nat} (h : ∀ x ∈ xs, mayB x = true) (hi : i + 1 < xs.length) (hm : Op.bytesLess (rdEn xs i).nm.toList (rdEn xs (i + 1)).nm.toList = false) : risingP xs = 19 := by
  unfold risingP
  rw [if_pos h, if_neg (fun h => by rw [h i hi] at hm; cases hm)]
theorem rising_ok {xs : List En} (h : ∀ x ∈ xs, mayB x = true) (hr : RiseP xs) : risingP xs = 0 := by
  unfold risingP
  rw [if_pos h, if_pos hr]
theorem geq_str (a b : ByteArray) (t : TypeId) : binOp .geq t (.string a) (.string b) = pure (.bool !(Op.bytesLess a.toList b.toList)) := by simp [binOp, Op.stringOp]
/-- the sizes that entries have -/
def Szd (xs : List En) : Prop := xs.length ≤ 140737488355328 ∧ ∀ x ∈ xs, x.nm.size ≤ 140737488355328 ∧ x.ps.length ≤ 140737488355328
section
attribute [local go_sem] geq_str
set_option maxHeartbeats 4000000 in
set_option maxRecDepth 100000 in
theorem rising_calls {A : Option Addr} {c : Nat} {xs : List En} {w : World} (h : Kd.C kEn w A xs.length xs) (hs : Szd xs) :
    Calls Tryd.prog 45 #[.slice A xs.length c] w fun e w' => e = .returned (.int .i64 (risingP xs)) ∧ Below w.heap.size w w' := by
  have HL := Aside0.mk h
  have HSZ := Aside0.mk hs.2
  have hln := hs.1
  have HB := Aside0.mk (Below.refl w.heap.size w)
  clear h hs
  go_enter Tryd.func45, Tryd.ntmps45
  go_wp2
  go_loopw [8] (fun v8 wr => ∃ i : Nat, i ≤ xs.length ∧ v8 = .int .i64 i ∧ Aside0 (∀ x ∈ xs.take i, mayB x = true) ∧ Aside0 (Below w.heap.size w wr)) (fun v8 _ => xs.length - (intOf v8).toNat)
  case atStart => exact ⟨0, by omega, rfl, ⟨fun x hx => by cases hx⟩, HB⟩
  case round =>
    obtain ⟨i, hi, rfl, HP, HBn⟩ := hrel
    clear HB
    have HB := HBn
    clear HBn
    by_cases hlt : i < xs.length
    · have hltb : decide ((i : Int) < (xs.length : Int)) = true := decide_eq_true (by omega)
      have p1 : (0 ≤ (i : Int)) = True := eq_true (by omega)
      have p2 : ((i : Int) < (xs.length : Int)) = True := eq_true (by omega)
      have hwi : wrap64 ((i : Int) + 1) = (i : Int) + 1 := n64 (by omega) (by omega)
      obtain ⟨ad, A', c', rfl, hxt, hxl, hxp, hxc, _⟩ := at_En (Kd.C_below HL.out HB.out) hlt
      have HXT := Aside0.mk hxt
      have HXL := Aside0.mk hxl
      have HXP := Aside0.mk hxp
      have HXC := Aside0.mk hxc
      have HIN := Aside0.mk (rdEn_mem hlt)
      have HSX := Aside0.mk (HSZ.out _ (rdEn_mem hlt))
      have HTK := Aside0.mk (take_rdEn hlt)
      clear hxt hxl hxp hxc
      generalize rdEn xs i = x at *
      cases hm : mayB x with
      | false =>
        have HM := Aside0.mk hm
        have HRS := Aside0.mk (rising_no HIN.out hm)
        clear hm
        go_wp2_with (first | ((with_reducible refine gate_dst (N := 11) rfl ?_); refine load_enAt rfl (.tmp 10) rfl (ad.add (i * 35)) rfl x A' c' HXT.out HXC.out ?_) | ((with_reducible refine gate_dst (N := 4) rfl ?_); refine new_en rfl rfl rfl (.tmp 4) (.tmp 11) rfl rfl x A' c' HXT.out rfl ?_; intro w3 hk hb hsz; have E := Aside0.mk (EnAt.mk hk HXT.out HXL.out (Kd.C_below HXP.out hb)); have nB_ := Aside0.mk (below_step HB.out hb); clear HB hb; have HB := nB_; clear nB_; clear hk hsz) | ((with_reducible refine gate_dst (N := 12) rfl ?_); refine load_en rfl (.tmp 4) rfl wr.heap.size rfl E.out ?_) | (go_at_call 64; with_reducible refine (rgt_calls E.out.K HSX.out.1 HSX.out.2).mono ?_; rw [HM.out]; rintro e w4 ⟨rfl, hb⟩; have nB_ := Aside0.mk (below_step HB.out hb); clear HB hb; have HB := nB_; clear nB_))
        go_ret
        exact ⟨by rw [HRS.out]; rfl, HB.out⟩
      | true =>
        have HM := Aside0.mk hm
        have HP2 := Aside0.mk (show ∀ y ∈ xs.take (i + 1), mayB y = true from fun y hy => by
          rw [HTK.out] at hy
          rcases List.mem_append.mp hy with h | h
          · exact HP.out y h
          · rw [List.mem_singleton.mp h]; exact HM.out)
        clear hm
        go_wp2_with (first | ((with_reducible refine gate_dst (N := 11) rfl ?_); refine load_enAt rfl (.tmp 10) rfl (ad.add (i * 35)) rfl x A' c' HXT.out HXC.out ?_) | ((with_reducible refine gate_dst (N := 4) rfl ?_); refine new_en rfl rfl rfl (.tmp 4) (.tmp 11) rfl rfl x A' c' HXT.out rfl ?_; intro w3 hk hb hsz; have E := Aside0.mk (EnAt.mk hk HXT.out HXL.out (Kd.C_below HXP.out hb)); have nB_ := Aside0.mk (below_step HB.out hb); clear HB hb; have HB := nB_; clear nB_; clear hk hsz) | ((with_reducible refine gate_dst (N := 12) rfl ?_); refine load_en rfl (.tmp 4) rfl wr.heap.size rfl E.out ?_) | (go_at_call 64; with_reducible refine (rgt_calls E.out.K HSX.out.1 HSX.out.2).mono ?_; rw [HM.out]; rintro e w4 ⟨rfl, hb⟩; have nB_ := Aside0.mk (below_step HB.out hb); clear HB hb; have HB := nB_; clear nB_))
        go_roundw
        case rel => exact ⟨i + 1, by omega, by go_num, HP2, HB⟩
        case measure => simp [intOf]; omega
    · obtain rfl : i = xs.length := by omega
      have hltb : decide ((xs.length : Int) < (xs.length : Int)) = false := decide_eq_false (by omega)
      have HPA := Aside0.mk (show ∀ y ∈ xs, mayB y = true by have := HP.out; rwa [List.take_length] at this)
      clear HP
      go_wp2
      clear hltb
      go_loopw [18] (fun v18 wr => ∃ i : Nat, i ≤ xs.length ∧ v18 = .int .i64 i ∧ Aside0 (∀ j, j + 1 < i → Op.bytesLess (rdEn xs j).nm.toList (rdEn xs (j + 1)).nm.toList = true) ∧ Aside0 (Below w.heap.size w wr)) (fun v18 _ => xs.length - (intOf v18).toNat)
      case atStart => exact ⟨0, by omega, rfl, ⟨fun j hj => by omega⟩, HB⟩
      case round =>
        obtain ⟨i, hi2, rfl, HP, HBn⟩ := hrel
        clear HB
        have HB := HBn
        clear HBn
        by_cases hlt : i < xs.length
        · have hltb : decide ((i : Int) < (xs.length : Int)) = true := decide_eq_true (by omega)
          have hwi : wrap64 ((i : Int) + 1) = (i : Int) + 1 := n64 (by omega) (by omega)
          rcases Nat.eq_zero_or_pos i with rfl | hpos
          · go_wp2
            go_quiet (fail)
            go_wp2
            have HB2 := Aside0.mk (pw_below_drewN HB.out nq)
            clear HP
            go_roundw
            case rel => exact ⟨1, by omega, by go_num, ⟨fun j hj => by omega⟩, HB2⟩
            case measure => simp [intOf]; omega
          · obtain ⟨k, rfl⟩ : ∃ k, i = k + 1 := ⟨i - 1, by omega⟩
            have HLr := Aside0.mk (Kd.C_below HL.out HB.out)
            obtain ⟨ad, _, _, rfl, _, _, _, _, hz1⟩ := at_En HLr.out (show k < xs.length by omega)
            obtain ⟨ad2, _, _, e2, _, _, _, _, hz2⟩ := at_En HLr.out hlt
            obtain rfl := Option.some.inj e2
            have p1 : (0 ≤ (k : Int)) = True := eq_true (by omega)
            have p2 : ((k : Int) < (xs.length : Int)) = True := eq_true (by omega)
            have p3 : (0 ≤ (k : Int) + 1) = True := eq_true (by omega)
            have p4 : ((k : Int) + 1 < (xs.length : Int)) = True := eq_true (by omega)
            have p5 : ((k : Int) + 1).toNat = k + 1 := by omega
            have p6 : (0 < (k : Int) + 1) = True := eq_true (by omega)
            have hwk : IntKind.i64.wrap (k : Int) = (k : Int) := Go.IntWalk.i64_in _ (by omega)
            have hs1 : (k : Int) + 1 - 1 = (k : Int) := by omega
            have HTH := Aside0.mk (fun hm => rising_there (i := k) HPA.out hlt hm)
            generalize hsa : (rdEn xs k).nm = sa at *
            generalize hsb : (rdEn xs (k + 1)).nm = sb at *
            have HSA := Aside0.mk hsa
            have HSB := Aside0.mk hsb
            clear hsa hsb hpos
            cases hm : Op.bytesLess sa.toList sb.toList with
            | false =>
              have HRS := Aside0.mk (HTH.out hm)
              have hmb : (!Op.bytesLess sa.toList sb.toList) = true := by rw [hm]; rfl
              go_wp2
              go_quiet (fail)
              go_wp2
              go_ret
              exact ⟨by rw [HRS.out]; rfl, pw_below_drewN HB.out _⟩
            | true =>
              have hmb : (!Op.bytesLess sa.toList sb.toList) = false := by rw [hm]; rfl
              have HP2 := Aside0.mk (show ∀ j, j + 1 < k + 1 + 1 → Op.bytesLess (rdEn xs j).nm.toList (rdEn xs (j + 1)).nm.toList = true from fun j hj => by
                by_cases e : j = k
                · subst e; rw [HSA.out, HSB.out]; exact hm
                · exact HP.out j (by omega))
              go_wp2
              go_quiet (fail)
              go_wp2
              have HB2 := Aside0.mk (pw_below_drewN HB.out nq)
              clear HP HTH
              go_roundw
              case rel => exact ⟨k + 1 + 1, by omega, by go_num, HP2, HB2⟩
              case measure => simp [intOf]; omega
        · obtain rfl : i = xs.length := by omega
          have hltb : decide ((xs.length : Int) < (xs.length : Int)) = false := decide_eq_false (by omega)
          have HRS := Aside0.mk (rising_ok HPA.out (fun j hj => HP.out j hj))
          clear HP
          go_wp2
          go_ret
          exact ⟨by rw [HRS.out]; rfl, HB.out⟩
end
end Go.Proofs.YthpgbhpnlnpfnaaDoor.Law
