/- Entries as values: a name, a flag, an id of 32 bytes, a row of pieces; how they lie in memory. -/
import Derived.Test.YtphpinfingaffaaDx1
import Derived.Test.YtphpinfingaffaaRow
import Derived.ChangeKeysEq
namespace Go.Proofs.Ytphpinfingaffaa.Law
open Go.RowKit Go.Proofs.Ytphpinfingaffaa Go.Proofs.YtphpinfingaffaaW.PrintWords Go.Proofs.YtphpinfingaffaaW.PrintLast Go.Proofs.YtphpinfingaffaaW.PrintMore Go.Proofs.Ytphpinfingaffaa.D
set_option linter.unusedSimpArgs false
set_option linter.unusedVariables false
def u8s (l : List Int) : List Value := l.map (Value.int .u8)
theorem u8s_len (l : List Int) : (u8s l).length = l.length := List.length_map _
theorem u8s_one (l : List Int) : ∀ v ∈ u8s l, v.oneCell' = true := fun v hv => by
  obtain ⟨x, _, rfl⟩ := List.mem_map.mp hv; rfl
/-- an id: 32 bytes in line -/
def kId : Kd (List Int) where
  sz := 32
  E := []
  K := fun _ l cs => cs = u8s l ∧ l.length = 32
  M := fun _ _ _ l cs => cs = u8s l ∧ l.length = 32
  K_len := fun h => by rw [h.1, u8s_len, h.2]
  K_one := fun h u hu => by rw [h.1] at hu; exact u8s_one _ u hu
  K_below := fun _ h => h
  K_of_M := fun h => h
  M_mono := fun _ h => h
  M_bound := fun h => h
  M_move := fun _ h => h
  M_lower := fun _ h => h
structure Pc where
  id : List Int
  n : Int
def kPc : Kd Pc := Kd.iso (Kd.pair kId (Kd.int .i64)) (fun p => (p.id, p.n))
structure En where
  nm : ByteArray
  dir : Bool
  tree : List Int
  ps : List Pc
def kEn : Kd En := Kd.iso (Kd.pair Kd.string (Kd.pair Kd.bool (Kd.pair kId (Kd.slice 62 kPc)))) (fun x => (x.nm, x.dir, x.tree, x.ps))
def zPc : Pc := ⟨[], 0⟩
theorem kPc_open {w : World} {x : Pc} {cs : List Value} (h : kPc.K w x cs) : cs = u8s x.id ++ [.int .i64 x.n] ∧ x.id.length = 32 := by
  obtain ⟨_, _, rfl, ⟨rfl, h⟩, rfl⟩ := h
  exact ⟨rfl, h⟩
/-- an entry's cells -/
def enV (x : En) (A : Option Addr) (c : Nat) : List Value := .string x.nm :: .bool x.dir :: (u8s x.tree ++ [.slice A x.ps.length c])
theorem kEn_open {w : World} {x : En} {cs : List Value} (h : kEn.K w x cs) : ∃ A c, cs = enV x A c ∧ x.tree.length = 32 ∧ x.ps.length ≤ c ∧ Kd.C kPc w A x.ps.length x.ps := by
  obtain ⟨_, _, rfl, rfl, _, _, rfl, rfl, _, _, rfl, ⟨rfl, h1⟩, A, c, rfl, h2, h3⟩ := h
  exact ⟨A, c, rfl, h1, h2, h3⟩
theorem kEn_mk {w : World} {x : En} {A : Option Addr} {c : Nat} (h1 : x.tree.length = 32) (h2 : x.ps.length ≤ c) (h3 : Kd.C kPc w A x.ps.length x.ps) : kEn.K w x (enV x A c) :=
  ⟨[.string x.nm], .bool x.dir :: (u8s x.tree ++ [.slice A x.ps.length c]), rfl, rfl, [.bool x.dir], _, rfl, rfl, u8s x.tree, _, rfl, ⟨rfl, h1⟩, A, c, rfl, h2, h3⟩
theorem enV_len (x : En) (A : Option Addr) (c : Nat) (h : x.tree.length = 32) : (enV x A c).length = 35 := by
  unfold enV
  rw [List.length_cons, List.length_cons, List.length_append, u8s_len, h]; rfl
theorem enV_0 (x : En) (A : Option Addr) (c : Nat) : (enV x A c)[0]? = some (.string x.nm) := rfl
theorem enV_1 (x : En) (A : Option Addr) (c : Nat) : (enV x A c)[1]? = some (.bool x.dir) := rfl
theorem enV_34 (x : En) (A : Option Addr) (c : Nat) (h : x.tree.length = 32) : (enV x A c)[34]? = some (.slice A x.ps.length c) := by
  unfold enV
  rw [List.getElem?_cons_succ, List.getElem?_cons_succ, List.getElem?_append_right (by rw [u8s_len, h]; decide), u8s_len, h]; rfl
theorem enV_id (x : En) (A : Option Addr) (c : Nat) (h : x.tree.length = 32) (j : Nat) (hj : j < 32) : (enV x A c)[2 + j]? = some (.int .u8 (x.tree.getD j 0)) := by
  unfold enV
  rw [show 2 + j = (j + 1) + 1 by omega, List.getElem?_cons_succ, List.getElem?_cons_succ, List.getElem?_append_left (by rw [u8s_len, h]; exact hj)]
  unfold u8s
  rw [List.getElem?_map, List.getElem?_eq_getElem (by omega), List.getD_eq_getElem?_getD, List.getElem?_eq_getElem (by omega)]; rfl
/-- an entry that lies in a block of its own -/
structure EnAt (w : World) (g : Nat) (x : En) (A : Option Addr) (c : Nat) : Prop where
  blk : w.heap[g]? = some (.cells (enV x A c).toArray 26 (0, 0))
  tl : x.tree.length = 32
  hc : x.ps.length ≤ c
  rd : Kd.C kPc w A x.ps.length x.ps
theorem EnAt.cell {w : World} {g : Nat} {x : En} {A : Option Addr} {c : Nat} (h : EnAt w g x A c) {j : Nat} {v : Value} (hv : (enV x A c)[j]? = some v) : w.cell? ⟨g, j, none⟩ = some v := by
  rw [blk_cell h.blk j, List.getElem?_toArray, hv]
theorem EnAt.below {w w' : World} {g : Nat} {x : En} {A : Option Addr} {c : Nat} (h : EnAt w g x A c) (hb : Below w.heap.size w w') : EnAt w' g x A c := ⟨blk_below h.blk hb, h.tl, h.hc, Kd.C_below h.rd hb⟩
theorem EnAt.tree {w : World} {g : Nat} {x : En} {A : Option Addr} {c : Nat} (h : EnAt w g x A c) (j : Nat) (v : Value) (hv : (u8s x.tree)[j]? = some v) : w.cell? ⟨g, 2 + j, none⟩ = some v := by
  refine h.cell ?_
  unfold enV
  have hj : j < (u8s x.tree).length := (List.getElem?_eq_some_iff.mp hv).1
  rw [show 2 + j = (j + 1) + 1 by omega, List.getElem?_cons_succ, List.getElem?_cons_succ, List.getElem?_append_left hj, hv]
theorem EnAt.lt {w : World} {g : Nat} {x : En} {A : Option Addr} {c : Nat} (h : EnAt w g x A c) : g < w.heap.size := blk_lt h.blk
theorem EnAt.new {w : World} {x : En} {A : Option Addr} {c : Nat} (h1 : x.tree.length = 32) (h2 : x.ps.length ≤ c) (h3 : Kd.C kPc w A x.ps.length x.ps) : EnAt (w.alloc (.cells (enV x A c).toArray 26)) w.heap.size x A c :=
  ⟨heap_alloc_new w _, h1, h2, Kd.C_below h3 (below_alloc (Below.refl _ _) _)⟩
theorem EnAt.newOf {w w0 : World} {x : En} {cs : List Value} (h : kEn.K w0 x cs) (hb : Below w0.heap.size w0 w) : ∃ A c, cs = enV x A c ∧ EnAt (w.alloc (.cells cs.toArray 26)) w.heap.size x A c := by
  obtain ⟨A, c, rfl, h1, h2, h3⟩ := kEn_open h
  exact ⟨A, c, rfl, EnAt.new h1 h2 (Kd.C_below h3 hb)⟩
theorem EnAt.K {w : World} {g : Nat} {x : En} {A : Option Addr} {c : Nat} (h : EnAt w g x A c) : kEn.K w x (enV x A c) := kEn_mk h.tl h.hc h.rd
theorem info26 : (Try.prog.info? 26).map (·.size) = some 35 := by kernel_rfl
theorem info62 : (Try.prog.info? 62).map (·.size) = some 33 := by kernel_rfl
theorem info23 : (Try.prog.info? 23).map (·.size) = some 32 := by kernel_rfl
section
variable {ops : Array Oper} {rest : List Oper} {o : Oper} {a : Act} {w : World} {Q : Exit → Act → World → Prop}
/-- a load of a whole entry out of its block -/
theorem load_en (hgd : o.guard = none) (x : Operand) (ho : o.op = .load 26 x) (g : Nat) (hx : a.eval x = .pointer (some ⟨g, 0, none⟩)) {y : En} {A : Option Addr} {c : Nat} (hK : EnAt w g y A c)
    (h : wpList Try.prog ops Q rest (a.put o.dst (.agg (enV y A c).toArray)) w) : wpList Try.prog ops Q (o :: rest) a w :=
  wpList_load_part hgd 26 x ho g 0 hx (enV y A c) _ (fun j v hv => by rw [Nat.zero_add]; exact hK.cell hv) Try.underlying26 rfl (by rw [enV_len _ _ _ hK.tl]; exact info26) h
end
/-- a load of a whole row from any address -/
theorem wpList_load_at {P : Program} {ops : Array Oper} {rest : List Oper} {o : Oper} {a : Act} {w : World} {Q : Exit → Act → World → Prop} (hgd : o.guard = none) (ty : TypeId) (x : Operand) (ho : o.op = .load ty x) (ad : Addr) (hx : a.eval x = .pointer (some ad)) (vs : List Value) (d : TypeDesc)
    (hc : ∀ j v, vs[j]? = some v → w.cell? (ad.add j) = some v) (hu : P.underlying ty = some d) (hd : (match d with | .struct _ | .array _ _ => true | _ => false) = true)
    (hi : (P.info? ty).map (·.size) = some vs.length) (h : wpList P ops Q rest (a.put o.dst (.agg vs.toArray)) w) : wpList P ops Q (o :: rest) a w := by
  refine wpList_plain hgd fun K hK => ?_
  have hl : (loadVar ty ad).run P w = .ok (.agg vs.toArray) w := by
    have hl : (loadCells ad vs.length).run P w = .ok vs.toArray w := run_loadCells_list (P := P) w ad vs hc
    cases hq : P.info? ty with
    | none => simp [hq] at hi
    | some i =>
      have hs : i.size = vs.length := by simpa [hq] using hi
      have hagg : (isAgg ty).run P w = .ok true w := by
        unfold isAgg
        rw [Sem.run_bind, run_underlying hu w]
        cases d <;> simp_all
      simp [loadVar, Sem.run_bind, hagg, sizeOf, typeInfo, hq, hs, hl]
  unfold Oper.wp execOp
  simp only [ho, hx, Instr.loadAt, Instr.sureAddr, Sem.run_bind, Sem.run_pure, Result.andThen_ok, hl]
  exact hK _ _ h
/-- a parameter that is boxed -/
theorem wpList_box {P : Program} {ops : Array Oper} {rest : List Oper} {o : Oper} {a : Act} {w : World} {Q : Exit → Act → World → Prop} (hgd : o.guard = none) (ty : TypeId) (x : Operand) (ho : o.op = .box ty x) (cs : List Value) (hx : a.eval x = .agg cs.toArray)
    (h : ∀ w1 : World, w1.heap[w.heap.size]? = some (.cells cs.toArray ty (0, 0)) → Below w.heap.size w w1 → w1.heap.size = w.heap.size + 1 → wpList P ops Q rest (a.put o.dst (.pointer (some ⟨w.heap.size, 0, none⟩))) w1) : wpList P ops Q (o :: rest) a w := by
  refine wpList_plain hgd fun K hK => ?_
  have hb : (Instr.box ty (.agg cs.toArray)).run P w = .ok (.pointer (some ⟨w.heap.size, 0, none⟩)) (w.alloc (.cells cs.toArray ty)) := by
    simp [Instr.box, newVar, newRow, newObj, Value.cells, Sem.run]
  unfold Oper.wp execOp
  simp only [ho, hx, Sem.run_bind, Sem.run_pure, Result.andThen_ok, hb]
  exact hK _ _ (h _ (heap_alloc_new w _) (below_alloc (Below.refl _ _) _) (World.size_alloc _ _))
/-- a store of a whole row over a whole block -/
theorem setRow_heap {g t : Nat} (vs : List Value) : ∀ (i : Nat) (w : World) (C : List Value), w.heap[g]? = some (.cells C.toArray t (0, 0)) → i + vs.length ≤ C.length →
    (setRow w g 0 vs i).heap[g]? = some (.cells (C.take i ++ vs ++ C.drop (i + vs.length)).toArray t (0, 0)) := by
  induction vs with
  | nil => intro i w C h _; simpa [setRow] using h
  | cons v vs ih =>
    intro i w C h hle
    have h1 : (w.setCell ⟨g, 0 + i, none⟩ v).heap[g]? = some (.cells (C.set i v).toArray t (0, 0)) := by
      rw [Nat.zero_add]
      exact blk_put h i v (by simp)
    have h2 := ih (i + 1) _ _ h1 (by rw [List.length_set]; rw [List.length_cons] at hle; omega)
    show (setRow (w.setCell ⟨g, 0 + i, none⟩ v) g 0 vs (i + 1)).heap[g]? = _
    rw [h2, List.length_cons]
    rw [List.length_cons] at hle
    have e1 : (C.set i v).take (i + 1) = C.take i ++ [v] := by
      rw [List.take_succ_eq_append_getElem (by rw [List.length_set]; omega), List.getElem_set_self, List.take_set_of_le (Nat.le_refl _)]
    have e2 : (C.set i v).drop (i + 1 + vs.length) = C.drop (i + (vs.length + 1)) := by
      rw [List.drop_set_of_lt (by omega)]; congr 1; omega
    rw [e1, e2, List.append_assoc, List.append_assoc, List.append_assoc]; rfl
/-- a new variable, and a whole row stored into it -/
theorem wpList_new_row {P : Program} {ops : Array Oper} {rest : List Oper} {o o2 : Oper} {a : Act} {w : World} {Q : Exit → Act → World → Prop} (hgd : o.guard = none) (hgd2 : o2.guard = none) (ty : TypeId) (ho : o.op = .alloc ty) (z : Value) (hi : (P.info? ty).map (·.zero) = some (some z))
    (x y : Operand) (ho2 : o2.op = .store ty x y) (hx : (a.put o.dst (.pointer (some ⟨w.heap.size, 0, none⟩))).eval x = .pointer (some ⟨w.heap.size, 0, none⟩)) (vs : List Value) (hy : (a.put o.dst (.pointer (some ⟨w.heap.size, 0, none⟩))).eval y = .agg vs.toArray)
    (hs : (P.info? ty).map (·.size) = some vs.length) (hz : z.cells.size = vs.length) (h1 : ∀ v ∈ vs, v.oneCell' = true)
    (h : ∀ w1 : World, w1.heap[w.heap.size]? = some (.cells vs.toArray ty (0, 0)) → Below w.heap.size w w1 → w1.heap.size = w.heap.size + 1 → wpList P ops Q rest ((a.put o.dst (.pointer (some ⟨w.heap.size, 0, none⟩))).put o2.dst undef) w1) : wpList P ops Q (o :: o2 :: rest) a w := by
  refine wpList_alloc_zero hgd ty ho z hi ?_
  have hb0 : (w.alloc (.cells z.cells ty)).heap[w.heap.size]? = some (.cells z.cells ty (0, 0)) := heap_alloc_new w _
  refine wpList_store_row hgd2 ty x y ho2 w.heap.size 0 hx vs hy hs h1 (fun j hj => ?_) (fun j => blk_frozen hb0 j) ?_
  · rw [blk_cell hb0]
    exact ⟨_, Array.getElem?_eq_getElem (by omega)⟩
  · have hb1 := setRow_heap (g := w.heap.size) (t := ty) vs 0 _ z.cells.toList (by rw [Array.toArray_toList]; exact hb0) (by simp [hz])
    have hon := Only.setRow (g := w.heap.size) (off := 0) vs 0 _ (Only.refl w.heap.size (w.alloc (.cells z.cells ty)))
    refine h _ ?_ ((below_alloc (Below.refl _ _) _).trans (hon.below (Nat.le_refl _))) (by rw [hon.size, World.size_alloc])
    rw [hb1, List.take_zero, List.nil_append, Nat.zero_add, List.drop_eq_nil_of_le (by rw [Array.length_toList]; omega), List.append_nil]
/-! two ids compared -/
def zeros32 : List Int := [0, 0, 0, 0, 0, 0, 0, 0, 0, 0, 0, 0, 0, 0, 0, 0, 0, 0, 0, 0, 0, 0, 0, 0, 0, 0, 0, 0, 0, 0, 0, 0]
theorem run_part_u8 (w : World) (l : List Int) (j : Nat) (hj : j < l.length) : (part 5 (u8s l).toArray j).run Try.prog w = .ok (.int .u8 (l.getD j 0)) w := by
  have hagg : (isAgg 5).run Try.prog w = .ok false w := by
    unfold isAgg
    rw [Sem.run_bind, run_underlying Try.underlying5 w]
    rfl
  have hget : (u8s l).toArray[j]? = some (.int .u8 (l.getD j 0)) := by
    rw [List.getElem?_toArray]
    unfold u8s
    rw [List.getElem?_map, List.getElem?_eq_getElem hj, List.getD_eq_getElem?_getD, List.getElem?_eq_getElem hj]; rfl
  unfold part
  rw [Sem.run_bind, hagg]
  simp [hget]
theorem eqItems_u8 (w : World) (d : Nat) (l m : List Int) : ∀ is : List Nat, (∀ j ∈ is, j < l.length ∧ j < m.length) → (Op.eqItems (d + 1) 5 1 (u8s l).toArray (u8s m).toArray is).run Try.prog w = .ok (is.all fun j => l.getD j 0 == m.getD j 0) w := by
  intro is
  induction is with
  | nil => intro _; simp [Op.eqItems]
  | cons j is ih =>
    intro h
    have hj := run_part_u8 w l j (h j List.mem_cons_self).1
    have hm := run_part_u8 w m j (h j List.mem_cons_self).2
    have he := run_equalIn_int (P := Try.prog) (w := w) d 5 .u8 .u8 (l.getD j 0) (m.getD j 0) Try.underlying5
    have hi := ih (fun k hk => h k (List.mem_cons_of_mem _ hk))
    rw [List.all_cons]
    generalize l.getD j 0 = v at *
    generalize m.getD j 0 = u at *
    by_cases e : v = u
    · subst e
      simp [Op.eqItems, Sem.run_bind, hj, hm, he, hi]
    · have e1 : (v == u) = false := beq_eq_false_iff_ne.mpr e
      have e2 := he
      rw [e1] at e2 ⊢
      simp [Op.eqItems, Sem.run_bind, hj, hm, e2]
theorem all_getD {l m : List Int} {n : Nat} (hl : l.length = n) (hm : m.length = n) : ((List.range n).all fun j => l.getD j 0 == m.getD j 0) = decide (l = m) := by
  rw [Bool.eq_iff_iff, List.all_eq_true, decide_eq_true_iff]
  constructor
  · intro h
    apply List.ext_getElem (by omega)
    intro j h1 h2
    have := h j (List.mem_range.mpr (by omega))
    rw [beq_iff_eq, List.getD_eq_getElem?_getD, List.getD_eq_getElem?_getD, List.getElem?_eq_getElem h1, List.getElem?_eq_getElem h2] at this
    exact this
  · rintro rfl j _
    exact beq_self_eq_true _
theorem run_eqId (l m : List Int) (hl : l.length = 32) (hm : m.length = 32) (w : World) : (Op.equalIn 10000 23 (.agg (u8s l).toArray) (.agg (u8s m).toArray)).run Try.prog w = .ok (decide (l = m)) w := by
  obtain ⟨i0, hi0⟩ : ∃ i, Try.prog.info? 5 = some i := by
    have h : (Try.prog.info? 5).isSome = true := by kernel_rfl
    exact Option.isSome_iff_exists.mp h
  have h1 := run_equalIn_array (P := Try.prog) (w := w) 9999 (u8s l).toArray (u8s m).toArray Try.underlying23 hi0
  have hc : Try.prog.cellsOf 5 = 1 := by kernel_rfl
  rw [hc, eqItems_u8 w 9998 l m _ (fun j hj => by have := List.mem_range.mp hj; omega), all_getD hl hm] at h1
  exact h1
section
variable {ops : Array Oper} {rest : List Oper} {o : Oper} {a : Act} {w : World} {Q : Exit → Act → World → Prop}
theorem wpList_eqId (hgd : o.guard = none) (x y : Operand) (ho : o.op = .binOp .eql 23 x y 23) (l m : List Int) (hl : l.length = 32) (hm : m.length = 32) (hx : a.eval x = .agg (u8s l).toArray) (hy : a.eval y = .agg (u8s m).toArray) (b : Bool) (hb : (decide (l = m)) = b)
    (h : wpList Try.prog ops Q rest (a.put o.dst (.bool b)) w) : wpList Try.prog ops Q (o :: rest) a w := by
  refine wpList_plain hgd fun K hK => ?_
  have hg : (Try.prog.eqGuardType Try.prog.depth 23) = false := by kernel_rfl
  have h2 := run_eqId l m hl hm w
  subst hb
  unfold Oper.wp execOp
  simp only [ho, hx, hy, Sem.run_bind, eqGuard, binOp, Op.equal, Op.maxDepth]
  simp [Sem.run_bind, hg, h2]
  exact hK _ _ (by simpa using h)
theorem wpList_neId (hgd : o.guard = none) (x y : Operand) (ho : o.op = .binOp .neq 23 x y 23) (l m : List Int) (hl : l.length = 32) (hm : m.length = 32) (hx : a.eval x = .agg (u8s l).toArray) (hy : a.eval y = .agg (u8s m).toArray) (b : Bool) (hb : (!decide (l = m)) = b)
    (h : wpList Try.prog ops Q rest (a.put o.dst (.bool b)) w) : wpList Try.prog ops Q (o :: rest) a w := by
  refine wpList_plain hgd fun K hK => ?_
  have hg : (Try.prog.eqGuardType Try.prog.depth 23) = false := by kernel_rfl
  have h2 := run_eqId l m hl hm w
  subst hb
  unfold Oper.wp execOp
  simp only [ho, hx, hy, Sem.run_bind, eqGuard, binOp, Op.equal, Op.maxDepth]
  simp [Sem.run_bind, hg, h2]
  exact hK _ _ (by simpa using h)
end
end Go.Proofs.Ytphpinfingaffaa.Law
