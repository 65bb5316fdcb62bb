/- Loads and stores of whole rows of cells in the middle of a block; what a store into one block leaves as it was. Over any program. -/
import Derived.Laws.Rows
import Derived.Laws.Cells
import Derived.Below
import Derived.OwnWalk
import Derived.Deep.Draws
namespace Go.Proofs.YthpgbhpnlnpfnaaDoor
open Go Go.RowKit
section
variable {P : Program}
def setRow (w : World) (g off : Nat) : List Value → Nat → World
  | [], _ => w
  | v :: vs, i => setRow (w.setCell ⟨g, off + i, none⟩ v) g off vs (i + 1)
theorem addr_add (g off i : Nat) : (⟨g, off, none⟩ : Addr).add i = ⟨g, off + i, none⟩ := by unfold Addr.add; split <;> simp_all
theorem run_storeCells_row (g off : Nat) (vs : List Value) : ∀ (i : Nat) (w : World), (∀ v ∈ vs, v.oneCell' = true) → (∀ j, j < vs.length → ∃ u, w.cell? ⟨g, off + (i + j), none⟩ = some u) →
    (∀ j, w.frozen? ⟨g, j, none⟩ = false) → (storeCells ⟨g, off, none⟩ vs i).run P w = .ok () (setRow w g off vs i) := by
  induction vs with
  | nil => intro i w _ _ _; rfl
  | cons v vs ih =>
    intro i w h1 h2 h3
    obtain ⟨u, hu⟩ := h2 0 (by simp)
    rw [Nat.add_zero] at hu
    have hs : (store (⟨g, off + i, none⟩ : Addr) v .plain).run P w = .ok () (w.setCell ⟨g, off + i, none⟩ v) := by
      rw [run_store P w _ v .plain (h1 v (by simp)), hu]
      simp [h3]
    show (store ((⟨g, off, none⟩ : Addr).add i) v >>= fun _ => storeCells ⟨g, off, none⟩ vs (i + 1)).run P w = _
    rw [addr_add, Sem.run_bind, hs]
    show (storeCells ⟨g, off, none⟩ vs (i + 1)).run P (w.setCell ⟨g, off + i, none⟩ v) = _
    refine ih (i + 1) _ (fun x hx => h1 x (by simp [hx])) (fun j hj => ?_) (fun j => by rw [World.frozen?_setCell]; exact h3 j)
    obtain ⟨u', hu'⟩ := h2 (j + 1) (by simp; omega)
    exact ⟨_, (World.cell?_setCell_other _ _ _ _ (by intro z; injection z with z1 z2; omega)).trans ((congrArg (fun k => w.cell? ⟨g, off + k, none⟩) (by omega)).trans hu')⟩
variable {ops : Array Oper} {rest : List Oper} {o : Oper} {a : Act} {w : World} {Q : Exit → Act → World → Prop}
/-- a store of a whole row into the middle of a block -/
theorem wpList_store_row (hgd : o.guard = none) (ty : TypeId) (x y : Operand) (ho : o.op = .store ty x y) (g off : Nat) (hx : a.eval x = .pointer (some ⟨g, off, none⟩)) (vs : List Value)
    (hy : a.eval y = .agg vs.toArray) (hi : (P.info? ty).map (·.size) = some vs.length) (h1 : ∀ v ∈ vs, v.oneCell' = true) (h2 : ∀ j, j < vs.length → ∃ u, w.cell? ⟨g, off + j, none⟩ = some u)
    (h3 : ∀ j, w.frozen? ⟨g, j, none⟩ = false) (h : wpList P ops Q rest (a.put o.dst undef) (setRow w g off vs 0)) : wpList P ops Q (o :: rest) a w := by
  refine wpList_plain hgd fun K hK => ?_
  have hs : (storeVar ty ⟨g, off, none⟩ (.agg vs.toArray)).run P w = .ok () (setRow w g off vs 0) := by
    cases hq : P.info? ty with
    | none => simp [hq] at hi
    | some i =>
      have hsz : i.size = vs.length := by simpa [hq] using hi
      have hr := run_storeCells_row (P := P) g off vs 0 w h1 (fun j hj => by rw [Nat.zero_add]; exact h2 j hj) h3
      simp [storeVar, sizeOf, typeInfo, hq, hsz, Value.cells, hr]
  unfold Oper.wp execOp
  simp only [ho, hx, hy, Instr.storeAt, Instr.sureAddr, Sem.run_bind, Sem.run_pure, Result.andThen_ok, hs]
  exact hK _ _ h
/-- a load of a whole row out of the middle of a block -/
theorem wpList_load_part (hgd : o.guard = none) (ty : TypeId) (x : Operand) (ho : o.op = .load ty x) (g off : Nat) (hx : a.eval x = .pointer (some ⟨g, off, none⟩)) (vs : List Value) (d : TypeDesc)
    (hc : ∀ j v, vs[j]? = some v → w.cell? ⟨g, off + j, none⟩ = some v) (hu : P.underlying ty = some d) (hd : (match d with | .struct _ | .array _ _ => true | _ => false) = true)
    (hi : (P.info? ty).map (·.size) = some vs.length) (h : wpList P ops Q rest (a.put o.dst (.agg vs.toArray)) w) : wpList P ops Q (o :: rest) a w := by
  refine wpList_plain hgd fun K hK => ?_
  have hl : (loadVar ty ⟨g, off, none⟩).run P w = .ok (.agg vs.toArray) w := by
    have hl : (loadCells ⟨g, off, none⟩ vs.length).run P w = .ok vs.toArray w :=
      run_loadCells_list (P := P) w ⟨g, off, none⟩ vs (fun j v hv => by rw [addr_add]; exact hc j v hv)
    cases hq : P.info? ty with
    | none => simp [hq] at hi
    | some i =>
      have hs : i.size = vs.length := by simpa [hq] using hi
      have hagg : (isAgg ty).run P w = .ok true w := by
        unfold isAgg
        rw [Sem.run_bind, run_underlying hu w]
        cases d <;> simp_all
      simp [loadVar, Sem.run_bind, hagg, sizeOf, typeInfo, hq, hs, hl]
  unfold Oper.wp execOp
  simp only [ho, hx, Instr.loadAt, Instr.sureAddr, Sem.run_bind, Sem.run_pure, Result.andThen_ok, hl]
  exact hK _ _ h
/-- a new variable of zero -/
theorem wpList_alloc_zero (hgd : o.guard = none) (ty : TypeId) (ho : o.op = .alloc ty) (z : Value) (hi : (P.info? ty).map (·.zero) = some (some z))
    (h : wpList P ops Q rest (a.put o.dst (.pointer (some ⟨w.heap.size, 0, none⟩))) (w.alloc (.cells z.cells ty))) : wpList P ops Q (o :: rest) a w := by
  refine wpList_plain hgd fun K hK => ?_
  unfold Oper.wp execOp
  cases hq : P.info? ty with
  | none => simp [hq] at hi
  | some i =>
    have hz : i.zero = some z := by simpa [hq] using hi
    have hr : (Instr.alloc ty true (.tuple #[])).run P w = .ok (.pointer (some ⟨w.heap.size, 0, none⟩)) (w.alloc (.cells z.cells ty)) := by
      simp [Instr.alloc, zeroValue, typeInfo, hq, hz, newVar, newRow, newObj, Sem.run]
    simp only [ho, Sem.run_bind, hr, Result.andThen_ok, Sem.run_pure]
    exact hK _ _ h
end
/-! what is read of a block -/
structure Blk (w : World) (g n : Nat) (C : Nat → Value) : Prop where
  cell : ∀ i, i < n → w.cell? ⟨g, i, none⟩ = some (C i)
  fz : ∀ i, w.frozen? ⟨g, i, none⟩ = false
def upd (C : Nat → Value) (o : Nat) (x : Value) : Nat → Value := fun i => if i = o then x else C i
theorem upd_ne (C : Nat → Value) (x : Value) {o i : Nat} (h : i ≠ o) : upd C o x i = C i := by unfold upd; rw [if_neg h]
theorem upd_eq (C : Nat → Value) (x : Value) (o : Nat) : upd C o x o = x := by unfold upd; rw [if_pos rfl]
theorem Blk.set {w : World} {g n : Nat} {C : Nat → Value} (h : Blk w g n C) {o : Nat} (ho : o < n) (x : Value) : Blk (w.setCell ⟨g, o, none⟩ x) g n (upd C o x) := by
  refine ⟨fun i hi => ?_, fun i => by rw [World.frozen?_setCell]; exact h.fz i⟩
  unfold upd
  by_cases e : i = o
  · subst e; rw [if_pos rfl]; exact World.cell?_setCell_same _ _ _ (h.cell i hi)
  · rw [if_neg e, World.cell?_setCell_other _ _ _ _ (by intro z; injection z with z1 z2; exact e z2.symm)]; exact h.cell i hi
theorem Blk.new (w : World) (cs : List Value) (t : TypeId) : Blk (w.alloc (.cells cs.toArray t)) w.heap.size cs.length (fun i => cs.getD i undef) := by
  have hb : (w.alloc (.cells cs.toArray t)).heap[w.heap.size]? = some (.cells cs.toArray t) := by
    show (w.heap.push _)[w.heap.size]? = _
    rw [Array.getElem?_push, if_pos rfl]
  refine ⟨fun i hi => ?_, fun i => ?_⟩
  · simp only [World.cell?, hb]
    rw [List.getD_eq_getElem?_getD, List.getElem?_eq_getElem hi]
    simp [hi]
  · simp only [World.frozen?, hb]
    simp
theorem Blk.drewN {w : World} {g n : Nat} {C : Nat → Value} (h : Blk w g n C) (k : Nat) : Blk (w.drewN k) g n C := ⟨h.cell, h.fz⟩
theorem Blk.congr {w : World} {g n : Nat} {C C' : Nat → Value} (h : Blk w g n C) (e : ∀ i, i < n → C' i = C i) : Blk w g n C' := ⟨fun i hi => by rw [e i hi]; exact h.cell i hi, h.fz⟩
def updRow (C : Nat → Value) (off : Nat) (vs : List Value) (i : Nat) : Nat → Value := fun j => if off + i ≤ j ∧ j < off + i + vs.length then vs.getD (j - (off + i)) undef else C j
theorem Blk.setRow {g n off : Nat} (vs : List Value) : ∀ (i : Nat) (w : World) (C : Nat → Value), Blk w g n C → off + i + vs.length ≤ n → Blk (setRow w g off vs i) g n (updRow C off vs i) := by
  induction vs with
  | nil => intro i w C h _; exact h.congr fun j _ => by unfold updRow; rw [if_neg (by simp)]
  | cons v vs ih =>
    intro i w C h hle
    refine (ih (i + 1) _ _ (h.set (o := off + i) (by simp at hle; omega) v) (by simp at hle ⊢; omega)).congr fun j _ => ?_
    unfold updRow upd
    by_cases e : j = off + i
    · subst e
      rw [if_pos (by simp), if_neg (by omega), if_pos rfl, Nat.sub_self]; rfl
    · by_cases h1 : off + (i + 1) ≤ j ∧ j < off + (i + 1) + vs.length
      · rw [if_pos (by simp; omega), if_pos h1, show j - (off + i) = (j - (off + (i + 1))) + 1 by omega]; rfl
      · rw [if_neg (by simp; omega), if_neg h1, if_neg e]
/-- between w and w' nothing has turned but block g -/
structure Only (g : Nat) (w w' : World) : Prop where
  os : w'.os = w.os
  tape : w'.tape = w.tape
  output : w'.output = w.output
  size : w'.heap.size = w.heap.size
  block : ∀ k, k ≠ g → w'.heap[k]? = w.heap[k]?
theorem Only.refl (g : Nat) (w : World) : Only g w w := ⟨rfl, rfl, rfl, rfl, fun _ _ => rfl⟩
theorem Only.trans {g : Nat} {a b c : World} (h : Only g a b) (k : Only g b c) : Only g a c :=
  ⟨k.os.trans h.os, k.tape.trans h.tape, k.output.trans h.output, k.size.trans h.size, fun i hi => (k.block i hi).trans (h.block i hi)⟩
theorem Only.drewN {g : Nat} {a w : World} (h : Only g a w) (k : Nat) : Only g a (w.drewN k) := h.trans ⟨rfl, rfl, rfl, rfl, fun _ _ => rfl⟩
theorem Only.set {g : Nat} {a w : World} (h : Only g a w) (o : Nat) (x : Value) : Only g a (w.setCell ⟨g, o, none⟩ x) :=
  h.trans ⟨rfl, rfl, rfl, World.size_setCell _ _ _, fun k hk => Below.heap_setCell _ _ _ _ (by simpa using hk)⟩
theorem Only.setRow {g off : Nat} {a : World} (vs : List Value) : ∀ (i : Nat) (w : World), Only g a w → Only g a (setRow w g off vs i) := by
  induction vs with
  | nil => intro i w h; exact h
  | cons v vs ih => intro i w h; exact ih (i + 1) _ (h.set _ v)
theorem Only.below {g B : Nat} {w w' : World} (h : Only g w w') (hB : B ≤ g) : Below B w w' :=
  ⟨h.os, h.tape, h.output, by rw [h.size]; exact Nat.le_refl _, fun k hk => h.block k (by omega)⟩
theorem Only.blk {g g' n : Nat} {w w' : World} {C : Nat → Value} (h : Only g w w') (hb : Blk w g' n C) (hg : g' ≠ g) : Blk w' g' n C :=
  ⟨fun i hi => (World.cell?_of_block (w := w) (h.block g' hg)).trans (hb.cell i hi), fun i => (World.frozen?_of_block (w := w) (h.block g' hg)).trans (hb.fz i)⟩
theorem Blk.below {g n B : Nat} {w w' : World} {C : Nat → Value} (hb : Blk w g n C) (h : Below B w w') (hg : g < B) : Blk w' g n C :=
  ⟨fun i hi => (h.cell (p := ⟨g, i, none⟩) hg).trans (hb.cell i hi), fun i => (h.frozen (p := ⟨g, i, none⟩) hg).trans (hb.fz i)⟩
end Go.Proofs.YthpgbhpnlnpfnaaDoor
