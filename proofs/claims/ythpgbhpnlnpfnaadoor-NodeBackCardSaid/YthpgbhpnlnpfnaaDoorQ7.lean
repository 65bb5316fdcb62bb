/- Loads and stores of whole rows of cells in the middle of a block; what a store into one block leaves as it was. Over any program. -/
import Derived.Laws.Rows
import Derived.Laws.Cells
import Derived.Below
import Derived.OwnWalk
import Derived.Deep.Draws
import Derived.Test.YthpgbhpnlnpfnaaDoorQ6
import Derived.Test.YthpgbhpnlnpfnaaDoorQ4

namespace Go.Proofs.YthpgbhpnlnpfnaaDoor
open Go Go.RowKit
section
variable {P : Program}
def setRow (w : World) (g off : Nat) : List Value → Nat → World
  | [], _ => w
  | v :: vs, i => setRow (w.setCell ⟨g, off + i, none⟩ v) g off vs (i + 1)
theorem addr_add (g off i : Nat) : (⟨g, off, none⟩ : Addr).add i = ⟨g, off + i, none⟩ := by unfold Addr.add; split <;> simp_all
theorem run_storeCells_row (g off : Nat) (vs : List Value) : ∀ (i : Nat) (w : World), (∀ v ∈ vs, v.oneCell' = true) → (∀ j, j < vs.length → ∃ u, w.cell? ⟨g, off + (i + j), none⟩ = some u) →
    (∀ j, w.frozen? ⟨g, j, none⟩ = false) → (storeCells ⟨g, off, none⟩ vs i).run P w = .ok () (setRow w g off vs i) := by
  induction vs with
  | nil => intro i w _ _ _; rfl
  | cons v vs ih =>
    intro i w h1 h2 h3
    obtain ⟨u, hu⟩ := h2 0 (by simp)
    rw [Nat.add_zero] at hu
    have hs : (store (⟨g, off + i, none⟩ : Addr) v .plain).run P w = .ok () (w.setCell ⟨g, off + i, none⟩ v) := by
      rw [run_store P w _ v .plain (h1 v (by simp)), hu]
      simp [h3]
    show (store ((⟨g, off, none⟩ : Addr).add i) v >>= fun _ => storeCells ⟨g, off, none⟩ vs (i + 1)).run P w = _
    rw [addr_add, Sem.run_bind, hs]
    show (storeCells ⟨g, off, none⟩ vs (i + 1)).run P (w.setCell ⟨g, off + i, none⟩ v) = _
    refine ih (i + 1) _ (fun x hx => h1 x (by simp [hx])) (fun j hj => ?_) (fun j => by rw [World.frozen?_setCell]; exact h3 j)
    obtain ⟨u', hu'⟩ := h2 (j + 1) (by simp; omega)
    exact ⟨_, (World.cell?_setCell_other _ _ _ _ (by intro z; injection z with z1 z2; omega)).trans ((congrArg (fun k => w.cell? ⟨g, off + k, none⟩) (by omega)).trans hu')⟩
variable {ops : Array Oper} {rest : List Oper} {o : Oper} {a : Act} {w : World} {Q : Exit → Act → World → Prop}
/-- a store of a whole row into the middle of a block -/
theorem wpList_store_row (hgd : o.guard = none) (ty : TypeId) (x y : Operand) (ho : o.op = .store ty x y) (g off : Nat) (hx : a.eval x = .pointer (some ⟨g, off, none⟩)) (vs : List Value)
    (hy : a.eval y = .agg vs.toArray) (hi : (P.info? ty).map (·.size) = some vs.length) (h1 : ∀ v ∈ vs, v.oneCell' = true) (h2 : ∀ j, j < vs.length → ∃ u, w.cell? ⟨g, off + j, none⟩ = some u)
    (h3 : ∀ j, w.frozen? ⟨g, j, none⟩ = false) (h : wpList P ops Q rest (a.put o.dst undef) (setRow w g off vs 0)) : wpList P ops Q (o :: rest) a w := by
  refine wpList_plain hgd fun K hK => ?_
  have hs : (storeVar ty ⟨g, off, none⟩ (.agg vs.toArray)).run P w = .ok () (setRow w g off vs 0) := by
    cases hq : P.info? ty with
    | none => simp [hq] at hi
    | some i =>
      have hsz : i.size = vs.length := by simpa [hq] using hi
      have hr := run_storeCells_row (P := P) g off vs 0 w h1 (fun j hj => by rw [Nat.zero_add]; exact h2 j hj) h3
      simp [storeVar, sizeOf, typeInfo, hq, hsz, Value.cells, hr]
  unfold Oper.wp execOp
  simp only [ho, hx, hy, Instr.storeAt, Instr.sureAddr, Sem.run_bind, Sem.run_pure, Result.andThen_ok, hs]
  exact hK _ _ h
/-- a load of a whole row out of the middle of a block -/
theorem wpList_load_part (hgd : o.guard = none) (ty : TypeId) (x : Operand) (ho : o.op = .load ty x) (g off : Nat) (hx : a.eval x = .pointer (some ⟨g, off, none⟩)) (vs : List Value) (d : TypeDesc)
    (hc : ∀ j v, vs[j]? = some v → w.cell? ⟨g, off + j, none⟩ = some v) (hu : P.underlying ty = some d) (hd : (match d with | .struct _ | .array _ _ => true | _ => false) = true)
    (hi : (P.info? ty).map (·.size) = some vs.length) (h : wpList P ops Q rest (a.put o.dst (.agg vs.toArray)) w) : wpList P ops Q (o :: rest) a w := by
  refine wpList_plain hgd fun K hK => ?_
  have hl : (loadVar ty ⟨g, off, none⟩).run P w = .ok (.agg vs.toArray) w := by
    have hl : (loadCells ⟨g, off, none⟩ vs.length).run P w = .ok vs.toArray w :=
      run_loadCells_list (P := P) w ⟨g, off, none⟩ vs (fun j v hv => by rw [addr_add]; exact hc j v hv)
    cases hq : P.info? ty with
    | none => simp [hq] at hi
    | some i =>
      have hs : i.size = vs.length := by simpa [hq] using hi
      have hagg : (isAgg ty).run P w = .ok true w := by
        unfold isAgg
        rw [Sem.run_bind, run_underlying hu w]
        cases d <;> simp_all
      simp [loadVar, Sem.run_bind, hagg, sizeOf, typeInfo, hq, hs, hl]
  unfold Oper.wp execOp
  simp only [ho, hx, Instr.loadAt, Instr.sureAddr, Sem.run_bind, Sem.run_pure, Result.andThen_ok, hl]
  exact hK _ _ h
/-- a new variable of zero -/
theorem wpList_alloc_zero (hgd : o.guard = none) (ty : TypeId) (ho : o.op = .alloc ty) (z : Value) (hi : (P.info? ty).map (·.zero) = some (some z))
    (h : wpList P ops Q rest (a.put o.dst (.pointer (some ⟨w.heap.size, 0, none⟩))) (w.alloc (.cells z.cells ty))) : wpList P ops Q (o :: rest) a w := by
  refine wpList_plain hgd fun K hK => ?_
  unfold Oper.wp execOp
  cases hq : P.info? ty with
  | none => simp [hq] at hi
  | some i =>
    have hz : i.zero = some z := by simpa [hq] using hi
    have hr : (Instr.alloc ty true (.tuple #[])).run P w = .ok (.pointer (some ⟨w.heap.size, 0, none⟩)) (w.alloc (.cells z.cells ty)) := by
      simp [Instr.alloc, zeroValue, typeInfo, hq, hz, newVar, newRow, newObj, Sem.run]
    simp only [ho, Sem.run_bind, hr, Result.andThen_ok, Sem.run_pure]
    exact hK _ _ h
end
/-! what is read of a block -/
structure Blk (w : World) (g n : Nat) (C : Nat → Value) : Prop where
  cell : ∀ i, i < n → w.cell? ⟨g, i, none⟩ = some (C i)
  fz : ∀ i, w.frozen? ⟨g, i, none⟩ = false
def upd (C : Nat → Value) (o : Nat) (x : Value) : Nat → Value := fun i => if i = o then x else C i
theorem Blk.set {w : World} {g n : Nat} {C : Nat → Value} (h : Blk w g n C) {o : Nat} (ho : o < n) (x : Value) : Blk (w.setCell ⟨g, o, none⟩ x) g n (upd C o x) := by
  refine ⟨fun i hi => ?_, fun i => by rw [World.frozen?_setCell]; exact h.fz i⟩
  unfold upd
  by_cases e : i = o
  · subst e; rw [if_pos rfl]; exact World.cell?_setCell_same _ _ _ (h.cell i hi)
  · rw [if_neg e, World.cell?_setCell_other _ _ _ _ (by intro z; injection z with z1 z2; exact e z2.symm)]; exact h.cell i hi
theorem Blk.new (w : World) (cs : List Value) (t : TypeId) : Blk (w.alloc (.cells cs.toArray t)) w.heap.size cs.length (fun i => cs.getD i undef) := by
  have hb : (w.alloc (.cells cs.toArray t)).heap[w.heap.size]? = some (.cells cs.toArray t) := by
    show (w.heap.push _)[w.heap.size]? = _
    rw [Array.getElem?_push, if_pos rfl]
  refine ⟨fun i hi => ?_, fun i => ?_⟩
  · simp only [World.cell?, hb]
    rw [List.getD_eq_getElem?_getD, List.getElem?_eq_getElem hi]
    simp [hi]
  · simp only [World.frozen?, hb]
    simp
theorem Blk.congr {w : World} {g n : Nat} {C C' : Nat → Value} (h : Blk w g n C) (e : ∀ i, i < n → C' i = C i) : Blk w g n C' := ⟨fun i hi => by rw [e i hi]; exact h.cell i hi, h.fz⟩
def updRow (C : Nat → Value) (off : Nat) (vs : List Value) (i : Nat) : Nat → Value := fun j => if off + i ≤ j ∧ j < off + i + vs.length then vs.getD (j - (off + i)) undef else C j
theorem Blk.setRow {g n off : Nat} (vs : List Value) : ∀ (i : Nat) (w : World) (C : Nat → Value), Blk w g n C → off + i + vs.length ≤ n → Blk (setRow w g off vs i) g n (updRow C off vs i) := by
  induction vs with
  | nil => intro i w C h _; exact h.congr fun j _ => by unfold updRow; rw [if_neg (by simp)]
  | cons v vs ih =>
    intro i w C h hle
    refine (ih (i + 1) _ _ (h.set (o := off + i) (by simp at hle; omega) v) (by simp at hle ⊢; omega)).congr fun j _ => ?_
    unfold updRow upd
    by_cases e : j = off + i
    · subst e
      rw [if_pos (by simp), if_neg (by omega), if_pos rfl, Nat.sub_self]; rfl
    · by_cases h1 : off + (i + 1) ≤ j ∧ j < off + (i + 1) + vs.length
      · rw [if_pos (by simp; omega), if_pos h1, show j - (off + i) = (j - (off + (i + 1))) + 1 by omega]; rfl
      · rw [if_neg (by simp; omega), if_neg h1, if_neg e]
/-- between w and w' nothing has turned but block g -/
structure Only (g : Nat) (w w' : World) : Prop where
  os : w'.os = w.os
  tape : w'.tape = w.tape
  output : w'.output = w.output
  size : w'.heap.size = w.heap.size
  block : ∀ k, k ≠ g → w'.heap[k]? = w.heap[k]?
theorem Only.refl (g : Nat) (w : World) : Only g w w := ⟨rfl, rfl, rfl, rfl, fun _ _ => rfl⟩
theorem Only.trans {g : Nat} {a b c : World} (h : Only g a b) (k : Only g b c) : Only g a c :=
  ⟨k.os.trans h.os, k.tape.trans h.tape, k.output.trans h.output, k.size.trans h.size, fun i hi => (k.block i hi).trans (h.block i hi)⟩
theorem Only.set {g : Nat} {a w : World} (h : Only g a w) (o : Nat) (x : Value) : Only g a (w.setCell ⟨g, o, none⟩ x) :=
  h.trans ⟨rfl, rfl, rfl, World.size_setCell _ _ _, fun k hk => Below.heap_setCell _ _ _ _ (by simpa using hk)⟩
theorem Only.setRow {g off : Nat} {a : World} (vs : List Value) : ∀ (i : Nat) (w : World), Only g a w → Only g a (setRow w g off vs i) := by
  induction vs with
  | nil => intro i w h; exact h
  | cons v vs ih => intro i w h; exact ih (i + 1) _ (h.set _ v)
theorem Only.below {g B : Nat} {w w' : World} (h : Only g w w') (hB : B ≤ g) : Below B w w' :=
  ⟨h.os, h.tape, h.output, by rw [h.size]; exact Nat.le_refl _, fun k hk => h.block k (by omega)⟩
theorem Only.blk {g g' n : Nat} {w w' : World} {C : Nat → Value} (h : Only g w w') (hb : Blk w g' n C) (hg : g' ≠ g) : Blk w' g' n C :=
  ⟨fun i hi => (World.cell?_of_block (w := w) (h.block g' hg)).trans (hb.cell i hi), fun i => (World.frozen?_of_block (w := w) (h.block g' hg)).trans (hb.fz i)⟩
theorem Blk.below {g n B : Nat} {w w' : World} {C : Nat → Value} (hb : Blk w g n C) (h : Below B w w') (hg : g < B) : Blk w' g n C :=
  ⟨fun i hi => (h.cell (p := ⟨g, i, none⟩) hg).trans (hb.cell i hi), fun i => (h.frozen (p := ⟨g, i, none⟩) hg).trans (hb.fz i)⟩
end Go.Proofs.YthpgbhpnlnpfnaaDoor

namespace Go.Proofs.YthpgbhpnlnpfnaaDoor.Law
open Go.RowKit Go.Proofs.YthpgbhpnlnpfnaaDoor Go.Proofs.YthpgbhpnlnpfnaaDoorW.PrintWords Go.Proofs.YthpgbhpnlnpfnaaDoorW.PrintLast Go.Proofs.YthpgbhpnlnpfnaaDoorW.PrintMore Go.Proofs.YthpgbhpnlnpfnaaDoor.E
set_option linter.unusedSimpArgs false
/-- a number's bytes, the highest first -/
def dg : Nat → List Int
  | 0 => []
  | n + 1 => dg ((n + 1) / 256) ++ [((n + 1 : Nat) : Int) % 256]
decreasing_by omega
theorem dg_pos {n : Nat} (h : 0 < n) : dg n = dg (n / 256) ++ [(n : Int) % 256] := by
  cases n with
  | zero => omega
  | succ n => rw [dg]
theorem dg_zero : dg 0 = [] := by rw [dg]
theorem dg_len (k : Nat) : ∀ n : Nat, n < 256 ^ k → (dg n).length ≤ k := by
  induction k with
  | zero => intro n h; obtain rfl : n = 0 := by simpa using h
            rw [dg_zero]; exact Nat.le_refl _
  | succ k ih =>
    intro n h
    rcases Nat.eq_zero_or_pos n with rfl | hp
    · rw [dg_zero]; exact Nat.zero_le _
    · rw [dg_pos hp, List.length_append]
      have : n / 256 < 256 ^ k := Nat.div_lt_of_lt_mul (by rw [Nat.mul_comm, ← Nat.pow_succ]; exact h)
      have := ih _ this
      simp; omega
/-- a scope whose jumps all go to one label, with a count that falls at each jump -/
theorem wp_scope_count {P : Program} {a : Act} {w : World} {Q : Exit → Act → World → Prop} {c rest : Code} (l : Nat) (J : Nat → Act → World → Prop)
    (hf : findLabel c l = some rest) (first : Code.wp P c (Exit.jump l (fun a w => ∃ n, J n a w) Q) a w)
    (pass : ∀ n a w, J n a w → Code.wp P rest (Exit.jump l (fun a' w' => ∃ n', n' < n ∧ J n' a' w') Q) a w) : Code.wp P c.scope Q a w := by
  have least : ∀ a w, (∃ n, J n a w) → ∃ n, J n a w ∧ ∀ n', J n' a w → n ≤ n' := by
    rintro a w ⟨n, hn⟩
    induction n using Nat.strongRecOn with
    | ind n ih =>
      by_cases h : ∃ n', n' < n ∧ J n' a w
      · obtain ⟨n', h1, h2⟩ := h; exact ih n' h1 h2
      · exact ⟨n, hn, fun n' h' => Nat.le_of_not_lt fun h1 => h ⟨n', h1, h'⟩⟩
  refine wp_scope_jumps l (fun a w => ∃ n, J n a w) (fun a w => Classical.epsilon fun n => J n a w ∧ ∀ n', J n' a w → n ≤ n') hf first ?_
  intro a w hJ
  have hs := Classical.epsilon_spec (least a w hJ)
  generalize (Classical.epsilon fun n => J n a w ∧ ∀ n', J n' a w → n ≤ n') = m at hs ⊢
  refine wp_mono (pass m a w hs.1) ?_
  intro e a' w' hq
  cases e with
  | goto l' =>
    obtain ⟨h1, n', h2, h3⟩ := hq
    refine ⟨h1, ⟨n', h3⟩, ?_⟩
    have hs' := Classical.epsilon_spec (least a' w' ⟨n', h3⟩)
    exact Nat.lt_of_le_of_lt (hs'.2 n' h3) h2
  | normal => exact hq
  | exit => exact hq
  | ret => exact hq
  | panic => exact hq
  | outgrown => exact hq
def lowC (L : List Int) (i : Nat) : Value := .int .u8 (L.getD i 0)
theorem lowC_snoc (L : List Int) (x : Int) (i : Nat) : lowC (L ++ [x]) i = upd (lowC L) L.length (.int .u8 x) i := by
  unfold upd lowC
  by_cases h : i = L.length
  · rw [if_pos h, h, List.getD_eq_getElem?_getD, List.getElem?_append_right (Nat.le_refl _), Nat.sub_self]; rfl
  · rw [if_neg h, List.getD_eq_getElem?_getD, List.getD_eq_getElem?_getD]
    rcases Nat.lt_or_ge i L.length with h1 | h1
    · rw [List.getElem?_append_left h1]
    · rw [List.getElem?_eq_none h1, List.getElem?_eq_none (by simp; omega)]
def NumJ (A : Option Addr) (c : Nat) (l : List Int) (w : World) (m n : Nat) (a' : Act) (w' : World) : Prop :=
  ∃ (L : List Int) (u2 u3 u7 u8 u9 u10 u11 u12 u13 u14 u15 u16 u17 u18 u19 u20 u21 u22 u23 u24 u25 u26 u27 u28 u29 u30 u31 u32 u33 u34 u35 u36 u37 u38 u39 u40 u41 : Value), a' = { tmps := #[.slice A l.length c, .int .i64 (n : Int), u2, u3, .slice none 0 0, .pointer (some ⟨w.heap.size, 0, none⟩), .int .i64 (L.length : Int), u7, u8, u9, u10, u11, u12, u13, u14, u15, u16, u17, u18, u19, u20, u21, u22, u23, u24, u25, u26, u27, u28, u29, u30, u31, u32, u33, u34, u35, u36, u37, u38, u39, u40, u41], defers := [] } ∧ dg n ++ L.reverse = dg m ∧ Bytes L ∧ Blk w' w.heap.size 8 (lowC L) ∧ Below w.heap.size w w'
theorem max2_mx (k k' : IntKind) (x y : Int) : Builtin.max2 (.int k x) (.int k' y) = pure (.int k (max x y)) := by rw [max2_int]; congr 2; omega
theorem min2_mx (k k' : IntKind) (x y : Int) : Builtin.min2 (.int k x) (.int k' y) = pure (.int k (min x y)) := by rw [min2_int]; congr 2; omega
section
attribute [local go_sem] max2_mx min2_mx
set_option maxHeartbeats 2000000 in
set_option maxRecDepth 100000 in
theorem number_0 (A : Option Addr) (c : Nat) (l : List Int) (n : Int) (m : Nat) (w : World) (hr : Kd.C (Kd.int .u8) w A l.length l) (hm : min (max n 0) 9007199254740992 = (m : Int)) (hlm : l.length < 140737488355000) :
    Calls Tryd.prog 46 #[.slice A l.length c, .int .i64 n] w fun x w' => ∃ V, x = .returned V ∧ Kd.R (Kd.int .u8) 5 w' w.heap.size (fun _ => True) V (l ++ (((dg m).length : Int) :: dg m)) ∧ Below w.heap.size w w' := by
  have HR := Aside0.mk hr
  have h7 : (256 : Nat) ^ 7 = 72057594037927936 := by decide
  have hm7 : m < 256 ^ 7 := by omega
  have hd7 := dg_len 7 m hm7
  clear hr hm7 h7
  go_enter Tryd.func46, Tryd.ntmps46
  go_wp2_with fail
  refine wp_scope_count 0 (NumJ A c l w m) rfl ?_ ?_
  · rcases (show n < 0 ∨ n = 0 ∨ (0 < n ∧ 9007199254740992 < n) ∨ (0 < n ∧ n ≤ 9007199254740992) by omega) with h | rfl | ⟨h0, h⟩ | ⟨h0, h⟩
    · obtain rfl : m = 0 := by omega
      go_wp2
      go_step3
      have hq0 := Blk.new w [.int .u8 0, .int .u8 0, .int .u8 0, .int .u8 0, .int .u8 0, .int .u8 0, .int .u8 0, .int .u8 0] 101
      have hq1 : Blk (w.alloc (.cells #[.int .u8 0, .int .u8 0, .int .u8 0, .int .u8 0, .int .u8 0, .int .u8 0, .int .u8 0, .int .u8 0] 101)) w.heap.size 8 (lowC []) := hq0.congr fun i hi => by
        have h8 : i < 8 := hi
        have : i = 0 ∨ i = 1 ∨ i = 2 ∨ i = 3 ∨ i = 4 ∨ i = 5 ∨ i = 6 ∨ i = 7 := by omega
        rcases this with rfl | rfl | rfl | rfl | rfl | rfl | rfl | rfl <;> rfl
      have HQ := Aside0.mk hq1
      have HW := Aside0.mk (below_alloc (Below.refl w.heap.size w) (.cells #[.int .u8 0, .int .u8 0, .int .u8 0, .int .u8 0, .int .u8 0, .int .u8 0, .int .u8 0, .int .u8 0] 101))
      clear hq0 hq1
      generalize w.alloc (.cells #[.int .u8 0, .int .u8 0, .int .u8 0, .int .u8 0, .int .u8 0, .int .u8 0, .int .u8 0, .int .u8 0] 101) = wq at *
      obtain ⟨pre, hpre⟩ : ∃ pre : List Int, pre = l ++ [0] := ⟨_, rfl⟩
      have NP := Aside0.mk hpre
      clear hpre
      have HB := Aside0.mk (Below.refl wq.heap.size wq)
      have HRq := Aside0.mk (Kd.C_below HR.out HW.out)
      go_wp2_with (first | ((with_reducible refine gate_dst (N := 22) rfl ?_); (try (refine gate_guard (by rfl) ?_; dsimp only)); refine Kd.R_lit (Kd.int .u8) _ 5 ?hg (N := 22) ?hd (xs := ([] : List Int)) (inner := []) (ok := fun _ => True) (okp := fun _ => True) ?hr ?hp (fun _ hk => hk) trivial (Below.refl _ _) (Nat.le_refl _) (by simp) ?_; (case hd => rfl); (case hg => rfl); (case hr => first | (go_simp; done) | (go_simp; rfl)); (case hp => exact (Reps.none _ _)); intro vHO1 wHO1 ho hb hg_ hnew_; clear hg_ hnew_; have n0_ := Aside0.mk (Kd.R_lower ho (below_size (by repeat (first | (with_reducible first | exact HB.out | apply below_alloc | apply pw_below_drewN | apply below_drew1) | exact HB.out)))); have n1_ := Aside0.mk (below_step (by repeat (first | (with_reducible first | exact HB.out | apply below_alloc | apply pw_below_drewN | apply below_drew1) | exact HB.out)) hb); clear HB; have HO1 := n0_; have HB := n1_; clear n0_ n1_; clear hb ho) | ((with_reducible refine gate_builtin (b := .append) (xs := #[.tmp 22, .tmp 23]) rfl ?_); (try (refine gate_guard (by rfl) ?_; dsimp only)); at_builtin; refine Kd.R_append_rows (Kd.int .u8) (w0 := wq) wq.heap.size rfl (.tmp 22) (.tmp 23) 25 5 (.int .u8 0) 1 rfl Tryd.underlying25 info5 rfl (by decide) (by omega) vHO1 [] l _ _ _ (fun _ => True) (fun _ => False) rfl rfl ?aO ?aR (fun _ _ h => h) (fun _ h => h.elim) ?aF ?aB ?aS ?aL ?_; (case aR => repeat (first | exact (Kd.C_below HRq.out HB.out) | (with_reducible refine Kd.C_alloc ?_ _) | (with_reducible refine Kd.C_drewN ?_ _) | (with_reducible refine Kd.C_drew ?_))); (case aB => exact (by repeat (first | (with_reducible first | exact HB.out | apply below_alloc | apply pw_below_drewN | apply below_drew1) | exact HB.out))); (case aF => exact (fun _ _ => trivial)); (case aO => exact (by (with_reducible repeat (first | apply Kd.R_alloc | apply Kd.R_drewN | apply Kd.R_drew)); exact HO1.out)); (case aS => exact (below_size (by repeat (first | (with_reducible first | exact HB.out | apply below_alloc | apply pw_below_drewN | apply below_drew1) | exact HB.out)))); (case aL => simp only [List.length_nil]; omega); intro vHO2 wHO2 ho hb hg hat; (try rw [List.nil_append] at ho); have n0_ := Aside0.mk (hb); have n1_ := Aside0.mk (ho); clear HB; clear HO1; have HB := n0_; have HO2 := n1_; clear n0_ n1_; clear ho hb hg hat) | ((with_reducible refine gate_builtin (b := .append) (xs := #[.tmp 24, .tmp 27]) rfl ?_); at_builtin; (refine Kd.R_append (Kd.int .u8) (w0 := wq) wq.heap.size rfl (.tmp 24) (.tmp 27) 25 5 (.int .u8 0) 1 rfl Tryd.underlying25 info5 rfl (by decide) (by omega) vHO2 l 0 [.int .u8 0] (fun _ => True) (fun _ => False) rfl rfl ?aP (fun _ hk => hk.elim) ?aF ?aO ?aB ?aS ?aL ?_); (case aP => exact rfl); (case aB => exact (by repeat (first | (with_reducible first | exact HB.out | apply below_alloc | apply pw_below_drewN | apply below_drew1) | exact HB.out))); (case aF => exact (fun _ _ => trivial)); (case aO => exact (by (with_reducible repeat (first | apply Kd.R_alloc | apply Kd.R_drewN | apply Kd.R_drew)); exact HO2.out)); (case aS => exact (below_size (by repeat (first | (with_reducible first | exact HB.out | apply below_alloc | apply pw_below_drewN | apply below_drew1) | exact HB.out)))); (case aL => omega); intro vHO3 wHO3 ho hb hg hat; rw [← NP.out] at ho; have n0_ := Aside0.mk (hb); have n1_ := Aside0.mk (ho); clear HB; clear HO2; have HB := n0_; have HO3 := n1_; clear n0_ n1_; clear ho hb hg hat))
      obtain ⟨wo0, rfl⟩ : ∃ x : World, x = wHO3 := ⟨_, rfl⟩
      go_loopw [7, 8] (fun v7 v8 wr => v8 = .int .i64 (-1) ∧ Aside0 (Kd.R (Kd.int .u8) 5 wr wq.heap.size (fun _ => True) v7 pre) ∧ Aside0 (Below wq.heap.size wq wr)) (fun _ _ _ => 0)
      case atStart => exact ⟨by go_num, HO3, HB⟩
      case round =>
        obtain ⟨rfl, HVr, HBr⟩ := hrel
        obtain ⟨wo, rfl⟩ : ∃ x : World, x = wr := ⟨_, rfl⟩
        go_wp2
        simp only [Exit.jump]
        go_ret
        refine ⟨_, rfl, Kd.R_lower ?_ HW.out.size, below_step HW.out HBr.out⟩
        have h := HVr.out
        rw [NP.out] at h
        rw [dg_zero]
        exact h
    · obtain rfl : m = 0 := by omega
      go_wp2
      go_step3
      have hq0 := Blk.new w [.int .u8 0, .int .u8 0, .int .u8 0, .int .u8 0, .int .u8 0, .int .u8 0, .int .u8 0, .int .u8 0] 101
      have hq1 : Blk (w.alloc (.cells #[.int .u8 0, .int .u8 0, .int .u8 0, .int .u8 0, .int .u8 0, .int .u8 0, .int .u8 0, .int .u8 0] 101)) w.heap.size 8 (lowC []) := hq0.congr fun i hi => by
        have h8 : i < 8 := hi
        have : i = 0 ∨ i = 1 ∨ i = 2 ∨ i = 3 ∨ i = 4 ∨ i = 5 ∨ i = 6 ∨ i = 7 := by omega
        rcases this with rfl | rfl | rfl | rfl | rfl | rfl | rfl | rfl <;> rfl
      have HQ := Aside0.mk hq1
      have HW := Aside0.mk (below_alloc (Below.refl w.heap.size w) (.cells #[.int .u8 0, .int .u8 0, .int .u8 0, .int .u8 0, .int .u8 0, .int .u8 0, .int .u8 0, .int .u8 0] 101))
      clear hq0 hq1
      generalize w.alloc (.cells #[.int .u8 0, .int .u8 0, .int .u8 0, .int .u8 0, .int .u8 0, .int .u8 0, .int .u8 0, .int .u8 0] 101) = wq at *
      obtain ⟨pre, hpre⟩ : ∃ pre : List Int, pre = l ++ [0] := ⟨_, rfl⟩
      have NP := Aside0.mk hpre
      clear hpre
      have HB := Aside0.mk (Below.refl wq.heap.size wq)
      have HRq := Aside0.mk (Kd.C_below HR.out HW.out)
      go_wp2_with (first | ((with_reducible refine gate_dst (N := 22) rfl ?_); (try (refine gate_guard (by rfl) ?_; dsimp only)); refine Kd.R_lit (Kd.int .u8) _ 5 ?hg (N := 22) ?hd (xs := ([] : List Int)) (inner := []) (ok := fun _ => True) (okp := fun _ => True) ?hr ?hp (fun _ hk => hk) trivial (Below.refl _ _) (Nat.le_refl _) (by simp) ?_; (case hd => rfl); (case hg => rfl); (case hr => first | (go_simp; done) | (go_simp; rfl)); (case hp => exact (Reps.none _ _)); intro vHO1 wHO1 ho hb hg_ hnew_; clear hg_ hnew_; have n0_ := Aside0.mk (Kd.R_lower ho (below_size (by repeat (first | (with_reducible first | exact HB.out | apply below_alloc | apply pw_below_drewN | apply below_drew1) | exact HB.out)))); have n1_ := Aside0.mk (below_step (by repeat (first | (with_reducible first | exact HB.out | apply below_alloc | apply pw_below_drewN | apply below_drew1) | exact HB.out)) hb); clear HB; have HO1 := n0_; have HB := n1_; clear n0_ n1_; clear hb ho) | ((with_reducible refine gate_builtin (b := .append) (xs := #[.tmp 22, .tmp 23]) rfl ?_); (try (refine gate_guard (by rfl) ?_; dsimp only)); at_builtin; refine Kd.R_append_rows (Kd.int .u8) (w0 := wq) wq.heap.size rfl (.tmp 22) (.tmp 23) 25 5 (.int .u8 0) 1 rfl Tryd.underlying25 info5 rfl (by decide) (by omega) vHO1 [] l _ _ _ (fun _ => True) (fun _ => False) rfl rfl ?aO ?aR (fun _ _ h => h) (fun _ h => h.elim) ?aF ?aB ?aS ?aL ?_; (case aR => repeat (first | exact (Kd.C_below HRq.out HB.out) | (with_reducible refine Kd.C_alloc ?_ _) | (with_reducible refine Kd.C_drewN ?_ _) | (with_reducible refine Kd.C_drew ?_))); (case aB => exact (by repeat (first | (with_reducible first | exact HB.out | apply below_alloc | apply pw_below_drewN | apply below_drew1) | exact HB.out))); (case aF => exact (fun _ _ => trivial)); (case aO => exact (by (with_reducible repeat (first | apply Kd.R_alloc | apply Kd.R_drewN | apply Kd.R_drew)); exact HO1.out)); (case aS => exact (below_size (by repeat (first | (with_reducible first | exact HB.out | apply below_alloc | apply pw_below_drewN | apply below_drew1) | exact HB.out)))); (case aL => simp only [List.length_nil]; omega); intro vHO2 wHO2 ho hb hg hat; (try rw [List.nil_append] at ho); have n0_ := Aside0.mk (hb); have n1_ := Aside0.mk (ho); clear HB; clear HO1; have HB := n0_; have HO2 := n1_; clear n0_ n1_; clear ho hb hg hat) | ((with_reducible refine gate_builtin (b := .append) (xs := #[.tmp 24, .tmp 27]) rfl ?_); at_builtin; (refine Kd.R_append (Kd.int .u8) (w0 := wq) wq.heap.size rfl (.tmp 24) (.tmp 27) 25 5 (.int .u8 0) 1 rfl Tryd.underlying25 info5 rfl (by decide) (by omega) vHO2 l 0 [.int .u8 0] (fun _ => True) (fun _ => False) rfl rfl ?aP (fun _ hk => hk.elim) ?aF ?aO ?aB ?aS ?aL ?_); (case aP => exact rfl); (case aB => exact (by repeat (first | (with_reducible first | exact HB.out | apply below_alloc | apply pw_below_drewN | apply below_drew1) | exact HB.out))); (case aF => exact (fun _ _ => trivial)); (case aO => exact (by (with_reducible repeat (first | apply Kd.R_alloc | apply Kd.R_drewN | apply Kd.R_drew)); exact HO2.out)); (case aS => exact (below_size (by repeat (first | (with_reducible first | exact HB.out | apply below_alloc | apply pw_below_drewN | apply below_drew1) | exact HB.out)))); (case aL => omega); intro vHO3 wHO3 ho hb hg hat; rw [← NP.out] at ho; have n0_ := Aside0.mk (hb); have n1_ := Aside0.mk (ho); clear HB; clear HO2; have HB := n0_; have HO3 := n1_; clear n0_ n1_; clear ho hb hg hat))
      obtain ⟨wo0, rfl⟩ : ∃ x : World, x = wHO3 := ⟨_, rfl⟩
      go_loopw [7, 8] (fun v7 v8 wr => v8 = .int .i64 (-1) ∧ Aside0 (Kd.R (Kd.int .u8) 5 wr wq.heap.size (fun _ => True) v7 pre) ∧ Aside0 (Below wq.heap.size wq wr)) (fun _ _ _ => 0)
      case atStart => exact ⟨by go_num, HO3, HB⟩
      case round =>
        obtain ⟨rfl, HVr, HBr⟩ := hrel
        obtain ⟨wo, rfl⟩ : ∃ x : World, x = wr := ⟨_, rfl⟩
        go_wp2
        simp only [Exit.jump]
        go_ret
        refine ⟨_, rfl, Kd.R_lower ?_ HW.out.size, below_step HW.out HBr.out⟩
        have h := HVr.out
        rw [NP.out] at h
        rw [dg_zero]
        exact h
    · have hmf : (9007199254740992 : Int) = (m : Int) := by omega
      have hm2 : min (max n 0) (m : Int) = (m : Int) := by omega
      go_wp2
      go_step3
      have hq0 := Blk.new w [.int .u8 0, .int .u8 0, .int .u8 0, .int .u8 0, .int .u8 0, .int .u8 0, .int .u8 0, .int .u8 0] 101
      have hq1 : Blk (w.alloc (.cells #[.int .u8 0, .int .u8 0, .int .u8 0, .int .u8 0, .int .u8 0, .int .u8 0, .int .u8 0, .int .u8 0] 101)) w.heap.size 8 (lowC []) := hq0.congr fun i hi => by
        have h8 : i < 8 := hi
        have : i = 0 ∨ i = 1 ∨ i = 2 ∨ i = 3 ∨ i = 4 ∨ i = 5 ∨ i = 6 ∨ i = 7 := by omega
        rcases this with rfl | rfl | rfl | rfl | rfl | rfl | rfl | rfl <;> rfl
      have HQ := Aside0.mk hq1
      have HW := Aside0.mk (below_alloc (Below.refl w.heap.size w) (.cells #[.int .u8 0, .int .u8 0, .int .u8 0, .int .u8 0, .int .u8 0, .int .u8 0, .int .u8 0, .int .u8 0] 101))
      clear hq0 hq1
      generalize w.alloc (.cells #[.int .u8 0, .int .u8 0, .int .u8 0, .int .u8 0, .int .u8 0, .int .u8 0, .int .u8 0, .int .u8 0] 101) = wq at *
      have b0 : decide ((m : Int) > 0) = true := decide_eq_true (by omega)
      have hp := dg_pos (show 0 < m by omega)
      have e1 : ((m / 256 : Nat) : Int) = (m : Int) / 256 := by omega
      have hfz := HQ.out.fz 0
      have hcl := HQ.out.cell 0 (by omega)
      go_wp2
      go_step3
      refine ⟨rfl, m / 256, [(m : Int) % 256], _, _, _, _, _, _, _, _, _, _, _, _, _, _, _, _, _, _, _, _, _, _, _, _, _, _, _, _, _, _, _, _, _, _, _, _, _, (by rw [e1]; rfl), ?_, ?_, ?_, below_set HW.out (Nat.le_refl _)⟩
      · rw [hp]; rfl
      · intro y hy
        rw [List.mem_singleton] at hy; omega
      · exact (HQ.out.set (show 0 < 8 by omega) _).congr fun i hi => lowC_snoc [] _ i
    · obtain rfl : n = (m : Int) := by omega
      have hm3 : min (m : Int) 9007199254740992 = (m : Int) := by omega
      go_wp2
      go_step3
      have hq0 := Blk.new w [.int .u8 0, .int .u8 0, .int .u8 0, .int .u8 0, .int .u8 0, .int .u8 0, .int .u8 0, .int .u8 0] 101
      have hq1 : Blk (w.alloc (.cells #[.int .u8 0, .int .u8 0, .int .u8 0, .int .u8 0, .int .u8 0, .int .u8 0, .int .u8 0, .int .u8 0] 101)) w.heap.size 8 (lowC []) := hq0.congr fun i hi => by
        have h8 : i < 8 := hi
        have : i = 0 ∨ i = 1 ∨ i = 2 ∨ i = 3 ∨ i = 4 ∨ i = 5 ∨ i = 6 ∨ i = 7 := by omega
        rcases this with rfl | rfl | rfl | rfl | rfl | rfl | rfl | rfl <;> rfl
      have HQ := Aside0.mk hq1
      have HW := Aside0.mk (below_alloc (Below.refl w.heap.size w) (.cells #[.int .u8 0, .int .u8 0, .int .u8 0, .int .u8 0, .int .u8 0, .int .u8 0, .int .u8 0, .int .u8 0] 101))
      clear hq0 hq1
      generalize w.alloc (.cells #[.int .u8 0, .int .u8 0, .int .u8 0, .int .u8 0, .int .u8 0, .int .u8 0, .int .u8 0, .int .u8 0] 101) = wq at *
      have b0 : decide ((m : Int) > 0) = true := decide_eq_true (by omega)
      have hp := dg_pos (show 0 < m by omega)
      have e1 : ((m / 256 : Nat) : Int) = (m : Int) / 256 := by omega
      have hfz := HQ.out.fz 0
      have hcl := HQ.out.cell 0 (by omega)
      go_wp2
      go_step3
      refine ⟨rfl, m / 256, [(m : Int) % 256], _, _, _, _, _, _, _, _, _, _, _, _, _, _, _, _, _, _, _, _, _, _, _, _, _, _, _, _, _, _, _, _, _, _, _, _, _, (by rw [e1]; rfl), ?_, ?_, ?_, below_set HW.out (Nat.le_refl _)⟩
      · rw [hp]; rfl
      · intro y hy
        rw [List.mem_singleton] at hy; omega
      · exact (HQ.out.set (show 0 < 8 by omega) _).congr fun i hi => lowC_snoc [] _ i
  · rintro x a' wq ⟨L, u2, u3, u7, u8, u9, u10, u11, u12, u13, u14, u15, u16, u17, u18, u19, u20, u21, u22, u23, u24, u25, u26, u27, u28, u29, u30, u31, u32, u33, u34, u35, u36, u37, u38, u39, u40, u41, rfl, hd, hbL, hbk, hbw⟩
    have HL0 := Aside0.mk hd
    have HY := Aside0.mk hbL
    have HQ := Aside0.mk hbk
    have HW := Aside0.mk hbw
    have hll : (dg x).length + L.length = (dg m).length := by rw [← hd, List.length_append, List.length_reverse]
    clear hd hbL hbk hbw
    by_cases hx0 : 0 < x
    · have b0 : decide ((x : Int) > 0) = true := decide_eq_true (by omega)
      have hp := dg_pos hx0
      have hl1 : L.length < 8 := by have := congrArg List.length hp; rw [List.length_append, List.length_singleton] at this; omega
      have hfz := HQ.out.fz L.length
      have hcl := HQ.out.cell L.length hl1
      go_wp2
      go_step3
      have e1 : ((x / 256 : Nat) : Int) = (x : Int) / 256 := by omega
      have e2 : ((L ++ [(x : Int) % 256]).length : Int) = (L.length : Int) + 1 := by rw [List.length_append]; rfl
      refine ⟨rfl, x / 256, by omega, L ++ [(x : Int) % 256], _, _, _, _, _, _, _, _, _, _, _, _, _, _, _, _, _, _, _, _, _, _, _, _, _, _, _, _, _, _, _, _, _, _, _, _, _, (by rw [e1, e2]), ?_, ?_, ?_, below_set HW.out (Nat.le_refl _)⟩
      · rw [List.reverse_append, ← HL0.out, hp, List.append_assoc]; rfl
      · intro y hy
        rcases List.mem_append.mp hy with h | h
        · exact HY.out y h
        · rw [List.mem_singleton] at h; omega
      · exact (HQ.out.set hl1 _).congr fun i hi => lowC_snoc L _ i
    · obtain rfl : x = 0 := by omega
      have HL := Aside0.mk (show L.reverse = dg m by have := HL0.out; rwa [dg_zero, List.nil_append] at this)
      have hL7 : L.length ≤ 7 := by omega
      clear HL0
      obtain ⟨pre, hpre⟩ : ∃ pre : List Int, pre = l ++ [(L.length : Int)] := ⟨_, rfl⟩
      have hpl : pre.length = l.length + 1 := by rw [hpre]; simp
      have NP := Aside0.mk hpre
      clear hpre
      have HB := Aside0.mk (Below.refl wq.heap.size wq)
      have HRq := Aside0.mk (Kd.C_below HR.out HW.out)
      have hgq : w.heap.size < wq.heap.size := World.block_lt_of_cell? wq _ (HQ.out.cell 0 (by omega))
      go_wp2_with (first | ((with_reducible refine gate_dst (N := 22) rfl ?_); (try (refine gate_guard (by rfl) ?_; dsimp only)); refine Kd.R_lit (Kd.int .u8) _ 5 ?hg (N := 22) ?hd (xs := ([] : List Int)) (inner := []) (ok := fun _ => True) (okp := fun _ => True) ?hr ?hp (fun _ hk => hk) trivial (Below.refl _ _) (Nat.le_refl _) (by simp) ?_; (case hd => rfl); (case hg => rfl); (case hr => first | (go_simp; done) | (go_simp; rfl)); (case hp => exact (Reps.none _ _)); intro vHO1 wHO1 ho hb hg_ hnew_; clear hg_ hnew_; have n0_ := Aside0.mk (Kd.R_lower ho (below_size (by repeat (first | (with_reducible first | exact HB.out | apply below_alloc | apply pw_below_drewN | apply below_drew1) | exact HB.out)))); have n1_ := Aside0.mk (below_step (by repeat (first | (with_reducible first | exact HB.out | apply below_alloc | apply pw_below_drewN | apply below_drew1) | exact HB.out)) hb); clear HB; have HO1 := n0_; have HB := n1_; clear n0_ n1_; clear hb ho) | ((with_reducible refine gate_builtin (b := .append) (xs := #[.tmp 22, .tmp 23]) rfl ?_); (try (refine gate_guard (by rfl) ?_; dsimp only)); at_builtin; refine Kd.R_append_rows (Kd.int .u8) (w0 := wq) wq.heap.size rfl (.tmp 22) (.tmp 23) 25 5 (.int .u8 0) 1 rfl Tryd.underlying25 info5 rfl (by decide) (by omega) vHO1 [] l _ _ _ (fun _ => True) (fun _ => False) rfl rfl ?aO ?aR (fun _ _ h => h) (fun _ h => h.elim) ?aF ?aB ?aS ?aL ?_; (case aR => repeat (first | exact (Kd.C_below HRq.out HB.out) | (with_reducible refine Kd.C_alloc ?_ _) | (with_reducible refine Kd.C_drewN ?_ _) | (with_reducible refine Kd.C_drew ?_))); (case aB => exact (by repeat (first | (with_reducible first | exact HB.out | apply below_alloc | apply pw_below_drewN | apply below_drew1) | exact HB.out))); (case aF => exact (fun _ _ => trivial)); (case aO => exact (by (with_reducible repeat (first | apply Kd.R_alloc | apply Kd.R_drewN | apply Kd.R_drew)); exact HO1.out)); (case aS => exact (below_size (by repeat (first | (with_reducible first | exact HB.out | apply below_alloc | apply pw_below_drewN | apply below_drew1) | exact HB.out)))); (case aL => simp only [List.length_nil]; omega); intro vHO2 wHO2 ho hb hg hat; (try rw [List.nil_append] at ho); have n0_ := Aside0.mk (hb); have n1_ := Aside0.mk (ho); clear HB; clear HO1; have HB := n0_; have HO2 := n1_; clear n0_ n1_; clear ho hb hg hat) | ((with_reducible refine gate_builtin (b := .append) (xs := #[.tmp 24, .tmp 27]) rfl ?_); at_builtin; (refine Kd.R_append (Kd.int .u8) (w0 := wq) wq.heap.size rfl (.tmp 24) (.tmp 27) 25 5 (.int .u8 0) 1 rfl Tryd.underlying25 info5 rfl (by decide) (by omega) vHO2 l (L.length : Int) [.int .u8 (L.length : Int)] (fun _ => True) (fun _ => False) rfl rfl ?aP (fun _ hk => hk.elim) ?aF ?aO ?aB ?aS ?aL ?_); (case aP => exact rfl); (case aB => exact (by repeat (first | (with_reducible first | exact HB.out | apply below_alloc | apply pw_below_drewN | apply below_drew1) | exact HB.out))); (case aF => exact (fun _ _ => trivial)); (case aO => exact (by (with_reducible repeat (first | apply Kd.R_alloc | apply Kd.R_drewN | apply Kd.R_drew)); exact HO2.out)); (case aS => exact (below_size (by repeat (first | (with_reducible first | exact HB.out | apply below_alloc | apply pw_below_drewN | apply below_drew1) | exact HB.out)))); (case aL => omega); intro vHO3 wHO3 ho hb hg hat; rw [← NP.out] at ho; have n0_ := Aside0.mk (hb); have n1_ := Aside0.mk (ho); clear HB; clear HO2; have HB := n0_; have HO3 := n1_; clear n0_ n1_; clear ho hb hg hat))
      obtain ⟨wo0, rfl⟩ : ∃ x : World, x = wHO3 := ⟨_, rfl⟩
      go_loopw [7, 8] (fun v7 v8 wr => ∃ (j : Nat), j ≤ L.length ∧ v8 = .int .i64 ((L.length : Int) - 1 - j) ∧ Aside0 (Kd.R (Kd.int .u8) 5 wr wq.heap.size (fun _ => True) v7 (pre ++ L.reverse.take j)) ∧ Aside0 (Below wq.heap.size wq wr)) (fun _ v8 _ => ((intOf v8) + 1).toNat)
      case atStart => exact ⟨0, by omega, by go_num, ⟨by rw [List.take_zero, List.append_nil]; exact HO3.out⟩, HB⟩
      case round =>
        obtain ⟨j, hj, rfl, HVr, HBr⟩ := hrel
        obtain ⟨wo, rfl⟩ : ∃ x : World, x = wr := ⟨_, rfl⟩
        clear HB HO3
        have HB := HBr
        clear HBr
        by_cases hlt : j < L.length
        · obtain ⟨i, hi⟩ : ∃ i : Nat, (L.length : Int) - 1 - j = i := ⟨L.length - 1 - j, by omega⟩
          rw [hi]
          have hci : wo.cell? ⟨w.heap.size, i, none⟩ = some (.int .u8 (L.getD i 0)) := (HQ.out.below HB.out hgq).cell i (by omega)
          have hnx : pre ++ L.reverse.take (j + 1) = pre ++ L.reverse.take j ++ [L.getD i 0] := by
            rw [List.append_assoc, List.take_add_one, List.getElem?_reverse hlt, show L.length - 1 - j = i by omega, List.getElem?_eq_getElem (by omega), List.getD_eq_getElem?_getD, List.getElem?_eq_getElem (by omega)]; rfl
          have hpj : (pre ++ L.reverse.take j).length = pre.length + j := by rw [List.length_append, List.length_take, List.length_reverse]; omega
          have HN := Aside0.mk hnx
          have hi8 : i < 8 := by omega
          clear hnx
          generalize L.getD i 0 = e at *
          generalize pre ++ L.reverse.take j = cur at *
          go_wp2_with (first | ((with_reducible refine gate_builtin (b := .append) (xs := #[.tmp 35, .tmp 39]) rfl ?_); at_builtin; (refine Kd.R_append (Kd.int .u8) (w0 := wq) wq.heap.size rfl (.tmp 35) (.tmp 39) 25 5 (.int .u8 0) 1 rfl Tryd.underlying25 info5 rfl (by decide) (by omega) u7 cur e [.int .u8 e] (fun _ => True) (fun _ => False) rfl rfl ?aP (fun _ hk => hk.elim) ?aF ?aO ?aB ?aS ?aL ?_); (case aP => exact rfl); (case aB => exact (by repeat (first | (with_reducible first | exact HB.out | apply below_alloc | apply pw_below_drewN | apply below_drew1) | exact HB.out))); (case aF => exact (fun _ _ => trivial)); (case aO => exact (by (with_reducible repeat (first | apply Kd.R_alloc | apply Kd.R_drewN | apply Kd.R_drew)); exact HVr.out)); (case aS => exact (below_size (by repeat (first | (with_reducible first | exact HB.out | apply below_alloc | apply pw_below_drewN | apply below_drew1) | exact HB.out)))); (case aL => omega); intro vHO4 wHO4 ho hb hg hat; have n0_ := Aside0.mk (hb); have n1_ := Aside0.mk (ho); clear HB; clear HVr; have HB := n0_; have HO4 := n1_; clear n0_ n1_; clear ho hb hg hat))
          go_roundw
          case rel => exact ⟨j + 1, by omega, by rw [← hi]; go_num, ⟨by rw [HN.out]; exact HO4.out⟩, HB⟩
          case measure => simp [intOf]
        · obtain rfl : j = L.length := by omega
          have b1 : decide ((L.length : Int) - 1 - (L.length : Int) >= 0) = false := decide_eq_false (by omega)
          go_wp2
          simp only [Exit.jump]
          go_ret
          refine ⟨_, rfl, Kd.R_lower ?_ HW.out.size, below_step HW.out HB.out⟩
          have h := HVr.out
          rw [← List.length_reverse, List.take_length, HL.out, NP.out] at h
          have hlen : L.length = (dg m).length := by rw [← HL.out, List.length_reverse]
          rw [hlen, List.append_assoc] at h
          exact h
end
end Go.Proofs.YthpgbhpnlnpfnaaDoor.Law

namespace Go.Proofs.YthpgbhpnlnpfnaaDoor.Law
open Go.RowKit Go.Proofs.YthpgbhpnlnpfnaaDoor Go.Proofs.YthpgbhpnlnpfnaaDoorW.PrintWords Go.Proofs.YthpgbhpnlnpfnaaDoorW.PrintLast Go.Proofs.YthpgbhpnlnpfnaaDoorW.PrintMore Go.Proofs.YthpgbhpnlnpfnaaDoor.E
theorem Scn.own {e base : Nat} {w : World} {v : Value} {l : List Int} {ok : Nat → Prop} (h : Kd.R (Kd.int .u8) e w base ok v l) (hb : Bytes l) (er : Int) : Scn w (.agg #[v, .int .i64 er]) l er := by
  obtain ⟨A, c, rfl, h1, h2⟩ := Rd.own h
  exact ⟨A, c, rfl, h1, h2, hb⟩
theorem Scn.of_rd {w : World} {v : Value} {l : List Int} (h : Rd w v l) (hb : Bytes l) (er : Int) : Scn w (.agg #[v, .int .i64 er]) l er := by
  obtain ⟨A, c, rfl, h1, h2⟩ := h
  exact ⟨A, c, rfl, h1, h2, hb⟩
def clamp (n : Int) : Nat := (min (max n 0) 9007199254740992).toNat
theorem clamp_eq (n : Int) : min (max n 0) 9007199254740992 = (clamp n : Int) := by unfold clamp; omega
theorem clamp_le (n : Int) : clamp n ≤ 9007199254740992 := by unfold clamp; omega
/-- a number behind bytes -/
def numB (l : List Int) (n : Int) : List Int := l ++ (((dg (clamp n)).length : Int) :: dg (clamp n))
def textB (l s : List Int) : List Int := numB l s.length ++ s
theorem dg_bytes : ∀ n : Nat, Bytes (dg n) := by
  intro n
  induction n using Nat.strongRecOn with
  | _ n ih =>
    rcases Nat.eq_zero_or_pos n with rfl | hp
    · rw [dg_zero]; intro x hx; cases hx
    · rw [dg_pos hp]
      intro x hx
      rcases List.mem_append.mp hx with h | h
      · exact ih _ (by omega) x h
      · rw [List.mem_singleton] at h; omega
theorem dg_len7 {m : Nat} (h : m ≤ 9007199254740992) : (dg m).length ≤ 7 := dg_len 7 m (by have h7 : (256 : Nat) ^ 7 = 72057594037927936 := by decide
                                                                                           omega)
theorem numB_len (l : List Int) (n : Int) : l.length < (numB l n).length ∧ (numB l n).length ≤ l.length + 8 := by
  have := dg_len7 (clamp_le n)
  unfold numB
  rw [List.length_append, List.length_cons]; omega
theorem Bytes.app {a b : List Int} (ha : Bytes a) (hb : Bytes b) : Bytes (a ++ b) := fun x hx => by
  rcases List.mem_append.mp hx with h | h
  · exact ha x h
  · exact hb x h
theorem numB_bytes {l : List Int} (h : Bytes l) (n : Int) : Bytes (numB l n) := by
  have := dg_len7 (clamp_le n)
  refine h.app fun x hx => ?_
  rcases List.mem_cons.mp hx with rfl | h
  · omega
  · exact dg_bytes _ x h
theorem textB_bytes {l s : List Int} (h : Bytes l) (hs : Bytes s) : Bytes (textB l s) := (numB_bytes h _).app hs
/-! contracts -/
theorem from_calls {w : World} {V : Value} {l : List Int} (h : Rd w V l) (hm : l.length < 140737488355328) : Calls Tryd.prog 51 #[V] w fun e w' => ∃ V', e = .returned (.agg #[V', .int .i64 0]) ∧ Kd.R (Kd.int .u8) 5 w' w.heap.size (fun _ => True) V' l ∧ Below w.heap.size w w' := by
  obtain ⟨A, c, rfl, h1, h2⟩ := h
  refine codec_From.calls A c l l 0 w h1 h2 ?_
  unfold codec_From.f
  rw [Option.bind_some, if_pos (by simp only [List.length_nil]; omega)]; rfl
theorem err_calls {w : World} {v : Value} {l : List Int} {er : Int} (h : Scn w v l er) : Calls Tryd.prog 54 #[v] w fun e w' => e = .returned (.int .i64 er) ∧ Below w.heap.size w w' := by
  obtain ⟨A, c, rfl, h1, h2, _⟩ := h
  exact codec_Scan_Err.calls A c l er er w h1 h2 rfl
/-- what End tells -/
def endP (l : List Int) (er : Int) : Int := if er = 0 then (if (l.length : Int) > 0 then 4 else er) else er
theorem end_calls {w : World} {v : Value} {l : List Int} {er : Int} (h : Scn w v l er) : Calls Tryd.prog 55 #[v] w fun e w' => e = .returned (.int .i64 (endP l er)) ∧ Below w.heap.size w w' := by
  obtain ⟨A, c, rfl, h1, h2, _⟩ := h
  refine codec_Scan_End.calls A c l er _ w h1 h2 ?_
  unfold codec_Scan_End.f endP
  split
  · split <;> rfl
  · rfl
theorem rend_calls {w : World} {v : Value} {l : List Int} {er : Int} (h : Scn w v l er) : Calls Tryd.prog 59 #[v] w fun e w' => e = .returned (.int .i64 (endP l er)) ∧ Below w.heap.size w w' := by
  obtain ⟨A, c, rfl, h1, h2, _⟩ := h
  refine hypogeumref17_Scan_End.calls A c l er _ w h1 h2 ?_
  unfold hypogeumref17_Scan_End.f endP
  split
  · split <;> rfl
  · rfl
theorem number_calls {w : World} {V : Value} {l : List Int} (h : Rd w V l) (hm : l.length < 140737488355000) (n : Int) : Calls Tryd.prog 46 #[V, .int .i64 n] w fun e w' => ∃ V', e = .returned V' ∧ Kd.R (Kd.int .u8) 5 w' w.heap.size (fun _ => True) V' (numB l n) ∧ Below w.heap.size w w' := by
  obtain ⟨A, c, rfl, h1, _⟩ := h
  exact number_0 A c l n (clamp n) w h1 (clamp_eq n) hm
theorem digits_eq (j : Nat) : ∀ (m k : Nat), m < 256 ^ j → j < k → m ≤ 9007199254740992 → hypogeumref17_digits.f k (m : Int) = some (dg m) := by
  induction j with
  | zero =>
    intro m k hm hk _
    obtain rfl : m = 0 := by simpa using hm
    obtain ⟨k, rfl⟩ : ∃ i, k = i + 1 := ⟨k - 1, by omega⟩
    rw [hypogeumref17_digits.f, if_pos (show ((0 : Nat) : Int) = 0 from rfl), dg_zero]
  | succ j ih =>
    intro m k hm hk hf
    obtain ⟨k, rfl⟩ : ∃ i, k = i + 1 := ⟨k - 1, by omega⟩
    rcases Nat.eq_zero_or_pos m with rfl | hp
    · rw [hypogeumref17_digits.f, if_pos (show ((0 : Nat) : Int) = 0 from rfl), dg_zero]
    · have e : wrap64 (Int.tdiv (m : Int) 256) = ((m / 256 : Nat) : Int) := by
        rw [show Int.tdiv (m : Int) 256 = ((m / 256 : Nat) : Int) from rfl]
        exact w64 (by omega) (by omega)
      have e2 : (Int.tmod (m : Int) 256) % 256 = (m : Int) % 256 := by
        rw [show Int.tmod (m : Int) 256 = ((m % 256 : Nat) : Int) from rfl]; omega
      have hl := dg_len7 (show m / 256 ≤ 9007199254740992 by omega)
      rw [hypogeumref17_digits.f, if_neg (by omega), e, ih (m / 256) k (Nat.div_lt_of_lt_mul (by rw [Nat.mul_comm, ← Nat.pow_succ]; exact hm)) (by omega) (by omega), Option.bind_some, if_pos (by omega), e2, dg_pos hp]
theorem rnumber_f {l : List Int} (hm : l.length < 140737488355000) (n : Int) : hypogeumref17_Number.f 8 l n = some (numB l n) := by
  have hl := dg_len7 (clamp_le n)
  have h7 : (256 : Nat) ^ 7 = 72057594037927936 := by decide
  have e : mn (mx n 0) 9007199254740992 = (clamp n : Int) := by unfold mn mx clamp; split <;> split <;> omega
  have hc := clamp_le n
  unfold hypogeumref17_Number.f numB
  rw [e, digits_eq 7 (clamp n) 8 (by omega) (by omega) hc, Option.bind_some, Option.bind_some, if_pos (by simp only [List.length_nil]; omega), Option.bind_some, if_pos (by simp only [List.nil_append]; omega), Option.bind_some,
    if_pos (by simp only [List.nil_append, List.length_append, List.length_singleton]; omega), show ((dg (clamp n)).length : Int) % 256 = (dg (clamp n)).length by omega, List.nil_append, List.append_assoc]
  rfl
theorem rnumber_calls {w : World} {V : Value} {l : List Int} (h : Rd w V l) (hm : l.length < 140737488355000) (n : Int) : Calls Tryd.prog 40 #[V, .int .i64 n] w fun e w' => ∃ V', e = .returned V' ∧ Kd.R (Kd.int .u8) 5 w' w.heap.size (fun _ => True) V' (numB l n) ∧ Below w.heap.size w w' := by
  obtain ⟨A, c, rfl, h1, h2⟩ := h
  exact hypogeumref17_Number.calls 8 A c l n _ w h1 h2 (rnumber_f hm n)
theorem rputtext_calls {w : World} {V S : Value} {l s : List Int} (h : Rd w V l) (hs : Rd w S s) (hm : l.length + s.length < 140737488355000) : Calls Tryd.prog 39 #[V, S] w fun e w' => ∃ V', e = .returned V' ∧ Kd.R (Kd.int .u8) 5 w' w.heap.size (fun _ => True) V' (textB l s) ∧ Below w.heap.size w w' := by
  obtain ⟨A, c, rfl, h1, h2⟩ := h
  obtain ⟨A1, c1, rfl, h3, h4⟩ := hs
  refine hypogeumref17_Text.calls 8 A c l A1 c1 s _ w h1 h2 h3 h4 ?_
  have := numB_len l s.length
  unfold hypogeumref17_Text.f
  rw [rnumber_f (by omega), Option.bind_some, if_pos (by omega)]; rfl
set_option maxHeartbeats 1000000 in
set_option maxRecDepth 100000 in
theorem puttext_0 (A A1 : Option Addr) (c c1 : Nat) (l s : List Int) (w : World) (hr : Rd w (.slice A l.length c) l) (hs : Kd.C (Kd.int .u8) w A1 s.length s) (hm : l.length + s.length < 140737488355000) :
    Calls Tryd.prog 47 #[.slice A l.length c, .slice A1 s.length c1] w fun e w' => ∃ V', e = .returned V' ∧ Kd.R (Kd.int .u8) 5 w' w.heap.size (fun _ => True) V' (textB l s) ∧ Below w.heap.size w w' := by
  have HR := Aside0.mk hr
  have HS := Aside0.mk hs
  have hl := numB_len l s.length
  have HT := Aside0.mk (show textB l s = numB l s.length ++ s from rfl)
  clear hr hs
  generalize hnb : numB l s.length = nb at *
  have HN := Aside0.mk hnb
  clear hnb
  go_enter Tryd.func47, Tryd.ntmps47
  go_wp2_with (first | (go_at_call 46; refine (number_calls HR.out (by omega) s.length).mono ?_; rw [HN.out]; rintro e w2 ⟨vHO1, rfl, ho, hb⟩; have HB := Aside0.mk hb; have HO1 := Aside0.mk ho; clear hb ho) | ((with_reducible refine gate_builtin (b := .append) (xs := #[.tmp 8, .tmp 9]) rfl ?_); (try (refine gate_guard (by rfl) ?_; dsimp only)); at_builtin; refine Kd.R_append_rows (Kd.int .u8) (w0 := w) w.heap.size rfl (.tmp 8) (.tmp 9) 25 5 (.int .u8 0) 1 rfl Tryd.underlying25 info5 rfl (by decide) (by omega) vHO1 nb s _ _ _ (fun _ => True) (fun _ => False) rfl rfl ?aO ?aR (fun _ _ h => h) (fun _ h => h.elim) ?aF ?aB ?aS ?aL ?_; (case aR => repeat (first | exact (Kd.C_below HS.out HB.out) | (with_reducible refine Kd.C_alloc ?_ _) | (with_reducible refine Kd.C_drewN ?_ _) | (with_reducible refine Kd.C_drew ?_))); (case aB => exact (by repeat (first | (with_reducible first | exact HB.out | apply below_alloc | apply pw_below_drewN | apply below_drew1) | exact HB.out))); (case aF => exact (fun _ _ => trivial)); (case aO => exact (by (with_reducible repeat (first | apply Kd.R_alloc | apply Kd.R_drewN | apply Kd.R_drew)); exact HO1.out)); (case aS => exact (below_size (by repeat (first | (with_reducible first | exact HB.out | apply below_alloc | apply pw_below_drewN | apply below_drew1) | exact HB.out)))); (case aL => omega); intro vHO2 wHO2 ho hb hg hat; (try rw [List.nil_append] at ho); have n0_ := Aside0.mk (hb); have n1_ := Aside0.mk (ho); clear HB; clear HO1; have HB := n0_; have HO2 := n1_; clear n0_ n1_; clear ho hb hg hat))
  go_ret
  exact ⟨_, rfl, by rw [HT.out]; exact HO2.out, HB.out⟩
theorem puttext_calls {w : World} {V S : Value} {l s : List Int} (h : Rd w V l) (hs : Rd w S s) (hm : l.length + s.length < 140737488355000) : Calls Tryd.prog 47 #[V, S] w fun e w' => ∃ V', e = .returned V' ∧ Kd.R (Kd.int .u8) 5 w' w.heap.size (fun _ => True) V' (textB l s) ∧ Below w.heap.size w w' := by
  obtain ⟨A, c, rfl, h1, h2⟩ := h
  obtain ⟨A1, c1, rfl, h3, _⟩ := hs
  exact puttext_0 A A1 c c1 l s w ⟨A, c, rfl, h1, h2⟩ h3 hm
end Go.Proofs.YthpgbhpnlnpfnaaDoor.Law

namespace Go.Proofs.YthpgbhpnlnpfnaaDoor.Law
open Go.RowKit Go.Proofs.YthpgbhpnlnpfnaaDoor Go.Proofs.YthpgbhpnlnpfnaaDoorW.PrintWords
theorem val_dg : ∀ m : Nat, val (dg m) = m := by
  intro m
  induction m using Nat.strongRecOn with
  | _ m ih =>
    rcases Nat.eq_zero_or_pos m with rfl | hp
    · rw [dg_zero]; rfl
    · rw [dg_pos hp, val_snoc, ih _ (by omega)]; omega
theorem dg_head : ∀ m : Nat, 0 < m → ∃ x r, dg m = x :: r ∧ x ≠ 0 := by
  intro m
  induction m using Nat.strongRecOn with
  | _ m ih =>
    intro hp
    rcases Nat.eq_zero_or_pos (m / 256) with h | h
    · rw [dg_pos hp, h, dg_zero]; exact ⟨_, [], rfl, by omega⟩
    · obtain ⟨x, r, e, hx⟩ := ih (m / 256) (by omega) h
      rw [dg_pos hp, e]; exact ⟨x, r ++ _, rfl, hx⟩
/-- digits with no nought ahead are those of their number -/
theorem dg_val : ∀ (k : Nat) (d : List Int), d.length = k → Bytes d → (∀ x r, d = x :: r → x ≠ 0) → dg (val d).toNat = d := by
  intro k
  induction k with
  | zero => intro d hd _ _; obtain rfl : d = [] := List.eq_nil_of_length_eq_zero hd; show dg 0 = _; exact dg_zero
  | succ k ih =>
    intro d hd hb h0
    obtain ⟨e, x, rfl⟩ : ∃ e x, d = e ++ [x] := ⟨d.dropLast, d.getLast (by intro h; rw [h] at hd; cases hd), (List.dropLast_concat_getLast _).symm⟩
    have hbe : Bytes e := fun y hy => hb y (List.mem_append_left _ hy)
    have hx := hb x (List.mem_append_right _ (List.mem_singleton.mpr rfl))
    have hv := (val_bound hbe).1
    have he : e.length = k := by simpa using hd
    rw [val_snoc]
    have hpos : 0 < (val e * 256 + x).toNat := by
      cases e with
      | nil =>
        have := h0 x [] rfl
        show 0 < (0 * 256 + x).toNat
        omega
      | cons y r =>
        have hy := h0 y (r ++ [x]) rfl
        have hyb := hbe y List.mem_cons_self
        have e1 := ih (y :: r) he hbe (fun a b hab => by obtain ⟨rfl, rfl⟩ := List.cons.inj hab; exact hy)
        have : (val (y :: r)).toNat ≠ 0 := by intro h; rw [h, dg_zero] at e1; cases e1
        omega
    rw [dg_pos hpos, show (val e * 256 + x).toNat / 256 = (val e).toNat by omega, show (((val e * 256 + x).toNat : Nat) : Int) % 256 = x by omega,
      ih e he hbe (fun a b hab => h0 a (b ++ [x]) (by rw [hab]; rfl))]
theorem rd_cons0 (x : Int) (r : List Int) : rd (x :: r) 0 = x := rfl
theorem rd_cons1 (x y : Int) (r : List Int) : rd (x :: y :: r) 1 = y := rfl
/-- what stands next behind a number that was put -/
theorem nx_put (m : Nat) (hm : m ≤ 9007199254740992) (r : List Int) : nx (((dg m).length : Int) :: dg m ++ r) = ((m : Int), 1 + ((dg m).length : Int), 0) := by
  have h7 := dg_len7 hm
  unfold nx
  rw [if_neg (by simp), List.cons_append, rd_cons0, if_neg (by omega), if_neg (by simp only [List.length_cons, List.length_append]; omega), List.drop_one, List.tail_cons]
  rw [show ((dg m).length : Int).toNat = (dg m).length from Int.toNat_natCast _, List.take_left]
  rw [if_neg, val_dg, if_neg (by unfold far; omega)]
  rintro ⟨h1, h2⟩
  rcases Nat.eq_zero_or_pos m with rfl | hp
  · rw [dg_zero] at h1; exact absurd h1 (by decide)
  · obtain ⟨x, q, e, hx⟩ := dg_head m hp
    rw [e, List.cons_append, rd_cons1] at h2
    exact hx h2
theorem num_put (n : Int) (r : List Int) : numP (numB [] n ++ r) 0 0 far = ((clamp n : Int), 1 + (dg (clamp n)).length, 0) := by
  have hc := clamp_le n
  have e : numB [] n ++ r = ((dg (clamp n)).length : Int) :: dg (clamp n) ++ r := rfl
  unfold numP
  rw [if_neg (by decide), e, nx_put _ hc, if_neg (by simp), if_neg (by unfold far; dsimp only; omega)]
  dsimp only
  rw [show (1 + ((dg (clamp n)).length : Int)).toNat = 1 + (dg (clamp n)).length by omega]
theorem drop_put (n : Int) (r : List Int) : (numB [] n ++ r).drop (1 + (dg (clamp n)).length) = r := by
  have e : numB [] n ++ r = ((dg (clamp n)).length : Int) :: (dg (clamp n) ++ r) := rfl
  rw [e, Nat.add_comm, List.drop_succ_cons, List.drop_left]
theorem clamp_len {s : List Int} (h : s.length ≤ 9007199254740992) : clamp (s.length : Int) = s.length := by unfold clamp; omega
end Go.Proofs.YthpgbhpnlnpfnaaDoor.Law

namespace Go.Proofs.YthpgbhpnlnpfnaaDoor.Law
open Go.RowKit Go.Proofs.YthpgbhpnlnpfnaaDoor Go.Proofs.YthpgbhpnlnpfnaaDoorW.PrintWords Go.Proofs.YthpgbhpnlnpfnaaDoorW.PrintLast Go.Proofs.YthpgbhpnlnpfnaaDoorW.PrintMore Go.Proofs.YthpgbhpnlnpfnaaDoor.E
set_option linter.unusedSimpArgs false
theorem clamp_val {v : Int} (h0 : 0 ≤ v) (h1 : v ≤ 9007199254740992) : clamp v = v.toNat := by unfold clamp; omega
theorem nx_form {l : List Int} (hb : Bytes l) (h : (nx l).2.2 = 0) : (nx l).2.1.toNat ≤ l.length ∧ 0 ≤ (nx l).1 ∧ (nx l).1 ≤ 9007199254740992 ∧ numB [] (nx l).1 = l.take (nx l).2.1.toNat := by
  revert h; unfold nx
  split
  · intro h; exact absurd h (by decide)
  · rename_i h0
    obtain ⟨b0, b1⟩ := rd_mem hb (i := 0) (by omega) (by omega)
    split
    · intro h; exact absurd h (by decide)
    · split
      · intro h; exact absurd h (by decide)
      · split
        · intro h; exact absurd h (by decide)
        · rename_i h7 hs hz
          split
          · intro h; exact absurd h (by decide)
          · rename_i hf
            intro _
            dsimp only
            obtain ⟨x, r, rfl⟩ : ∃ x r, l = x :: r := by cases l with
              | nil => exact absurd rfl h0
              | cons x r => exact ⟨x, r, rfl⟩
            rw [rd_cons0] at *
            rw [List.drop_one, List.tail_cons] at *
            rw [List.length_cons] at hs
            have hbd : Bytes (r.take x.toNat) := fun y hy => hb y (List.mem_cons_of_mem _ (List.mem_of_mem_take hy))
            have hld : (r.take x.toNat).length = x.toNat := by rw [List.length_take]; omega
            have hv := (val_bound hbd).1
            have hd : dg (val (r.take x.toNat)).toNat = r.take x.toNat := by
              refine dg_val _ _ rfl hbd fun y q hq hy0 => hz ⟨?_, ?_⟩
              · have : (r.take x.toNat).length = q.length + 1 := by rw [hq]; rfl
                omega
              · cases r with
                | nil => rw [List.take_nil] at hq; cases hq
                | cons z r =>
                  rw [rd_cons1]
                  cases hx : x.toNat with
                  | zero => rw [hx, List.take_zero] at hq; cases hq
                  | succ j => rw [hx, List.take_succ_cons] at hq; exact (List.cons.inj hq).1.trans hy0
            refine ⟨by rw [List.length_cons]; omega, hv, by unfold far at hf; omega, ?_⟩
            unfold numB
            rw [clamp_val hv (by unfold far at hf; omega), hd, hld, show (1 + x).toNat = x.toNat + 1 by omega, List.take_succ_cons, List.nil_append, Int.toNat_of_nonneg b0]
theorem num_form {l : List Int} {a b : Int} (hb : Bytes l) (h : (numP l 0 a b).2.2 = 0) : (numP l 0 a b).2.1 ≤ l.length ∧ 0 ≤ (numP l 0 a b).1 ∧ (numP l 0 a b).1 ≤ 9007199254740992 ∧ numB [] (numP l 0 a b).1 = l.take (numP l 0 a b).2.1 := by
  revert h; unfold numP
  rw [if_neg (by omega)]
  split
  · intro h; rename_i h1; exact absurd h h1
  · rename_i h1
    split
    · intro h; exact absurd h (by decide)
    · intro _; exact nx_form hb (by omega)
theorem text_form {l : List Int} {most : Int} (hb : Bytes l) (h : (textP l 0 most).2.2 = 0) : (textP l 0 most).2.1 ≤ l.length ∧ textB [] (textP l 0 most).1 = l.take (textP l 0 most).2.1 ∧ (textP l 0 most).1.length ≤ l.length := by
  revert h; unfold textP
  split
  · intro h; rename_i h1; exact absurd h h1
  · rename_i h1
    obtain ⟨k1, k2, k3, k4⟩ := num_form (a := 0) (b := far) hb (by omega)
    generalize numP l 0 0 far = p at *
    obtain ⟨n, k, e⟩ := p
    dsimp only at *
    split
    · intro h; exact absurd h (by dsimp only; decide)
    · split
      · intro h; exact absurd h (by dsimp only; decide)
      · rename_i h2 h3
        intro _
        dsimp only
        unfold fixP
        rw [List.length_drop] at *
        by_cases hn : n < 1
        · rw [if_pos (.inr hn)]
          dsimp only
          obtain rfl : n = 0 := by omega
          refine ⟨by omega, ?_, Nat.zero_le _⟩
          unfold textB
          rw [List.append_nil, Nat.add_zero]; exact k4
        · rw [if_neg (by omega), if_neg h3]
          dsimp only
          have hl : ((l.drop k).take n.toNat).length = n.toNat := by rw [List.length_take, List.length_drop]; omega
          refine ⟨by omega, ?_, by rw [hl]; omega⟩
          unfold textB
          rw [hl, Int.toNat_of_nonneg k2, k4, List.take_add]
end Go.Proofs.YthpgbhpnlnpfnaaDoor.Law
