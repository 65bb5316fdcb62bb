/- Lengths: how many bytes each chunk has: the walk of a loop that ranges over Pieces. -/
import Derived.Test.YtkaabkoadoomjaaPc
import Derived.Maps.AppendAt
namespace Go.Proofs.Ytkaabkoadoomjaa.Law
open Go.RowKit Go.Proofs.Ytkaabkoadoomjaa Go.Proofs.Ytkaabkoadoomjaa.D Go.Proofs.Ytkaabkoadoomjaa.Roll Go.Proofs.YtkaabkoadoomjaaW.PrintWords Go.Proofs.YtkaabkoadoomjaaW.PrintLast Go.Proofs.YtkaabkoadoomjaaW.PrintMore
set_option linter.unusedSimpArgs false
set_option linter.unusedVariables false
attribute [local go_sem] Oper.semAt_some
theorem info3 : (Try.prog.info? 3).map (fun i => (i.zero, i.size, i.bytes)) = some (some (.int .i64 0), 1, 8) := by kernel_rfl
/-- which blocks a row of the loop's may be -/
def LOk (kb rb go l D g1 q : Nat) : Prop := q ≠ kb ∧ q ≠ rb ∧ q ≠ go ∧ q ≠ l ∧ q ≠ D ∧ q ≠ g1
/-- between two rounds -/
structure LJ (w : World) (go D l g1 : Nat) (rec : Loop) (kb rb : Nat) (pre : List Int) (W : World) : Prop where
  box : ∃ V, W.heap[go]? = some (.cells #[V] 28 (0, 0)) ∧ Kd.R (Kd.int .i64) 3 W w.heap.size (LOk kb rb go l D g1) V pre
  loop : W.heap[l]? = some (.loop rec)
  def_ : W.heap[D]? = some (.deferred (some []))
  bel : Below w.heap.size w W
  hkb : w.heap.size ≤ kb ∧ kb ≠ go ∧ kb ≠ l ∧ kb ≠ D
  hrb : w.heap.size ≤ rb ∧ rb ≠ go ∧ rb ≠ l ∧ rb ≠ D
theorem LJ.step {w : World} {go D l g1 : Nat} {rec : Loop} {kb rb : Nat} {pre : List Int} {W W' : World} (h : LJ w go D l g1 rec kb rb pre W) (ho : Only2 kb rb W W') : LJ w go D l g1 rec kb rb pre W' := by
  obtain ⟨V, hb, hr⟩ := h.box
  exact ⟨⟨V, (ho.block go (Ne.symm h.hkb.2.1) (Ne.symm h.hrb.2.1)).trans hb, Kd.R_step hr (fun q hq _ => ho.block q hq.1 hq.2.1)⟩, (ho.block l (Ne.symm h.hkb.2.2.1) (Ne.symm h.hrb.2.2.1)).trans h.loop, (ho.block D (Ne.symm h.hkb.2.2.2) (Ne.symm h.hrb.2.2.2)).trans h.def_, h.bel.trans (ho.below h.hkb.1 h.hrb.1), h.hkb, h.hrb⟩
theorem LJ.new {w : World} {go D l g1 : Nat} {rec : Loop} {kb rb : Nat} {pre : List Int} {W W' : World} (h : LJ w go D l g1 rec kb rb pre W) (hb : Below W.heap.size W W') : LJ w go D l g1 rec kb rb pre W' := by
  obtain ⟨V, hx, hr⟩ := h.box
  exact ⟨⟨V, blk_below hx hb, Kd.R_below hr hb⟩, (hb.block l (Array.getElem?_eq_some_iff.1 h.loop).1).trans h.loop, (hb.block D (Array.getElem?_eq_some_iff.1 h.def_).1).trans h.def_, below_step h.bel hb, h.hkb, h.hrb⟩
theorem own_ne {w W : World} {kb rb go l D g1 : Nat} {V : Value} {pre : List Int} (hr : Kd.R (Kd.int .i64) 3 W w.heap.size (LOk kb rb go l D g1) V pre) : some go ≠ V.ownBlock ∧ some l ≠ V.ownBlock ∧ some D ≠ V.ownBlock ∧ some kb ≠ V.ownBlock ∧ some rb ≠ V.ownBlock ∧ some g1 ≠ V.ownBlock :=
  ⟨fun e => (hr.1 _ e.symm).2.2.1 rfl, fun e => (hr.1 _ e.symm).2.2.2.1 rfl, fun e => (hr.1 _ e.symm).2.2.2.2.1 rfl, fun e => (hr.1 _ e.symm).1 rfl, fun e => (hr.1 _ e.symm).2.1 rfl, fun e => (hr.1 _ e.symm).2.2.2.2.2 rfl⟩
/-- a round's turn of the world: the row is longer by one -/
theorem LJ.turn {w : World} {go D l g1 : Nat} {rec : Loop} {kb rb : Nat} {pre : List Int} {W w1 : World} {o1 X : Obj} {V v' : Value} {n : Int} (h : LJ w go D l g1 rec kb rb pre W) (hbox : W.heap[go]? = some (.cells #[V] 28 (0, 0))) (hr : Kd.R (Kd.int .i64) 3 W w.heap.size (LOk kb rb go l D g1) V pre)
    (hgl : go ≠ l) (hDl : D ≠ l) (hDg : D ≠ go) (hwl : w.heap.size ≤ l) (hwg : w.heap.size ≤ go) (hk : kb < W.heap.size) (hrk : rb < W.heap.size) (hg1 : g1 < W.heap.size) (hg1g : g1 ≠ go) (hg1l : g1 ≠ l)
    (hown : w1.ownsRow w.heap.size 3 1 v' (pre.length + 1) (encs (Value.int .i64) pre ++ [.int .i64 n])) (hg : ((W.putObj l o1).alloc X).grownBy w1 V.ownBlock) (hat : v'.ownBlock = V.ownBlock ∨ ∃ q, v'.ownBlock = some q ∧ W.heap.size ≤ q) :
    LJ w go D l g1 rec kb rb (pre ++ [n]) ((w1.setCell ⟨go, 0, none⟩ v').putObj l (.loop rec)) ∧
      (∀ q, q < W.heap.size → q ≠ go → q ≠ l → some q ≠ V.ownBlock → ((w1.setCell ⟨go, 0, none⟩ v').putObj l (.loop rec)).heap[q]? = W.heap[q]?) := by
  obtain ⟨n1, n2, n3, n4, n5, n6⟩ := own_ne hr
  have hlW := (Array.getElem?_eq_some_iff.1 h.loop).1
  have hgW := (Array.getElem?_eq_some_iff.1 hbox).1
  have hDW := (Array.getElem?_eq_some_iff.1 h.def_).1
  have hsz : ((W.putObj l o1).alloc X).heap.size = W.heap.size + 1 := by rw [World.size_alloc, World.putObj_size]
  -- what the alloc and the append keep
  have keep1 : ∀ q, q < W.heap.size → q ≠ l → some q ≠ V.ownBlock → w1.heap[q]? = W.heap[q]? := fun q hq hql hqv => by
    refine (hg.block q (by rw [hsz]; omega) hqv).trans ?_
    exact (Below.heap_alloc _ _ _ (by rw [World.putObj_size]; exact hq)).trans (World.putObj_heap_other hql)
  have keep2 : ∀ q, q ≠ go → (w1.setCell ⟨go, 0, none⟩ v').heap[q]? = w1.heap[q]? := fun q hq => Below.heap_setCell w1 ⟨go, 0, none⟩ v' q hq
  have keep : ∀ q, q < W.heap.size → q ≠ go → q ≠ l → some q ≠ V.ownBlock → ((w1.setCell ⟨go, 0, none⟩ v').putObj l (.loop rec)).heap[q]? = W.heap[q]? := fun q hq hqg hql hqv =>
    (World.putObj_heap_other hql).trans ((keep2 q hqg).trans (keep1 q hq hql hqv))
  have hsz1 : W.heap.size < w1.heap.size := by have := hg.size; rw [hsz] at this; omega
  have hsz2 : (w1.setCell ⟨go, 0, none⟩ v').heap.size = w1.heap.size := by show (w1.heap.modify _ _).size = _; rw [Array.size_modify]
  have hgo1 : w1.heap[go]? = some (.cells #[V] 28 (0, 0)) := (keep1 go hgW hgl n1).trans hbox
  have hb1 : Below w.heap.size w ((w1.setCell ⟨go, 0, none⟩ v').putObj l (.loop rec)) := by
    have b0 : Below w.heap.size W ((W.putObj l o1).alloc X) := (belowK_b (w := w) (Nat.le_refl _) W l _ o1 hwl h.loop rfl rfl).alloc (by rw [World.putObj_size]; exact h.bel.size) X
    have b1 : Below w.heap.size W w1 := b0.grown hg (by rw [hsz]; have := h.bel.size; omega) (fun q hq => own_base (Kd.own_of_R hr) q hq)
    have b2 : Below w.heap.size W (w1.setCell ⟨go, 0, none⟩ v') := b1.setCell hwg _
    have hl2 : (w1.setCell ⟨go, 0, none⟩ v').heap[l]? ≠ none := by
      rw [Array.getElem?_eq_getElem (by rw [hsz2]; omega)]; exact Option.some_ne_none _
    refine h.bel.trans (b2.grown (grownBy_putObj' _ l _) ?_ (fun q hq => by cases hq; exact hwl))
    rw [hsz2]; have := h.bel.size; omega
  refine ⟨⟨⟨v', ?_, ?_⟩, World.putObj_heap_same (by rw [hsz2]; omega), ?_, hb1, h.hkb, h.hrb⟩, keep⟩
  · exact (World.putObj_heap_other hgl).trans (blk_put hgo1 0 v' rfl)
  · have hok : ∀ q, v'.ownBlock = some q → LOk kb rb go l D g1 q := fun q hq => by
      rcases hat with e | ⟨q', e, hq'⟩
      · exact hr.1 q (e ▸ hq)
      · rw [e] at hq
        cases hq
        exact ⟨by omega, by omega, by omega, by omega, by omega, by omega⟩
    have h0 : Kd.R (Kd.int .i64) 3 w1 w.heap.size (LOk kb rb go l D g1) v' (pre ++ [n]) := Kd.R_of_own (by rw [List.length_append, encs_append]; exact hown) hok
    exact Kd.R_step h0 (fun q hq _ => (World.putObj_heap_other hq.2.2.2.1).trans (keep2 q hq.2.2.1))
  · exact (keep D hDW hDg hDl n3).trans h.def_
end Go.Proofs.Ytkaabkoadoomjaa.Law
