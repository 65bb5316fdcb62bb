/- Nodes in memory: what is read of one, a block that holds one; the functions over them. -/
import Derived.Test.YthpgbhpnlnpfnaaDoorRow
import Derived.Test.YthpgbhpnlnpfnaaDoorTy
import Derived.Test.YthpgbhpnlnpfnaaDoorOf
namespace Go.Proofs.YthpgbhpnlnpfnaaDoor.Law
open Go Go.RowKit Go.Proofs.YthpgbhpnlnpfnaaDoor Go.Proofs.YthpgbhpnlnpfnaaDoorW.PrintWords Go.Proofs.YthpgbhpnlnpfnaaDoorW.PrintLast Go.Proofs.YthpgbhpnlnpfnaaDoorW.PrintMore Go.Proofs.YthpgbhpnlnpfnaaDoor.E
set_option linter.unusedSimpArgs false
set_option linter.unusedVariables false
def nV (x : S28) (A2 : Option Addr) (c2 : Nat) (A3 : Option Addr) (c3 : Nat) : List Value := [.string x.f0, .bool x.f1, .slice A2 x.f2.length c2, .slice A3 x.f3.length c3]
/-- what is read of a node -/
structure NC (w : World) (x : S28) (A2 : Option Addr) (c2 : Nat) (A3 : Option Addr) (c3 : Nat) : Prop where
  l2 : x.f2.length ≤ c2
  r2 : (Kd.int .u8).C w A2 x.f2.length x.f2
  l3 : x.f3.length ≤ c3
  r3 : k28.C w A3 x.f3.length x.f3
theorem NC.heap {w w' : World} {x : S28} {A2 : Option Addr} {c2 : Nat} {A3 : Option Addr} {c3 : Nat} (h : NC w x A2 c2 A3 c3) (hb : ∀ k, k < w.heap.size → w'.heap[k]? = w.heap[k]?) : NC w' x A2 c2 A3 c3 :=
  ⟨h.l2, Kd.Heap.C (Kd.heap_int _) hb h.r2, h.l3, Kd.Heap.C heap28 hb h.r3⟩
theorem NC.below {w w' : World} {x : S28} {A2 : Option Addr} {c2 : Nat} {A3 : Option Addr} {c3 : Nat} (h : NC w x A2 c2 A3 c3) (hb : Below w.heap.size w w') : NC w' x A2 c2 A3 c3 := h.heap hb.block
/-- a block that holds a node -/
structure NodeAt (w : World) (g : Nat) (x : S28) (A2 : Option Addr) (c2 : Nat) (A3 : Option Addr) (c3 : Nat) : Prop where
  blk : w.heap[g]? = some (.cells (nV x A2 c2 A3 c3).toArray 28 (0, 0))
  nc : NC w x A2 c2 A3 c3
theorem NodeAt.below {w w' : World} {g : Nat} {x : S28} {A2 : Option Addr} {c2 : Nat} {A3 : Option Addr} {c3 : Nat} (h : NodeAt w g x A2 c2 A3 c3) (hb : Below w.heap.size w w') : NodeAt w' g x A2 c2 A3 c3 := ⟨blk_below h.blk hb, h.nc.below hb⟩
theorem NodeAt.drew {w : World} {g : Nat} {x : S28} {A2 : Option Addr} {c2 : Nat} {A3 : Option Addr} {c3 : Nat} (h : NodeAt w g x A2 c2 A3 c3) : NodeAt w.drew g x A2 c2 A3 c3 := h.below (below_drew (Below.refl _ _))
theorem NodeAt.lt {w : World} {g : Nat} {x : S28} {A2 : Option Addr} {c2 : Nat} {A3 : Option Addr} {c3 : Nat} (h : NodeAt w g x A2 c2 A3 c3) : g < w.heap.size := blk_lt h.blk
theorem NodeAt.c0 {w : World} {g : Nat} {x : S28} {A2 : Option Addr} {c2 : Nat} {A3 : Option Addr} {c3 : Nat} (h : NodeAt w g x A2 c2 A3 c3) : w.cell? ⟨g, 0, none⟩ = some (.string x.f0) := (blk_cell h.blk 0).trans rfl
theorem NodeAt.c1 {w : World} {g : Nat} {x : S28} {A2 : Option Addr} {c2 : Nat} {A3 : Option Addr} {c3 : Nat} (h : NodeAt w g x A2 c2 A3 c3) : w.cell? ⟨g, 1, none⟩ = some (.bool x.f1) := (blk_cell h.blk 1).trans rfl
theorem NodeAt.c2_ {w : World} {g : Nat} {x : S28} {A2 : Option Addr} {c2 : Nat} {A3 : Option Addr} {c3 : Nat} (h : NodeAt w g x A2 c2 A3 c3) : w.cell? ⟨g, 2, none⟩ = some (.slice A2 x.f2.length c2) := (blk_cell h.blk 2).trans rfl
theorem NodeAt.c3_ {w : World} {g : Nat} {x : S28} {A2 : Option Addr} {c2 : Nat} {A3 : Option Addr} {c3 : Nat} (h : NodeAt w g x A2 c2 A3 c3) : w.cell? ⟨g, 3, none⟩ = some (.slice A3 x.f3.length c3) := (blk_cell h.blk 3).trans rfl
theorem NodeAt.fz {w : World} {g : Nat} {x : S28} {A2 : Option Addr} {c2 : Nat} {A3 : Option Addr} {c3 : Nat} (h : NodeAt w g x A2 c2 A3 c3) (j : Nat) : w.frozen? ⟨g, j, none⟩ = false := blk_frozen h.blk j
theorem NodeAt.only {w w' : World} {g g' : Nat} {x : S28} {A2 : Option Addr} {c2 : Nat} {A3 : Option Addr} {c3 : Nat} {B : Nat} (h : NodeAt w g x A2 c2 A3 c3) (ho : Only g' w w') (hne : g ≠ g') (hB : NC w x A2 c2 A3 c3 → NC w' x A2 c2 A3 c3) : NodeAt w' g x A2 c2 A3 c3 :=
  ⟨(ho.block g hne).trans h.blk, hB h.nc⟩
theorem info28s : (Tryd.prog.info? 28).map (·.size) = some 4 := by kernel_rfl
theorem setRow4 {g t : Nat} {w : World} {a b c d a' b' c' d' : Value} (h : w.heap[g]? = some (.cells #[a', b', c', d'] t (0, 0))) : (setRow w g 0 [a, b, c, d] 0).heap[g]? = some (.cells #[a, b, c, d] t (0, 0)) := by
  have h0 := blk_set h 0 a
  have h1 := blk_set h0 1 b
  have h2 := blk_set h1 2 c
  have h3 := blk_set h2 3 d
  exact h3
section
variable {ops : Array Oper} {rest : List Oper} {o : Oper} {a : Act} {w : World} {Q : Exit → Act → World → Prop}
/-- a node is stored over a block of nodes -/
theorem store28 (hgd : o.guard = none) (x y : Operand) (ho : o.op = .store 28 x y) (g : Nat) (hx : a.eval x = .pointer (some ⟨g, 0, none⟩)) (z : S28) (A2 : Option Addr) (c2 : Nat) (A3 : Option Addr) (c3 : Nat) (hy : a.eval y = .agg (nV z A2 c2 A3 c3).toArray)
    {a' b' c' d' : Value} (hb : w.heap[g]? = some (.cells #[a', b', c', d'] 28 (0, 0)))
    (h : ∀ w1 : World, w1.heap[g]? = some (.cells (nV z A2 c2 A3 c3).toArray 28 (0, 0)) → Only g w w1 → wpList Tryd.prog ops Q rest (a.put o.dst undef) w1) : wpList Tryd.prog ops Q (o :: rest) a w := by
  refine wpList_store_row hgd 28 x y ho g 0 hx (nV z A2 c2 A3 c3) hy info28s (fun v hv => ?_) (fun j hj => ?_) (fun j => blk_frozen hb j) ?_
  · simp only [nV, List.mem_cons, List.not_mem_nil, or_false] at hv
    rcases hv with rfl | rfl | rfl | rfl <;> rfl
  · have hj' : j < 4 := hj
    rw [blk_cell hb]
    exact ⟨_, Array.getElem?_eq_getElem (show 0 + j < 4 by omega)⟩
  · exact h _ (setRow4 hb) (Only.setRow (g := g) (off := 0) (nV z A2 c2 A3 c3) 0 w (Only.refl g w))
/-- a node is read out of its block -/
theorem load28 (hgd : o.guard = none) (x : Operand) (ho : o.op = .load 28 x) (g : Nat) (hx : a.eval x = .pointer (some ⟨g, 0, none⟩)) {z : S28} {A2 : Option Addr} {c2 : Nat} {A3 : Option Addr} {c3 : Nat} (hK : NodeAt w g z A2 c2 A3 c3)
    (h : wpList Tryd.prog ops Q rest (a.put o.dst (.agg (nV z A2 c2 A3 c3).toArray)) w) : wpList Tryd.prog ops Q (o :: rest) a w :=
  wpList_load_part hgd 28 x ho g 0 hx (nV z A2 c2 A3 c3) _ (fun j v hv => by rw [Nat.zero_add, blk_cell hK.blk, List.getElem?_toArray, hv]) Tryd.underlying28 rfl info28s h
end
theorem only_NC {w0 w w' : World} {g : Nat} {x : S28} {A2 : Option Addr} {c2 : Nat} {A3 : Option Addr} {c3 : Nat} (h : NC w0 x A2 c2 A3 c3) (hb : Below w0.heap.size w0 w) (ho : Only g w w') (hg : w0.heap.size ≤ g) : NC w' x A2 c2 A3 c3 :=
  h.heap fun k hk => (ho.block k (by omega)).trans (hb.block k hk)
/-! the functions -/
theorem rootNC (w : World) : NC w ⟨⟨#[]⟩, true, [], []⟩ none 0 none 0 := ⟨Nat.le_refl _, Kd.C_nil _ _, Nat.le_refl _, Kd.C_nil _ _⟩
/-- a folder without a name -/
theorem root_w (w : World) : Calls Tryd.prog 20 #[] w fun e w' => ∃ (A2 A3 : Option Addr) (c2 c3 : Nat), e = .returned (.agg #[.string ⟨#[]⟩, .bool true, .slice A2 0 c2, .slice A3 0 c3]) ∧ Below w.heap.size w w' := by
  refine (hypogeumlaw21_root.calls ⟨#[]⟩ true [] [] w rfl).mono ?_
  rintro e w' ⟨v2, v3, rfl, h2, h3, hb⟩
  obtain ⟨A2, c2, rfl⟩ := Kd.R_slice h2
  obtain ⟨A3, c3, rfl⟩ := Kd.R_slice h3
  exact ⟨A2, A3, c2, c3, rfl, hb⟩
theorem C_zero {α : Type} (d : Kd α) (w : World) (A : Option Addr) : Kd.C d w A ([] : List α).length [] := ⟨rfl, by simp, fun h => absurd h (by simp)⟩
def TreeOf (l : List S56) (x : S28) : Prop := (wtN x ≤ 140737488354300 ∧ cN x ≤ 101) ∧ ∀ k, 202 ≤ k → hypogeumlaw21_tree.f k ⟨#[]⟩ true [] [] l = some (x.f0, x.f1, x.f2, x.f3)
theorem tree_of {l : List S56} (hB : Fits l) (hl : l.length ≤ 100) (hs : sF l ≤ 20000) : ∃ x, TreeOf l x := by
  obtain ⟨r, ⟨hr, hc⟩, ht⟩ := tree_run ⟨#[]⟩ true l hl (fun x hx => by have := (hB x hx).2; omega)
  have hw := few_wt hB hl hs
  refine ⟨⟨⟨#[]⟩, true, [], r⟩, ⟨?_, ?_⟩, ht⟩
  · simp only [wtN, List.length_nil]
    have : (⟨#[]⟩ : ByteArray).size = 0 := rfl
    omega
  · simp only [cN]; omega
theorem tree_w {A : Option Addr} {n c : Nat} {l : List S56} {w : World} {x : S28} (h : FlatAt w A n c l) (hx : TreeOf l x) (A2 A3 : Option Addr) (c2 c3 : Nat) :
    Calls Tryd.prog 13 #[.agg #[.string ⟨#[]⟩, .bool true, .slice A2 0 c2, .slice A3 0 c3], .slice A n c] w fun e w' => ∃ (B2 : Option Addr) (d2 : Nat) (B3 : Option Addr) (d3 : Nat), e = .returned (.agg #[.string x.f0, .bool x.f1, .slice B2 x.f2.length d2, .slice B3 x.f3.length d3]) ∧ NC w' x B2 d2 B3 d3 ∧ Below w.heap.size w w' := by
  obtain ⟨rfl, hc, hl, hB⟩ := h
  refine (hypogeumlaw21_tree.calls 202 ⟨#[]⟩ true A2 c2 [] A3 c3 [] A c l x.f0 x.f1 x.f2 x.f3 w (C_zero _ _ _) (Nat.zero_le _) (C_zero _ _ _) (Nat.zero_le _) hc hl (hx.2 202 (Nat.le_refl _))).mono ?_
  rintro e w' ⟨v2, v3, rfl, h2, h3, hb⟩
  obtain ⟨B2, d2, rfl⟩ := Kd.R_slice h2
  obtain ⟨B3, d3, rfl⟩ := Kd.R_slice h3
  exact ⟨B2, d2, B3, d3, rfl, ⟨(Kd.R_reads' h2).2.1, (Kd.R_reads' h2).2.2, (Kd.R_reads' h3).2.1, (Kd.R_reads' h3).2.2⟩, hb⟩
theorem FlatAt.below {w w' : World} {A : Option Addr} {n c : Nat} {l : List S56} (h : FlatAt w A n c l) (hb : Below w.heap.size w w') : FlatAt w' A n c l := ⟨h.1, Kd.C_below h.2.1 hb, h.2.2.1, h.2.2.2⟩
theorem text_w {x : S28} {A2 : Option Addr} {c2 : Nat} {A3 : Option Addr} {c3 : Nat} {w : World} (h : NC w x A2 c2 A3 c3) (hw : wtN x ≤ 140737488355000) {t : ByteArray} (ht : bl (encN x) = t) :
    Calls Tryd.prog 21 #[.agg #[.string x.f0, .bool x.f1, .slice A2 x.f2.length c2, .slice A3 x.f3.length c3]] w fun e w' => e = .returned (.string t) ∧ Below w.heap.size w w' := by
  subst ht
  obtain ⟨K, hK⟩ := text_run _ x (Nat.le_refl _) hw
  exact hypogeumref21_Text.calls K x.f0 x.f1 A2 c2 x.f2 A3 c3 x.f3 _ w h.r2 h.l2 h.r3 h.l3 (hK K (Nat.le_refl _))
theorem awake_w (w : World) : Calls Tryd.prog 12 #[] w fun e w' => e = .returned (.bool true) ∧ Below w.heap.size w w' := hypogeumlaw21_awake.calls 41 true w (awake_f 41 (Nat.le_refl _))
noncomputable def fewB (l : List S56) : Bool := Classical.choose (few_f l)
theorem few_spec (l : List S56) : (∀ k, 102 ≤ k → hypogeumlaw21_few.f k l = some (fewB l)) ∧ (fewB l = true → l.length ≤ 100 ∧ sF l ≤ 20000) := Classical.choose_spec (few_f l)
theorem few_w {A : Option Addr} {n c : Nat} {l : List S56} {w : World} (h : FlatAt w A n c l) {b : Bool} (hb : fewB l = b) : Calls Tryd.prog 11 #[.slice A n c] w fun e w' => e = .returned (.bool b) ∧ Below w.heap.size w w' := by
  obtain ⟨rfl, hc, hl, hB⟩ := h
  subst hb
  exact hypogeumlaw21_few.calls 102 A c l _ w hc hl ((few_spec l).1 102 (Nat.le_refl _))
end Go.Proofs.YthpgbhpnlnpfnaaDoor.Law
