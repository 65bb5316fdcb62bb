/- Rows of a call's own that are written: what stays true of them while they are (coarsely), and what lies elsewhere stays. -/
import Derived.Test.YthpgbhpnlnpfnaaDoorMm
namespace Go.Proofs.YthpgbhpnlnpfnaaDoor.Law
open Go Go.RowKit Go.Proofs.YthpgbhpnlnpfnaaDoor Go.Proofs.YthpgbhpnlnpfnaaDoorW.PrintWords Go.Proofs.YthpgbhpnlnpfnaaDoorW.PrintLast Go.Proofs.YthpgbhpnlnpfnaaDoorW.PrintMore Go.Proofs.YthpgbhpnlnpfnaaDoor.E
set_option linter.unusedSimpArgs false
set_option linter.unusedVariables false
/-- bytes of the call's own -/
def BytesOK (w : World) (base : Nat) (A : Option Addr) (l : Nat) : Prop :=
  l = 0 ∨ ∃ gb bs, A = some ⟨gb, 0, none⟩ ∧ base ≤ gb ∧ w.heap[gb]? = some (.cells bs 5 (0, 0)) ∧ ∀ j, j < l → ∃ z, bs[j]? = some (.int .u8 z)
theorem own_cells {α : Type} {d : Kd α} {e : Nat} {w : World} {base : Nat} {ok : Nat → Prop} {A : Option Addr} {n c : Nat} {xs : List α} (h : d.R e w base ok (.slice A n c) xs) (hp : 0 < n) :
    ∃ g bs, A = some ⟨g, 0, none⟩ ∧ base ≤ g ∧ w.heap[g]? = some (.cells bs e (0, 0)) := by
  have hn := (Kd.R_reads' h).1
  obtain ⟨g, cap, he, hb, _, cells, hc⟩ := Kd.R_form h (by omega)
  injection he with he _ _
  exact ⟨g, cells, he, hb, hc⟩
theorem BytesOK.of_R {w : World} {base : Nat} {ok : Nat → Prop} {A : Option Addr} {n c : Nat} {xs : List Int} (h : (Kd.int .u8).R 5 w base ok (.slice A n c) xs) : BytesOK w base A n := by
  by_cases hp : 0 < n
  · obtain ⟨g, bs, rfl, hb, hc⟩ := own_cells h hp
    refine .inr ⟨g, bs, rfl, hb, hc, fun j hj => ?_⟩
    obtain ⟨hn, _, hC⟩ := Kd.R_reads' h
    obtain ⟨ad, e, hr⟩ := hC.2.2 (by omega)
    injection e with e; subst e
    obtain ⟨c1, h1, h2, h3⟩ := hr j _ (List.getElem?_eq_getElem (show j < xs.length by omega))
    obtain ⟨v, hv⟩ : ∃ v, c1[0]? = some v := ⟨c1[0]'(by rw [h1]; exact Nat.one_pos), List.getElem?_eq_getElem _⟩
    have h4 := h3 0 v hv
    have e1 : c1 = [Value.int .u8 xs[j]] := h2
    rw [e1] at hv
    obtain rfl := Option.some.inj hv
    have e2 : ((⟨g, 0, none⟩ : Addr).add (j * (Kd.int .u8).sz + 0)) = ⟨g, j, none⟩ := by
      rw [add_plain]; congr 1; show j * 1 + 0 = j; omega
    rw [e2, blk_cell hc] at h4
    exact ⟨_, h4⟩
  · exact .inl (by omega)
theorem BytesOK.setInt {w : World} {base : Nat} {A : Option Addr} {l : Nat} (h : BytesOK w base A l) {g : Nat} {cs : Array Value} (hg : w.heap[g]? = some (.cells cs 5 (0, 0))) (j : Nat) (z : Int) : BytesOK (w.setCell ⟨g, j, none⟩ (.int .u8 z)) base A l := by
  rcases h with h | ⟨gb, bs, rfl, hb, hc, hi⟩
  · exact .inl h
  · by_cases e : gb = g
    · subst e
      refine .inr ⟨gb, _, rfl, hb, blk_set hc j _, fun i hi' => ?_⟩
      obtain ⟨z0, hz⟩ := hi i hi'
      have hlt : i < bs.size := (Array.getElem?_eq_some_iff.1 hz).1
      by_cases e2 : j = i
      · subst e2
        exact ⟨z, by rw [Array.getElem?_setIfInBounds_self_of_lt hlt]⟩
      · exact ⟨z0, by rw [Array.getElem?_setIfInBounds_ne e2]; exact hz⟩
    · exact .inr ⟨gb, bs, rfl, hb, blk_far hc (p := ⟨g, j, none⟩) e _, hi⟩
theorem BytesOK.far {w : World} {base : Nat} {A : Option Addr} {l : Nat} (h : BytesOK w base A l) {g t : Nat} {cs : Array Value} (hg : w.heap[g]? = some (.cells cs t (0, 0))) (ht : t ≠ 5) (j : Nat) (v : Value) : BytesOK (w.setCell ⟨g, j, none⟩ v) base A l := by
  rcases h with h | ⟨gb, bs, rfl, hb, hc, hi⟩
  · exact .inl h
  · exact .inr ⟨gb, bs, rfl, hb, blk_far hc (p := ⟨g, j, none⟩) (blk_ne hc hg (Ne.symm ht)) v, hi⟩
theorem BytesOK.below {w w' : World} {base : Nat} {A : Option Addr} {l : Nat} (h : BytesOK w base A l) (hb : Below w.heap.size w w') : BytesOK w' base A l := by
  rcases h with h | ⟨gb, bs, rfl, hb', hc, hi⟩
  · exact .inl h
  · exact .inr ⟨gb, bs, rfl, hb', blk_below hc hb, hi⟩
/-- nodes of the call's own, in one row: names from i0 on are short enough, and bytes -/
def KidsOK (w : World) (base gk n i0 : Nat) : Prop :=
  ∃ cs : Array Value, w.heap[gk]? = some (.cells cs 28 (0, 0)) ∧ ∀ i, i < n → (∃ s, cs[i * 4]? = some (.string s) ∧ (i0 ≤ i → s.size ≤ 140737488355328)) ∧ ∃ A l c, cs[i * 4 + 2]? = some (.slice A l c) ∧ BytesOK w base A l ∧ l ≤ 140737488355328
theorem name_wt (x : S28) : x.f0.size ≤ wtN x ∧ x.f2.length ≤ wtN x := by obtain ⟨a, b, c, d⟩ := x; simp only [wtN]; omega
theorem KidsOK.of_R {w : World} {base : Nat} {ok : Nat → Prop} {gk n c : Nat} {ks : List S28} (h : k28.R 28 w base ok (.slice (some ⟨gk, 0, none⟩) n c) ks) (hp : 0 < n) (hw : wtL ks ≤ 140737488355328) : KidsOK w base gk n 0 := by
  obtain ⟨g, bs, e, hb, hc⟩ := own_cells h hp
  injection e with e; injection e with e _ _; subst e
  have hn := (Kd.R_reads' h).1
  refine ⟨bs, hc, fun i hi => ?_⟩
  obtain ⟨c1, h1, hM, hcell, _⟩ := Kd.R_elem h z28 (i : Int) (by omega) (by omega)
  rw [Int.toNat_natCast] at hM hcell
  have hx : ks.getD i z28 = ks[i]'(by omega) := by rw [List.getD_eq_getElem?_getD, List.getElem?_eq_getElem (by omega)]; rfl
  rw [hx] at hM
  have hwi := wtN_mem ks _ (List.getElem_mem (show i < ks.length by omega))
  have hnw := name_wt (ks[i]'(by omega))
  obtain ⟨v2, v3, ec, h2, _⟩ := k28_openM hM
  obtain ⟨A2, q2, ev⟩ := Kd.R_slice h2
  rw [ev] at ec h2
  have a0 := hcell 0 _ (by rw [ec]; rfl)
  have a2 := hcell 2 _ (by rw [ec]; rfl)
  rw [blk_cell hc] at a0 a2
  exact ⟨⟨_, a0, fun _ => by omega⟩, _, _, _, a2, BytesOK.of_R h2, by omega⟩
theorem KidsOK.setInt {w : World} {base gk n i0 : Nat} (h : KidsOK w base gk n i0) {g : Nat} {bs : Array Value} (hg : w.heap[g]? = some (.cells bs 5 (0, 0))) (j : Nat) (z : Int) : KidsOK (w.setCell ⟨g, j, none⟩ (.int .u8 z)) base gk n i0 := by
  obtain ⟨cs, hc, hi⟩ := h
  refine ⟨cs, blk_far hc (p := ⟨g, j, none⟩) (blk_ne hc hg (by decide)) _, fun i hi' => ?_⟩
  obtain ⟨h1, A, l, c, h2, h3, h4⟩ := hi i hi'
  exact ⟨h1, A, l, c, h2, h3.setInt hg j z, h4⟩
theorem KidsOK.setStr {w : World} {base gk n i0 : Nat} (h : KidsOK w base gk n i0) (s : ByteArray) : KidsOK (w.setCell ⟨gk, i0 * 4, none⟩ (.string s)) base gk n (i0 + 1) := by
  obtain ⟨cs, hc, hi⟩ := h
  refine ⟨_, blk_set hc (i0 * 4) _, fun i hi' => ?_⟩
  obtain ⟨⟨s0, h1, h1'⟩, A, l, c, h2, h3, h4⟩ := hi i hi'
  refine ⟨?_, A, l, c, ?_, h3.far hc (by decide) _ _, h4⟩
  · by_cases e : i = i0
    · subst e
      have hlt : i * 4 < cs.size := (Array.getElem?_eq_some_iff.1 h1).1
      exact ⟨s, by rw [Array.getElem?_setIfInBounds_self_of_lt hlt], fun h => by omega⟩
    · exact ⟨s0, by rw [Array.getElem?_setIfInBounds_ne (by omega)]; exact h1, fun h => h1' (by omega)⟩
  · rw [Array.getElem?_setIfInBounds_ne (by omega)]; exact h2
theorem KidsOK.below {w w' : World} {base gk n i0 : Nat} (h : KidsOK w base gk n i0) (hb : Below w.heap.size w w') : KidsOK w' base gk n i0 := by
  obtain ⟨cs, hc, hi⟩ := h
  refine ⟨cs, blk_below hc hb, fun i hi' => ?_⟩
  obtain ⟨h1, A, l, c, h2, h3, h4⟩ := hi i hi'
  exact ⟨h1, A, l, c, h2, h3.below hb, h4⟩
theorem KidsOK.name {w : World} {base gk n i0 : Nat} (h : KidsOK w base gk n i0) (hi : i0 < n) : ∃ s, w.cell? ⟨gk, i0 * 4, none⟩ = some (.string s) ∧ s.size ≤ 140737488355328 := by
  obtain ⟨cs, hc, hi'⟩ := h
  obtain ⟨⟨s, h1, h2⟩, _⟩ := hi' i0 hi
  exact ⟨s, by rw [blk_cell hc]; exact h1, h2 (Nat.le_refl _)⟩
theorem KidsOK.bytes {w : World} {base gk n i0 : Nat} (h : KidsOK w base gk n i0) {i : Nat} (hi : i < n) : ∃ A l c, w.cell? ⟨gk, i * 4 + 2, none⟩ = some (.slice A l c) ∧ BytesOK w base A l ∧ l ≤ 140737488355328 := by
  obtain ⟨cs, hc, hi'⟩ := h
  obtain ⟨_, A, l, c, h1, h2, h3⟩ := hi' i hi
  exact ⟨A, l, c, by rw [blk_cell hc]; exact h1, h2, h3⟩
theorem KidsOK.blk {w : World} {base gk n i0 : Nat} (h : KidsOK w base gk n i0) : ∃ cs, w.heap[gk]? = some (.cells cs 28 (0, 0)) := by
  obtain ⟨cs, hc, _⟩ := h
  exact ⟨cs, hc⟩
theorem set_below {B : Nat} {w0 w : World} (h : Below B w0 w) {g j : Nat} (hg : B ≤ g) (v : Value) : Below B w0 (w.setCell ⟨g, j, none⟩ v) := h.setCell hg v
end Go.Proofs.YthpgbhpnlnpfnaaDoor.Law
