/- A node's copy, in memory of its own. -/
import Derived.Test.YthpgbhpnlnpfnaaDoorKw
import Derived.Test.YthpgbhpnlnpfnaaDoorTc
namespace Go.Proofs.YthpgbhpnlnpfnaaDoor.Law
open Go Go.RowKit Go.Proofs.YthpgbhpnlnpfnaaDoor Go.Proofs.YthpgbhpnlnpfnaaDoorW.PrintWords Go.Proofs.YthpgbhpnlnpfnaaDoorW.PrintLast Go.Proofs.YthpgbhpnlnpfnaaDoorW.PrintMore Go.Proofs.YthpgbhpnlnpfnaaDoor.E
set_option linter.unusedSimpArgs false
set_option linter.unusedVariables false
theorem own_foot {α : Type} {d : Kd α} {e : Nat} {W : World} {base g : Nat} {ok : Nat → Prop} {A : Option Addr} {n c : Nat} {xs : List α} (h : d.R e W base ok (.slice A n c) xs) (hg : g < base) : ∀ W', KeepBut W W' g none → d.C W' A n xs :=
  Kd.C_foot_own (ok := fun k => ok k ∧ base ≤ k ∧ k < W.heap.size ∧ ∃ q, q ∈ e :: d.E ∧ ∃ cells, W.heap[k]? = some (.cells cells q (0, 0))) (Kd.R_bound h) (fun k hk => by have := hk.2.1; omega)
theorem BytesOK.only {w w' : World} {base g : Nat} {A : Option Addr} {l : Nat} (h : BytesOK w base A l) (ho : Only g w w') (hg : g < base) : BytesOK w' base A l := by
  rcases h with h | ⟨gb, bs, rfl, hb, hc, hi⟩
  · exact .inl h
  · exact .inr ⟨gb, bs, rfl, hb, (ho.block gb (by omega)).trans hc, hi⟩
theorem BytesOK.lower {w : World} {base base' : Nat} {A : Option Addr} {l : Nat} (h : BytesOK w base A l) (hb : base' ≤ base) : BytesOK w base' A l := by
  rcases h with h | ⟨gb, bs, rfl, hb', hc, hi⟩
  · exact .inl h
  · exact .inr ⟨gb, bs, rfl, by omega, hc, hi⟩
theorem KidsOK.only {w w' : World} {base gk n i0 g : Nat} (h : KidsOK w base gk n i0) (hk : base ≤ gk) (ho : Only g w w') (hg : g < base) : KidsOK w' base gk n i0 := by
  obtain ⟨cs, hc, hi⟩ := h
  refine ⟨cs, (ho.block gk (by omega)).trans hc, fun i hi' => ?_⟩
  obtain ⟨h1, A, l, c, h2, h3, h4⟩ := hi i hi'
  exact ⟨h1, A, l, c, h2, h3.only ho hg, h4⟩
theorem KidsOK.lower {w : World} {base base' gk n i0 : Nat} (h : KidsOK w base gk n i0) (hb : base' ≤ base) : KidsOK w base' gk n i0 := by
  obtain ⟨cs, hc, hi⟩ := h
  refine ⟨cs, hc, fun i hi' => ?_⟩
  obtain ⟨h1, A, l, c, h2, h3, h4⟩ := hi i hi'
  exact ⟨h1, A, l, c, h2, h3.lower hb, h4⟩
/-- a node in memory of its own, from base on -/
structure OwnN (w : World) (base : Nat) (x : S28) (B2 : Option Addr) (d2 : Nat) (B3 : Option Addr) (d3 : Nat) : Prop where
  nc : NC w x B2 d2 B3 d3
  by_ : BytesOK w base B2 x.f2.length
  kids : 0 < x.f3.length → ∃ gk, B3 = some ⟨gk, 0, none⟩ ∧ base ≤ gk ∧ KidsOK w base gk x.f3.length 0
theorem copy_own {x : S28} {A2 : Option Addr} {c2 : Nat} {A3 : Option Addr} {c3 : Nat} {w : World} (h : NC w x A2 c2 A3 c3) (hw : wtN x ≤ 140737488355000) (hn : cN x ≤ 1000) :
    Calls Tryd.prog 22 #[.agg #[.string x.f0, .bool x.f1, .slice A2 x.f2.length c2, .slice A3 x.f3.length c3]] w fun e w' => ∃ (B2 : Option Addr) (d2 : Nat) (B3 : Option Addr) (d3 : Nat), e = .returned (.agg #[.string x.f0, .bool x.f1, .slice B2 x.f2.length d2, .slice B3 x.f3.length d3]) ∧
      (∀ g W', g < w.heap.size → Only g w' W' → OwnN W' w.heap.size x B2 d2 B3 d3) ∧ Below w.heap.size w w' := by
  obtain ⟨K, hK⟩ := copy_run _ x (Nat.le_refl _) (by omega) hn
  refine (node_Copy.calls K x.f0 x.f1 A2 c2 x.f2 A3 c3 x.f3 _ _ _ _ w h.r2 h.l2 h.r3 h.l3 (hK K (Nat.le_refl _))).mono ?_
  rintro e w' ⟨v2, v3, rfl, h2, h3, hb⟩
  obtain ⟨B2, d2, rfl⟩ := Kd.R_slice h2
  obtain ⟨B3, d3, rfl⟩ := Kd.R_slice h3
  have hw3 : wtL x.f3 ≤ 140737488355328 := by
    have : wtL x.f3 ≤ wtN x := by obtain ⟨a, b, c, d⟩ := x; simp only [wtN]; omega
    omega
  refine ⟨B2, d2, B3, d3, rfl, fun g W' hg ho => ?_, hb⟩
  have hk : KeepBut w' W' g none := ⟨by rw [ho.size]; exact Nat.le_refl _, fun i _ hi _ => ho.block i hi⟩
  refine ⟨⟨(Kd.R_reads' h2).2.1, own_foot h2 hg W' hk, (Kd.R_reads' h3).2.1, own_foot h3 hg W' hk⟩, (BytesOK.of_R h2).only ho hg, fun hp => ?_⟩
  obtain ⟨gk, bs, rfl, hgk, hc⟩ := own_cells h3 hp
  exact ⟨gk, rfl, hgk, (KidsOK.of_R h3 hp hw3).only hgk ho hg⟩
end Go.Proofs.YthpgbhpnlnpfnaaDoor.Law
