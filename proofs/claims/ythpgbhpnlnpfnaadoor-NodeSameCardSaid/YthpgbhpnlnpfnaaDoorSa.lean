/- NodeSame: the walk. -/
import Derived.Test.YthpgbhpnlnpfnaaDoorMm
namespace Go.Proofs.YthpgbhpnlnpfnaaDoor.Law
open Go Go.RowKit Go.Proofs.YthpgbhpnlnpfnaaDoor Go.Proofs.YthpgbhpnlnpfnaaDoorW.PrintWords Go.Proofs.YthpgbhpnlnpfnaaDoorW.PrintLast Go.Proofs.YthpgbhpnlnpfnaaDoorW.PrintMore Go.Proofs.YthpgbhpnlnpfnaaDoor.E
set_option linter.unusedSimpArgs false
set_option linter.unusedVariables false
theorem same_text {x y : S28} (hx : wtN x ≤ 140737488355000) (hy : wtN y ≤ 140737488355000) : ((bl (encN x)).toList == (bl (encN y)).toList) = sameN x y := by
  have h := enc_iff (x := x) (y := y) (by omega) (by omega)
  rw [Lib.toList_data, Lib.toList_data]
  show (encN x == encN y) = _
  rw [Bool.eq_iff_iff, beq_iff_eq]; exact h
set_option maxHeartbeats 8000000 in
set_option maxRecDepth 100000 in
theorem same_walk (A0 : Option Addr) (n0 c0 : Nat) (l0 : List S56) (A1 : Option Addr) (n1 c1 : Nat) (l1 : List S56) (w : World) (h0 : FlatAt w A0 n0 c0 l0) (h1 : FlatAt w A1 n1 c1 l1) :
    Calls Tryd.prog 6 #[.slice A0 n0 c0, .slice A1 n1 c1] w fun e w' => e = .returned (.bool true) ∧ Below w.heap.size w w' := by
  have F0 := Aside0.mk h0
  have F1 := Aside0.mk h1
  have HB := Aside0.mk (Below.refl w.heap.size w)
  clear h0 h1
  cases hf0 : fewB l0 with
  | false =>
    have HF0 := Aside0.mk hf0
    clear hf0
    go_enter Tryd.func6, Tryd.ntmps6
    go_wp2_with (first | (go_at_call 11; (with_reducible refine (few_w (F0.out.below HB.out) HF0.out).mono ?_); rintro e wa ⟨rfl, hb⟩; have n0_ := Aside0.mk (below_step HB.out hb); clear HB; have HB := n0_; clear n0_; clear hb) | (go_at_call 12; (with_reducible refine (awake_w _).mono ?_); rintro e wc ⟨rfl, hb⟩; have n0_ := Aside0.mk (below_step HB.out hb); clear HB; have HB := n0_; clear n0_; clear hb))
    go_ret
    exact ⟨rfl, HB.out⟩
  | true =>
  have HF0 := Aside0.mk hf0
  clear hf0
  cases hf1 : fewB l1 with
  | false =>
    have HF1 := Aside0.mk hf1
    clear hf1
    go_enter Tryd.func6, Tryd.ntmps6
    go_wp2_with (first | (go_at_call 11; (with_reducible refine (few_w (F0.out.below HB.out) HF0.out).mono ?_); rintro e wa ⟨rfl, hb⟩; have n0_ := Aside0.mk (below_step HB.out hb); clear HB; have HB := n0_; clear n0_; clear hb) | (go_at_call 11; (with_reducible refine (few_w (F1.out.below HB.out) HF1.out).mono ?_); rintro e wb ⟨rfl, hb⟩; have n0_ := Aside0.mk (below_step HB.out hb); clear HB; have HB := n0_; clear n0_; clear hb) | (go_at_call 12; (with_reducible refine (awake_w _).mono ?_); rintro e wc ⟨rfl, hb⟩; have n0_ := Aside0.mk (below_step HB.out hb); clear HB; have HB := n0_; clear n0_; clear hb))
    go_ret
    exact ⟨rfl, HB.out⟩
  | true =>
  have HF1 := Aside0.mk hf1
  clear hf1
  obtain ⟨x, T0⟩ : ∃ x, Aside0 (TreeOf l0 x) := by
    obtain ⟨g3, g4⟩ := (few_spec l0).2 HF0.out
    obtain ⟨x, hx⟩ := tree_of F0.out.2.2.2 g3 g4
    exact ⟨x, ⟨hx⟩⟩
  obtain ⟨y, T1⟩ : ∃ y, Aside0 (TreeOf l1 y) := by
    obtain ⟨g3, g4⟩ := (few_spec l1).2 HF1.out
    obtain ⟨x, hx⟩ := tree_of F1.out.2.2.2 g3 g4
    exact ⟨x, ⟨hx⟩⟩
  have W0 := Aside0.mk (show wtN x ≤ 140737488355000 by have := T0.out.1.1; omega)
  have W1 := Aside0.mk (show wtN y ≤ 140737488355000 by have := T1.out.1.1; omega)
  obtain ⟨tx, HTX⟩ : ∃ t, Aside0 (bl (encN x) = t) := ⟨_, ⟨rfl⟩⟩
  obtain ⟨ty, HTY⟩ : ∃ t, Aside0 (bl (encN y) = t) := ⟨_, ⟨rfl⟩⟩
  obtain ⟨b, HS⟩ : ∃ b, Aside0 (sameN x y = b) := ⟨_, ⟨rfl⟩⟩
  have HR := Aside0.mk ((same_refl _).1 x (Nat.le_refl _))
  have he : (tx.toList == ty.toList) = b := by rw [← HTX.out, ← HTY.out, ← HS.out]; exact same_text W0.out W1.out
  go_enter Tryd.func6, Tryd.ntmps6
  go_wp2_with (first | (go_at_call 11; (with_reducible refine (few_w (F0.out.below HB.out) HF0.out).mono ?_); rintro e wa ⟨rfl, hb⟩; have n0_ := Aside0.mk (below_step HB.out hb); clear HB; have HB := n0_; clear n0_; clear hb) | (go_at_call 11; (with_reducible refine (few_w (F1.out.below HB.out) HF1.out).mono ?_); rintro e wb ⟨rfl, hb⟩; have n0_ := Aside0.mk (below_step HB.out hb); clear HB; have HB := n0_; clear n0_; clear hb) | (go_at_call 20; (with_reducible refine (root_w _).mono ?_); rintro e wf ⟨R2b, R3b, q2b, q3b, rfl, hb⟩; have n0_ := Aside0.mk (below_step HB.out hb); have n1_ := Aside0.mk (below_step Bx.out hb); clear HB Bx; have HB := n0_; have Bx := n1_; clear n0_ n1_; clear hb) | (go_at_call 13; (with_reducible refine (tree_w (F1.out.below HB.out) T1.out _ _ _ _).mono ?_); rintro e wg ⟨P2y, p2y, P3y, p3y, rfl, hnc, hb⟩; have n0_ := Aside0.mk (below_step HB.out hb); have n1_ := Aside0.mk (below_step Bx.out hb); clear HB Bx; have HB := n0_; have Bx := n1_; clear n0_ n1_; clear hb; have NCy := Aside0.mk hnc; have By := Aside0.mk (Below.refl wg.heap.size wg); clear hnc) | (go_at_call 20; (with_reducible refine (root_w _).mono ?_); rintro e wd ⟨R2a, R3a, q2a, q3a, rfl, hb⟩; have n0_ := Aside0.mk (below_step HB.out hb); clear HB; have HB := n0_; clear n0_; clear hb) | (go_at_call 13; (with_reducible refine (tree_w (F0.out.below HB.out) T0.out _ _ _ _).mono ?_); rintro e we ⟨P2x, p2x, P3x, p3x, rfl, hnc, hb⟩; have n0_ := Aside0.mk (below_step HB.out hb); clear HB; have HB := n0_; clear n0_; clear hb; have NCx := Aside0.mk hnc; have Bx := Aside0.mk (Below.refl we.heap.size we); clear hnc) | ((with_reducible refine gate_dst (N := 5) rfl ?_); refine box_event ?hg (N := 5) ?hd (cs := #[.string (⟨#[]⟩ : ByteArray), .bool false, .slice none 0 0, .slice none 0 0]) (t := 28) ?hr ?_; (case hd => rfl); (case hg => rfl); (case hr => first | (go_simp; done) | (go_simp; rfl)); intro g5 hg wh hbox hb; have GHBg5 := Aside0.mk (show w.heap.size ≤ g5 by rw [hg]; exact HB.out.size); have GBxg5 := Aside0.mk (show we.heap.size ≤ g5 by rw [hg]; exact Bx.out.size); have GByg5 := Aside0.mk (show wg.heap.size ≤ g5 by rw [hg]; exact By.out.size); clear hg; have BKg5 := Aside0.mk hbox; clear hbox; have n0_ := Aside0.mk (below_step HB.out hb); have n1_ := Aside0.mk (below_step Bx.out hb); have n2_ := Aside0.mk (below_step By.out hb); clear HB Bx By; have HB := n0_; have Bx := n1_; have By := n2_; clear n0_ n1_ n2_; clear hb) | ((with_reducible refine gate_dst (N := 6) rfl ?_); refine box_event ?hg (N := 6) ?hd (cs := #[.string (⟨#[]⟩ : ByteArray), .bool false, .slice none 0 0, .slice none 0 0]) (t := 28) ?hr ?_; (case hd => rfl); (case hg => rfl); (case hr => first | (go_simp; done) | (go_simp; rfl)); intro g6 hg wi hbox hb; have GHBg6 := Aside0.mk (show w.heap.size ≤ g6 by rw [hg]; exact HB.out.size); have GBxg6 := Aside0.mk (show we.heap.size ≤ g6 by rw [hg]; exact Bx.out.size); have GByg6 := Aside0.mk (show wg.heap.size ≤ g6 by rw [hg]; exact By.out.size); have NEg5g6 := Aside0.mk (show g5 ≠ g6 by rw [hg]; exact Nat.ne_of_lt (blk_lt BKg5.out)); clear hg; have BKg6 := Aside0.mk hbox; clear hbox; have n0_ := Aside0.mk (below_step HB.out hb); have n1_ := Aside0.mk (below_step Bx.out hb); have n2_ := Aside0.mk (below_step By.out hb); clear HB Bx By; have HB := n0_; have Bx := n1_; have By := n2_; clear n0_ n1_ n2_; have m0_ := Aside0.mk (blk_below BKg5.out hb); clear BKg5; have BKg5 := m0_; clear m0_; clear hb) | ((with_reducible refine gate_store (t := 28) (p := 5) (v := .tmp 18) rfl ?_); refine store28 rfl (.tmp 5) (.tmp 18) rfl g5 rfl x P2x p2x P3x p3x rfl BKg5.out ?_; intro wj hblk ho; have n0_ := Aside0.mk (HB.out.trans (ho.below GHBg5.out)); have n1_ := Aside0.mk (Bx.out.trans (ho.below GBxg5.out)); have n2_ := Aside0.mk (By.out.trans (ho.below GByg5.out)); clear HB Bx By; have HB := n0_; have Bx := n1_; have By := n2_; clear n0_ n1_ n2_; have m_ := Aside0.mk ((ho.block g6 (Ne.symm NEg5g6.out)).trans BKg6.out); clear BKg6; have BKg6 := m_; clear m_; clear BKg5; have BKg5 := Aside0.mk hblk; clear hblk ho) | ((with_reducible refine gate_store (t := 28) (p := 6) (v := .tmp 21) rfl ?_); refine store28 rfl (.tmp 6) (.tmp 21) rfl g6 rfl y P2y p2y P3y p3y rfl BKg6.out ?_; intro wk hblk ho; have n0_ := Aside0.mk (HB.out.trans (ho.below GHBg6.out)); have n1_ := Aside0.mk (Bx.out.trans (ho.below GBxg6.out)); have n2_ := Aside0.mk (By.out.trans (ho.below GByg6.out)); clear HB Bx By; have HB := n0_; have Bx := n1_; have By := n2_; clear n0_ n1_ n2_; have m_ := Aside0.mk ((ho.block g5 NEg5g6.out).trans BKg5.out); clear BKg5; have BKg5 := m_; clear m_; clear BKg6; have BKg6 := Aside0.mk hblk; clear hblk ho))
  have NX := Aside0.mk (NodeAt.drew (w := _) ⟨BKg5.out, NCx.out.below Bx.out⟩)
  have NY := Aside0.mk (NodeAt.drew (w := _) ⟨BKg6.out, NCy.out.below By.out⟩)
  have n0_ := Aside0.mk (below_drew HB.out)
  clear HB
  have HB := n0_
  clear n0_ BKg5 BKg6 NCx NCy Bx By HF0 HF1
  go_region_held3 (fun (w' : World) => w'.cell? ⟨g5, 0, none⟩ = some (.string x.f0) ∧ w'.cell? ⟨g5, 1, none⟩ = some (.bool x.f1) ∧ w'.cell? ⟨g5, 2, none⟩ = some (.slice P2x x.f2.length p2x) ∧ w'.cell? ⟨g5, 3, none⟩ = some (.slice P3x x.f3.length p3x) ∧ w'.cell? ⟨g6, 0, none⟩ = some (.string y.f0) ∧ w'.cell? ⟨g6, 1, none⟩ = some (.bool y.f1) ∧ w'.cell? ⟨g6, 2, none⟩ = some (.slice P2y y.f2.length p2y) ∧ w'.cell? ⟨g6, 3, none⟩ = some (.slice P3y y.f3.length p3y)) (exact ⟨NX.out.c0, NX.out.c1, NX.out.c2_, NX.out.c3_, NY.out.c0, NY.out.c1, NY.out.c2_, NY.out.c3_⟩) (first | (go_at_call 23; (with_reducible refine (same_w NX.out.nc NY.out.nc W0.out W1.out HS.out).mono ?_); rintro e wl ⟨rfl, hb⟩; have n0_ := Aside0.mk (below_step HB.out hb); clear HB; have HB := n0_; clear n0_; have k0_ := Aside0.mk (NX.out.below hb); have k1_ := Aside0.mk (NY.out.below hb); clear NX NY; have NX := k0_; have NY := k1_; clear k0_ k1_; clear hb) | (go_at_call 21; (with_reducible refine (text_w NX.out.nc W0.out HTX.out).mono ?_); rintro e wm ⟨rfl, hb⟩; have n0_ := Aside0.mk (below_step HB.out hb); clear HB; have HB := n0_; clear n0_; have k0_ := Aside0.mk (NX.out.below hb); have k1_ := Aside0.mk (NY.out.below hb); clear NX NY; have NX := k0_; have NY := k1_; clear k0_ k1_; clear hb) | (go_at_call 21; (with_reducible refine (text_w NY.out.nc W1.out HTY.out).mono ?_); rintro e wn ⟨rfl, hb⟩; have n0_ := Aside0.mk (below_step HB.out hb); clear HB; have HB := n0_; clear n0_; have k0_ := Aside0.mk (NX.out.below hb); have k1_ := Aside0.mk (NY.out.below hb); clear NX NY; have NX := k0_; have NY := k1_; clear k0_ k1_; clear hb) | (go_at_call 20; (with_reducible refine (root_w _).mono ?_); rintro e wo ⟨R2c, R3c, q2c, q3c, rfl, hb⟩; have n0_ := Aside0.mk (below_step HB.out hb); clear HB; have HB := n0_; clear n0_; have k0_ := Aside0.mk (NX.out.below hb); have k1_ := Aside0.mk (NY.out.below hb); clear NX NY; have NX := k0_; have NY := k1_; clear k0_ k1_; clear hb) | (go_at_call 13; (with_reducible refine (tree_w (F0.out.below HB.out) T0.out _ _ _ _).mono ?_); rintro e wp ⟨P2z, p2z, P3z, p3z, rfl, hnc, hb⟩; have NCz := Aside0.mk hnc; clear hnc; have n0_ := Aside0.mk (below_step HB.out hb); clear HB; have HB := n0_; clear n0_; have k0_ := Aside0.mk (NX.out.below hb); have k1_ := Aside0.mk (NY.out.below hb); clear NX NY; have NX := k0_; have NY := k1_; clear k0_ k1_; clear hb) | (go_at_call 23; (with_reducible refine (same_w NX.out.nc NCz.out W0.out W0.out HR.out).mono ?_); rintro e wq ⟨rfl, hb⟩; have n0_ := Aside0.mk (below_step HB.out hb); clear HB; have HB := n0_; clear n0_; have k0_ := Aside0.mk (NX.out.below hb); have k1_ := Aside0.mk (NY.out.below hb); clear NX NY; have NX := k0_; have NY := k1_; clear k0_ k1_; clear hb) | (go_at_call 24; (with_reducible refine (count_w NX.out.nc W0.out).mono ?_); rintro e wr_ ⟨rfl, hb⟩; have n0_ := Aside0.mk (below_step HB.out hb); clear HB; have HB := n0_; clear n0_; have k0_ := Aside0.mk (NX.out.below hb); have k1_ := Aside0.mk (NY.out.below hb); clear NX NY; have NX := k0_; have NY := k1_; clear k0_ k1_; clear hb) | (go_at_call 25; (with_reducible refine (rcount_w NX.out.nc W0.out).mono ?_); rintro e ws_ ⟨rfl, hb⟩; have n0_ := Aside0.mk (below_step HB.out hb); clear HB; have HB := n0_; clear n0_; have k0_ := Aside0.mk (NX.out.below hb); have k1_ := Aside0.mk (NY.out.below hb); clear NX NY; have NX := k0_; have NY := k1_; clear k0_ k1_; clear hb) | (go_at_call 12; (with_reducible refine (awake_w _).mono ?_); rintro e wt_ ⟨rfl, hb⟩; have n0_ := Aside0.mk (below_step HB.out hb); clear HB; have HB := n0_; clear n0_; have k0_ := Aside0.mk (NX.out.below hb); have k1_ := Aside0.mk (NY.out.below hb); clear NX NY; have NX := k0_; have NY := k1_; clear k0_ k1_; clear hb))
  go_wp2
  go_ret
  exact ⟨rfl, HB.out⟩
end Go.Proofs.YthpgbhpnlnpfnaaDoor.Law
