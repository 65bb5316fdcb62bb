/- found; NodePaths: the walks. -/
import Derived.Test.YthpgbhpnlnpfnaaDoorPp
namespace Go.Proofs.YthpgbhpnlnpfnaaDoor.Law
open Go Go.RowKit Go.Proofs.YthpgbhpnlnpfnaaDoor Go.Proofs.YthpgbhpnlnpfnaaDoorW.PrintWords Go.Proofs.YthpgbhpnlnpfnaaDoorW.PrintLast Go.Proofs.YthpgbhpnlnpfnaaDoorW.PrintMore Go.Proofs.YthpgbhpnlnpfnaaDoor.E
set_option linter.unusedSimpArgs false
set_option linter.unusedVariables false
set_option maxHeartbeats 8000000 in
set_option maxRecDepth 100000 in
theorem found_w : ∀ (N : Nat) (x n : S28) (A2 : Option Addr) (c2 : Nat) (A3 : Option Addr) (c3 : Nat) (B2 : Option Addr) (d2 : Nat) (B3 : Option Addr) (d3 : Nat) (p : ByteArray) (L : List ByteArray) (w : World), wtN n ≤ N → NC w x A2 c2 A3 c3 → NC w n B2 d2 B3 d3 → Sm x → Sm n → Spot x n p L →
    Calls Tryd.prog 28 #[.agg #[.string x.f0, .bool x.f1, .slice A2 x.f2.length c2, .slice A3 x.f3.length c3], .agg #[.string n.f0, .bool n.f1, .slice B2 n.f2.length d2, .slice B3 n.f3.length d3], .string p] w fun e w' => e = .returned (.bool true) ∧ Below w.heap.size w w' := by
  intro N
  induction N with
  | zero => intro x n A2 c2 A3 c3 B2 d2 B3 d3 p L w hN; have := wtN_pos n; omega
  | succ N ih =>
  intro x n A2 c2 A3 c3 B2 d2 B3 d3 p L w hN hx hn hsx hsn hsp
  have HN := Aside0.mk hN
  have NX := Aside0.mk hx
  have NN := Aside0.mk hn
  have WX := Aside0.mk hsx
  have WN := Aside0.mk hsn
  have SP := Aside0.mk hsp
  have WN1 := Aside0.mk (show wtN n ≤ 140737488355000 from hsn.1)
  have SS := Aside0.mk hsp.split
  have SL := Aside0.mk (show L.length ≤ 100000 by have := hsp.own.1; omega)
  have PZ := Aside0.mk (show p.size ≤ 1000 by have := hsp.own.1; have := hsp.len; omega)
  obtain ⟨tn, HTN⟩ : ∃ t, Aside0 (bl (encN n) = t) := ⟨_, ⟨rfl⟩⟩
  have HB := Aside0.mk (Below.refl w.heap.size w)
  have IH := Aside0.mk ih
  clear hN hx hn hsx hsn hsp ih
  go_enter Tryd.func28, Tryd.ntmps28
  go_wp2_with (first | ((with_reducible refine gate_dst (N := 3) rfl ?_); refine box_event ?hg (N := 3) ?hd (cs := #[.string x.f0, .bool x.f1, .slice A2 x.f2.length c2, .slice A3 x.f3.length c3]) (t := 28) ?hr ?_; (case hd => rfl); (case hg => rfl); (case hr => first | (go_simp; done) | (go_simp; rfl)); intro g3 hg wa hbox hb; clear hg; have n0_ := Aside0.mk (below_step HB.out hb); clear HB; have HB := n0_; clear n0_; have BK3 := Aside0.mk hbox; clear hbox hb) | ((with_reducible refine gate_dst (N := 4) rfl ?_); refine box_event ?hg (N := 4) ?hd (cs := #[.string n.f0, .bool n.f1, .slice B2 n.f2.length d2, .slice B3 n.f3.length d3]) (t := 28) ?hr ?_; (case hd => rfl); (case hg => rfl); (case hr => first | (go_simp; done) | (go_simp; rfl)); intro g4 hg wb hbox hb; clear hg; have m0_ := Aside0.mk (blk_below BK3.out hb); clear BK3; have BK3 := m0_; clear m0_; have n0_ := Aside0.mk (below_step HB.out hb); clear HB; have HB := n0_; clear n0_; have BK4 := Aside0.mk hbox; clear hbox hb; have hx0 : wb.cell? ⟨g3, 0, none⟩ = some (.string x.f0) := (blk_cell BK3.out 0).trans rfl; have hx1 : wb.cell? ⟨g3, 1, none⟩ = some (.bool x.f1) := (blk_cell BK3.out 1).trans rfl; have hx2 : wb.cell? ⟨g3, 2, none⟩ = some (.slice A2 x.f2.length c2) := (blk_cell BK3.out 2).trans rfl; have hx3 : wb.cell? ⟨g3, 3, none⟩ = some (.slice A3 x.f3.length c3) := (blk_cell BK3.out 3).trans rfl) | (go_at_call 26; (with_reducible refine (at_w (NX.out.below HB.out) WX.out p SS.out.1 SL.out SS.out.2).mono ?_); rintro e wl ⟨P2y, p2y, P3y, p3y, rfl, how, hb⟩; clear hx0 hx1 hx2 hx3; have n0_ := Aside0.mk (below_step HB.out hb); clear HB; have HB := n0_; clear n0_; have m0_ := Aside0.mk (blk_below BK3.out hb); have m1_ := Aside0.mk (blk_below BK4.out hb); clear BK3 BK4; have BK3 := m0_; have BK4 := m1_; clear m0_ m1_; have OY := Aside0.mk how; have By := Aside0.mk (Below.refl wl.heap.size wl); clear hb how; have GL3 := Aside0.mk (blk_lt BK3.out); have GL4 := Aside0.mk (blk_lt BK4.out)) | ((with_reducible refine gate_dst (N := 7) rfl ?_); refine box_event ?hg (N := 7) ?hd (cs := #[.string (⟨#[]⟩ : ByteArray), .bool false, .slice none 0 0, .slice none 0 0]) (t := 28) ?hr ?_; (case hd => rfl); (case hg => rfl); (case hr => first | (go_simp; done) | (go_simp; rfl)); intro g7 hg wm hbox hb; have GHBg7 := Aside0.mk (show w.heap.size ≤ g7 by rw [hg]; exact HB.out.size); have GByg7 := Aside0.mk (show wl.heap.size ≤ g7 by rw [hg]; exact By.out.size); clear hg; have BKg7 := Aside0.mk hbox; clear hbox; have n0_ := Aside0.mk (below_step HB.out hb); have n1_ := Aside0.mk (below_step By.out hb); clear HB By; have HB := n0_; have By := n1_; clear n0_ n1_; have m0_ := Aside0.mk (blk_below BK3.out hb); have m1_ := Aside0.mk (blk_below BK4.out hb); clear BK3 BK4; have BK3 := m0_; have BK4 := m1_; clear m0_ m1_; clear hb; have NE3 := Aside0.mk (show g3 ≠ g7 from Nat.ne_of_lt (Nat.lt_of_lt_of_le GL3.out GByg7.out)); have NE4 := Aside0.mk (show g4 ≠ g7 from Nat.ne_of_lt (Nat.lt_of_lt_of_le GL4.out GByg7.out))) | ((with_reducible refine gate_store (t := 28) (p := 7) (v := .tmp 16) rfl ?_); refine store28 rfl (.tmp 7) (.tmp 16) rfl g7 rfl n P2y p2y P3y p3y rfl BKg7.out ?_; intro wn hblk ho; have n0_ := Aside0.mk (HB.out.trans (ho.below GHBg7.out)); have n1_ := Aside0.mk (By.out.trans (ho.below GByg7.out)); clear HB By; have HB := n0_; have By := n1_; clear n0_ n1_; have m3_ := Aside0.mk ((ho.block g3 NE3.out).trans BK3.out); have m4_ := Aside0.mk ((ho.block g4 NE4.out).trans BK4.out); clear BKg7 BK3 BK4; have BK3 := m3_; have BK4 := m4_; have BKg7 := Aside0.mk hblk; clear m3_ m4_ hblk ho))
  have NY := Aside0.mk (NodeAt.drew (w := _) (NodeAt.mk BKg7.out (OY.out.nc.below By.out)))
  have NM := Aside0.mk (NodeAt.drew (w := _) (NodeAt.mk BK4.out (NN.out.below HB.out)))
  have NW := Aside0.mk (NodeAt.drew (w := _) (NodeAt.mk BK3.out (NX.out.below HB.out)))
  have n0_ := Aside0.mk (below_drew HB.out)
  clear HB
  have HB := n0_
  clear n0_ BKg7 BK3 BK4 OY By
  go_region_held3 (fun (w' : World) => w'.cell? ⟨g7, 0, none⟩ = some (.string n.f0) ∧ w'.cell? ⟨g7, 1, none⟩ = some (.bool n.f1) ∧ w'.cell? ⟨g7, 2, none⟩ = some (.slice P2y n.f2.length p2y) ∧ w'.cell? ⟨g7, 3, none⟩ = some (.slice P3y n.f3.length p3y) ∧ w'.cell? ⟨g4, 0, none⟩ = some (.string n.f0) ∧ w'.cell? ⟨g4, 1, none⟩ = some (.bool n.f1) ∧ w'.cell? ⟨g4, 2, none⟩ = some (.slice B2 n.f2.length d2) ∧ w'.cell? ⟨g4, 3, none⟩ = some (.slice B3 n.f3.length d3)) (exact ⟨NY.out.c0, NY.out.c1, NY.out.c2_, NY.out.c3_, NM.out.c0, NM.out.c1, NM.out.c2_, NM.out.c3_⟩) (first | (go_at_call 21; (with_reducible refine (text_w NY.out.nc WN1.out HTN.out).mono ?_); rintro e wt ⟨rfl, hb⟩; have n0_ := Aside0.mk (below_step HB.out hb); clear HB; have HB := n0_; clear n0_; have k0_ := Aside0.mk (NY.out.below hb); have k1_ := Aside0.mk (NM.out.below hb); have k2_ := Aside0.mk (NW.out.below hb); clear NY NM NW; have NY := k0_; have NM := k1_; have NW := k2_; clear k0_ k1_ k2_; clear hb) | (go_at_call 21; (with_reducible refine (text_w NM.out.nc WN1.out HTN.out).mono ?_); rintro e wz ⟨rfl, hb⟩; have n0_ := Aside0.mk (below_step HB.out hb); clear HB; have HB := n0_; clear n0_; have k0_ := Aside0.mk (NY.out.below hb); have k1_ := Aside0.mk (NM.out.below hb); have k2_ := Aside0.mk (NW.out.below hb); clear NY NM NW; have NY := k0_; have NM := k1_; have NW := k2_; clear k0_ k1_ k2_; clear hb))
  have BK3 := Aside0.mk (show wz.heap[g3]? = some (.cells #[.string x.f0, .bool x.f1, .slice A2 x.f2.length c2, .slice A3 x.f3.length c3] 28 (0, 0)) from NW.out.blk)
  have BK4 := Aside0.mk (show wz.heap[g4]? = some (.cells #[.string n.f0, .bool n.f1, .slice B2 n.f2.length d2, .slice B3 n.f3.length d3] 28 (0, 0)) from NM.out.blk)
  clear NY NM NW
  have GP := Aside0.mk SP.out.own
  have EN := Aside0.mk (rfl : n.f3.length = n.f3.length)
  have hcb3 : wz.cell? ⟨g4, 3, none⟩ = some (.slice B3 n.f3.length d3) := (blk_cell BK4.out 3).trans rfl
  go_wp2
  clear hcb3
  go_loopg [30] n.f3.length (fun kq v30 w' => ∃ i : Nat, v30 = .int .i64 i ∧ i ≤ n.f3.length ∧ Aside0 (kq = n.f3.length - i) ∧ Aside0 (w'.heap[g3]? = some (.cells #[.string x.f0, .bool x.f1, .slice A2 x.f2.length c2, .slice A3 x.f3.length c3] 28 (0, 0))) ∧ Aside0 (Below w.heap.size w w'))
  case atStart => exact ⟨0, rfl, Nat.zero_le _, ⟨rfl⟩, BK3, HB⟩
  case round =>
    clear BK3 BK4 HB
    obtain ⟨i, rfl, hi, HQ, BK3, HB⟩ := hrel
    by_cases hlt : i < n.f3.length
    · have hltb : decide ((i : Int) < (n.f3.length : Int)) = true := decide_eq_true (by omega)
      have hltn : decide (i < n.f3.length) = true := decide_eq_true hlt
      have p4 : (0 ≤ (i : Int)) = True := eq_true (by omega)
      have q4 : ((i : Int) < (n.f3.length : Int)) = True := eq_true (by omega)
      have hwi := Aside0.mk (show wrap64 ((i : Int) + 1) = ((i + 1 : Nat) : Int) from by have := GP.out.2.1; rw [n64 (by omega) (by omega)]; omega)
      obtain ⟨ak, K2, q2, K3, q3, ea, hnk, ha0, ha1, ha2, ha3⟩ := NodeC_at NN.out HB.out i hlt
      subst ea
      have NK := Aside0.mk hnk
      have HK := Aside0.mk (SP.out.kid hlt)
      have WK := Aside0.mk (WN.out.kid i hlt)
      have WKN := Aside0.mk (show wtN (rd_T28 n.f3 (i : Int)) ≤ N by
        have h1 := HN.out
        have h2 : wtN (rd_T28 n.f3 (i : Int)) ≤ wtL n.f3 := wt_kid n.f3 i hlt
        have h3 : wtL n.f3 + 30 ≤ wtN n := by obtain ⟨a, b, c, ks⟩ := n; simp only [wtN]; omega
        omega)
      have KZ := Aside0.mk (show (rd_T28 n.f3 (i : Int)).f0.size ≤ 140737488355000 by have h1 := (name_wt (rd_T28 n.f3 (i : Int))).1; have h2 := WK.out.1; omega)
      have hcat1 : (9223372036854775807 < p.size + (⟨#[47]⟩ : ByteArray).size) = False := eq_false (by have := PZ.out; have : (⟨#[47]⟩ : ByteArray).size = 1 := rfl; omega)
      have hcat1' : (9223372036854775807 < p.size + 1) = False := eq_false (by have := PZ.out; omega)
      have hcat2 : (9223372036854775807 < (p ++ ⟨#[47]⟩).size + (rd_T28 n.f3 (i : Int)).f0.size) = False := eq_false (by have := PZ.out; have := KZ.out; rw [ByteArray.size_append]; have : (⟨#[47]⟩ : ByteArray).size = 1 := rfl; omega)
      have hcat2' : (9223372036854775807 < p.size + 1 + (rd_T28 n.f3 (i : Int)).f0.size) = False := eq_false (by have := PZ.out; have := KZ.out; omega)
      clear hnk
      generalize rd_T28 n.f3 (i : Int) = kx at *
      by_cases hp : p.toList = []
      · have e1 : (p.toList == ([] : List UInt8)) = true := beq_iff_eq.mpr hp
        have e2 : p.toList.isEmpty = true := by rw [hp]; rfl
        have HJ := Aside0.mk (show joinP p kx.f0 = kx.f0 from if_pos hp)
        have HKA := Aside0.mk (show Spot x kx kx.f0 (L ++ [kx.f0]) from by have h := HK.out; rw [HJ.out] at h; exact h)
        clear hp
        go_wp2_with (first | ((with_reducible refine gate_dst (N := 10) rfl ?_); refine box_event ?hg (N := 10) ?hd (cs := #[.string (⟨#[]⟩ : ByteArray), .bool false, .slice none 0 0, .slice none 0 0]) (t := 28) ?hr ?_; (case hd => rfl); (case hg => rfl); (case hr => first | (go_simp; done) | (go_simp; rfl)); intro ga hg wc hbox hb; have GA := Aside0.mk (show w.heap.size ≤ ga by rw [hg]; exact HB.out.size); have NE3a := Aside0.mk (show g3 ≠ ga by rw [hg]; exact Nat.ne_of_lt (blk_lt BK3.out)); clear hg; have m0_ := Aside0.mk (blk_below BK3.out hb); clear BK3; have BK3 := m0_; clear m0_; have n0_ := Aside0.mk (below_step HB.out hb); clear HB; have HB := n0_; clear n0_; have BKa := Aside0.mk hbox; clear hbox hb; have hx0 : wc.cell? ⟨g3, 0, none⟩ = some (.string x.f0) := (blk_cell BK3.out 0).trans rfl; have hx1 : wc.cell? ⟨g3, 1, none⟩ = some (.bool x.f1) := (blk_cell BK3.out 1).trans rfl; have hx2 : wc.cell? ⟨g3, 2, none⟩ = some (.slice A2 x.f2.length c2) := (blk_cell BK3.out 2).trans rfl; have hx3 : wc.cell? ⟨g3, 3, none⟩ = some (.slice A3 x.f3.length c3) := (blk_cell BK3.out 3).trans rfl; have hz0 : wc.cell? ⟨ga, 0, none⟩ = some (.string (⟨#[]⟩ : ByteArray)) := (blk_cell BKa.out 0).trans rfl; have hz1 : wc.cell? ⟨ga, 1, none⟩ = some (.bool false) := (blk_cell BKa.out 1).trans rfl; have hz2 : wc.cell? ⟨ga, 2, none⟩ = some (.slice none 0 0) := (blk_cell BKa.out 2).trans rfl; have hz3 : wc.cell? ⟨ga, 3, none⟩ = some (.slice none 0 0) := (blk_cell BKa.out 3).trans rfl; have hfa0 := blk_frozen BKa.out 0; have hfa1 := blk_frozen BKa.out 1; have hfa2 := blk_frozen BKa.out 2; have hfa3 := blk_frozen BKa.out 3; have hne1 := NE3a.out; have hne2 := Ne.symm NE3a.out) | (go_at_call 28; (with_reducible refine (IH.out x kx A2 c2 A3 c3 K2 q2 K3 q3 _ _ _ WKN.out (NX.out.below (by (with_reducible repeat refine below_set ?_ GA.out); exact HB.out)) (NK.out.below (by (with_reducible repeat refine below_set ?_ GA.out); exact HB.out)) WX.out WK.out HKA.out).mono ?_); rintro e wd ⟨rfl, hb⟩; have n0_ := Aside0.mk (below_step (w := w) (by (with_reducible repeat refine below_set ?_ GA.out); exact HB.out) hb); have n1_ := Aside0.mk (blk_below (g := g3) (o := .cells #[.string x.f0, .bool x.f1, .slice A2 x.f2.length c2, .slice A3 x.f3.length c3] 28 (0, 0)) (by (with_reducible repeat refine blk_far ?_ NE3a.out _); exact BK3.out) hb); clear HB BK3; have HB := n0_; have BK3 := n1_; clear n0_ n1_ hb))
        go_roundg (n.f3.length - (i + 1))
        case measure => have := HQ.out; omega
        case rel => exact ⟨i + 1, by first | rfl | (rw [hwi.out]; done) | (simp [hwi.out]; done) | go_num, by omega, ⟨rfl⟩, BK3, HB⟩
      · have e1 : (p.toList == ([] : List UInt8)) = false := beq_eq_false_iff_ne.mpr hp
        have e2 : p.toList.isEmpty = false := by cases h : p.toList with
          | nil => exact absurd h hp
          | cons _ _ => rfl
        have HJ := Aside0.mk (show joinP p kx.f0 = p ++ ⟨#[47]⟩ ++ kx.f0 from if_neg hp)
        have HKB := Aside0.mk (show Spot x kx (p ++ ⟨#[47]⟩ ++ kx.f0) (L ++ [kx.f0]) from by have h := HK.out; rw [HJ.out] at h; exact h)
        clear hp
        go_wp2_with (first | ((with_reducible refine gate_dst (N := 10) rfl ?_); refine box_event ?hg (N := 10) ?hd (cs := #[.string (⟨#[]⟩ : ByteArray), .bool false, .slice none 0 0, .slice none 0 0]) (t := 28) ?hr ?_; (case hd => rfl); (case hg => rfl); (case hr => first | (go_simp; done) | (go_simp; rfl)); intro ga hg wc hbox hb; have GA := Aside0.mk (show w.heap.size ≤ ga by rw [hg]; exact HB.out.size); have NE3a := Aside0.mk (show g3 ≠ ga by rw [hg]; exact Nat.ne_of_lt (blk_lt BK3.out)); clear hg; have m0_ := Aside0.mk (blk_below BK3.out hb); clear BK3; have BK3 := m0_; clear m0_; have n0_ := Aside0.mk (below_step HB.out hb); clear HB; have HB := n0_; clear n0_; have BKa := Aside0.mk hbox; clear hbox hb; have hx0 : wc.cell? ⟨g3, 0, none⟩ = some (.string x.f0) := (blk_cell BK3.out 0).trans rfl; have hx1 : wc.cell? ⟨g3, 1, none⟩ = some (.bool x.f1) := (blk_cell BK3.out 1).trans rfl; have hx2 : wc.cell? ⟨g3, 2, none⟩ = some (.slice A2 x.f2.length c2) := (blk_cell BK3.out 2).trans rfl; have hx3 : wc.cell? ⟨g3, 3, none⟩ = some (.slice A3 x.f3.length c3) := (blk_cell BK3.out 3).trans rfl; have hz0 : wc.cell? ⟨ga, 0, none⟩ = some (.string (⟨#[]⟩ : ByteArray)) := (blk_cell BKa.out 0).trans rfl; have hz1 : wc.cell? ⟨ga, 1, none⟩ = some (.bool false) := (blk_cell BKa.out 1).trans rfl; have hz2 : wc.cell? ⟨ga, 2, none⟩ = some (.slice none 0 0) := (blk_cell BKa.out 2).trans rfl; have hz3 : wc.cell? ⟨ga, 3, none⟩ = some (.slice none 0 0) := (blk_cell BKa.out 3).trans rfl; have hfa0 := blk_frozen BKa.out 0; have hfa1 := blk_frozen BKa.out 1; have hfa2 := blk_frozen BKa.out 2; have hfa3 := blk_frozen BKa.out 3; have hne1 := NE3a.out; have hne2 := Ne.symm NE3a.out) | (go_at_call 28; (with_reducible refine (IH.out x kx A2 c2 A3 c3 K2 q2 K3 q3 _ _ _ WKN.out (NX.out.below (by (with_reducible repeat refine below_set ?_ GA.out); exact HB.out)) (NK.out.below (by (with_reducible repeat refine below_set ?_ GA.out); exact HB.out)) WX.out WK.out HKB.out).mono ?_); rintro e wd ⟨rfl, hb⟩; have n0_ := Aside0.mk (below_step (w := w) (by (with_reducible repeat refine below_set ?_ GA.out); exact HB.out) hb); have n1_ := Aside0.mk (blk_below (g := g3) (o := .cells #[.string x.f0, .bool x.f1, .slice A2 x.f2.length c2, .slice A3 x.f3.length c3] 28 (0, 0)) (by (with_reducible repeat refine blk_far ?_ NE3a.out _); exact BK3.out) hb); clear HB BK3; have HB := n0_; have BK3 := n1_; clear n0_ n1_ hb))
        go_roundg (n.f3.length - (i + 1))
        case measure => have := HQ.out; omega
        case rel => exact ⟨i + 1, by first | rfl | (rw [hwi.out]; done) | (simp [hwi.out]; done) | go_num, by omega, ⟨rfl⟩, BK3, HB⟩
    · obtain rfl : i = n.f3.length := by omega
      have hltb : decide ((n.f3.length : Int) < (n.f3.length : Int)) = false := decide_eq_false (by omega)
      have hltn : decide (n.f3.length < n.f3.length) = false := decide_eq_false (by omega)
      go_wp2
      go_ret
      exact ⟨rfl, HB.out⟩
theorem spot_root {x : S28} (hg : goodN 0 x) : Spot x x ⟨#[]⟩ [] := ⟨.inl ⟨by rw [Lib.toList_data], rfl⟩, (fun s hs => by cases hs), Nat.le_refl _, rfl, hg⟩
set_option maxHeartbeats 8000000 in
set_option maxRecDepth 100000 in
theorem paths_walk (A0 : Option Addr) (n0 c0 : Nat) (l0 : List S56) (w : World) (h0 : FlatAt w A0 n0 c0 l0) :
    Calls Tryd.prog 8 #[.slice A0 n0 c0] w fun e w' => e = .returned (.bool true) ∧ Below w.heap.size w w' := by
  have F0 := Aside0.mk h0
  have HB := Aside0.mk (Below.refl w.heap.size w)
  clear h0
  cases hf0 : fewB l0 with
  | false =>
    have HF0 := Aside0.mk hf0
    clear hf0
    go_enter Tryd.func8, Tryd.ntmps8
    go_wp2_with (first | (go_at_call 11; (with_reducible refine (few_w (F0.out.below HB.out) HF0.out).mono ?_); rintro e wa ⟨rfl, hb⟩; have n0_ := Aside0.mk (below_step HB.out hb); clear HB; have HB := n0_; clear n0_; clear hb) | (go_at_call 12; (with_reducible refine (awake_w _).mono ?_); rintro e wc ⟨rfl, hb⟩; have n0_ := Aside0.mk (below_step HB.out hb); clear HB; have HB := n0_; clear n0_; clear hb))
    go_ret
    exact ⟨rfl, HB.out⟩
  | true =>
  have HF0 := Aside0.mk hf0
  clear hf0
  obtain ⟨x, T0⟩ : ∃ x, Aside0 (TreeOf l0 x) := by
    obtain ⟨g3, g4⟩ := (few_spec l0).2 HF0.out
    obtain ⟨x, hx⟩ := tree_of F0.out.2.2.2 g3 g4
    exact ⟨x, ⟨hx⟩⟩
  have W0 := Aside0.mk (show wtN x ≤ 140737488355000 by have := T0.out.1.1; omega)
  have WS := Aside0.mk (show Sm x from ⟨W0.out, by have := T0.out.1.2; omega⟩)
  obtain ⟨r, K, HR⟩ : ∃ r K, Aside0 (∀ k, K ≤ k → node_Right.f k x.f0 x.f1 x.f2 x.f3 = some r ∧ hypogeumref21_Right.f k x.f0 x.f1 x.f2 x.f3 = some r) := by
    obtain ⟨r, K, h⟩ := right_both x.f0 x.f1 x.f2 x.f3 (by rw [eta28]; have := W0.out; omega)
    exact ⟨r, K, ⟨h⟩⟩
  have H1 := Aside0.mk (HR.out K (Nat.le_refl _)).1
  have H2 := Aside0.mk (HR.out K (Nat.le_refl _)).2
  by_cases hr : r = 0
  · have SP := Aside0.mk (spot_root (right_good HR.out hr))
    subst hr
    clear HR H2
    go_enter Tryd.func8, Tryd.ntmps8
    go_wp2_with (first | (go_at_call 11; (with_reducible refine (few_w (F0.out.below HB.out) HF0.out).mono ?_); rintro e wa ⟨rfl, hb⟩; have n0_ := Aside0.mk (below_step HB.out hb); clear HB; have HB := n0_; clear n0_; clear hb) | (go_at_call 20; (with_reducible refine (root_w _).mono ?_); rintro e wd ⟨R2a, R3a, q2a, q3a, rfl, hb⟩; have n0_ := Aside0.mk (below_step HB.out hb); clear HB; have HB := n0_; clear n0_; clear hb) | (go_at_call 13; (with_reducible refine (tree_w (F0.out.below HB.out) T0.out _ _ _ _).mono ?_); rintro e we ⟨P2x, p2x, P3x, p3x, rfl, hnc, hb⟩; have n0_ := Aside0.mk (below_step HB.out hb); clear HB; have HB := n0_; clear n0_; clear hb; have NCx := Aside0.mk hnc; have Bx := Aside0.mk (Below.refl we.heap.size we); clear hnc) | ((with_reducible refine gate_dst (N := 3) rfl ?_); refine box_event ?hg (N := 3) ?hd (cs := #[.string (⟨#[]⟩ : ByteArray), .bool false, .slice none 0 0, .slice none 0 0]) (t := 28) ?hr ?_; (case hd => rfl); (case hg => rfl); (case hr => first | (go_simp; done) | (go_simp; rfl)); intro g3 hg wh hbox hb; have GHBg3 := Aside0.mk (show w.heap.size ≤ g3 by rw [hg]; exact HB.out.size); have GBxg3 := Aside0.mk (show we.heap.size ≤ g3 by rw [hg]; exact Bx.out.size); clear hg; have BKg3 := Aside0.mk hbox; clear hbox; have n0_ := Aside0.mk (below_step HB.out hb); have n1_ := Aside0.mk (below_step Bx.out hb); clear HB Bx; have HB := n0_; have Bx := n1_; clear n0_ n1_; clear hb) | ((with_reducible refine gate_store (t := 28) (p := 3) (v := .tmp 10) rfl ?_); refine store28 rfl (.tmp 3) (.tmp 10) rfl g3 rfl x P2x p2x P3x p3x rfl BKg3.out ?_; intro wj hblk ho; have n0_ := Aside0.mk (HB.out.trans (ho.below GHBg3.out)); have n1_ := Aside0.mk (Bx.out.trans (ho.below GBxg3.out)); clear HB Bx; have HB := n0_; have Bx := n1_; clear n0_ n1_; clear BKg3; have BKg3 := Aside0.mk hblk; clear hblk ho; have NX := Aside0.mk (NodeAt.mk BKg3.out (NCx.out.below Bx.out)); clear BKg3 NCx Bx; have hcz0 := NX.out.c0; have hcz1 := NX.out.c1; have hcz2 := NX.out.c2_; have hcz3 := NX.out.c3_) | (go_at_call 14; (with_reducible refine (node_Right.calls K x.f0 x.f1 P2x p2x x.f2 P3x p3x x.f3 _ _ NX.out.nc.r2 NX.out.nc.l2 NX.out.nc.r3 NX.out.nc.l3 H1.out).mono ?_); rintro e wk ⟨rfl, hb⟩; clear hcz0 hcz1 hcz2 hcz3; have n0_ := Aside0.mk (below_step HB.out hb); clear HB; have HB := n0_; clear n0_; have k0_ := Aside0.mk (NX.out.below hb); clear NX; have NX := k0_; clear k0_; clear hb; have hcz0 := NX.out.c0; have hcz1 := NX.out.c1; have hcz2 := NX.out.c2_; have hcz3 := NX.out.c3_) | (go_at_call 28; (with_reducible refine (found_w _ x x P2x p2x P3x p3x P2x p2x P3x p3x ⟨#[]⟩ [] _ (Nat.le_refl _) NX.out.nc NX.out.nc WS.out WS.out SP.out).mono ?_); rintro e wm ⟨rfl, hb⟩; clear hcz0 hcz1 hcz2 hcz3; have n0_ := Aside0.mk (below_step HB.out hb); clear HB; have HB := n0_; clear n0_; have k0_ := Aside0.mk (NX.out.below hb); clear NX; have NX := k0_; clear k0_; clear hb; have hcz0 := NX.out.c0; have hcz1 := NX.out.c1; have hcz2 := NX.out.c2_; have hcz3 := NX.out.c3_) | (go_at_call 12; (with_reducible refine (awake_w _).mono ?_); rintro e wn ⟨rfl, hb⟩; have n0_ := Aside0.mk (below_step HB.out hb); clear HB; have HB := n0_; clear n0_; clear hb))
    go_ret
    exact ⟨rfl, HB.out⟩
  · have cb0 : (r == 0) = false := beq_eq_false_iff_ne.mpr hr
    have cb1 : (r != 0) = true := bne_iff_ne.mpr hr
    clear HR hr
    go_enter Tryd.func8, Tryd.ntmps8
    go_wp2_with (first | (go_at_call 11; (with_reducible refine (few_w (F0.out.below HB.out) HF0.out).mono ?_); rintro e wa ⟨rfl, hb⟩; have n0_ := Aside0.mk (below_step HB.out hb); clear HB; have HB := n0_; clear n0_; clear hb) | (go_at_call 20; (with_reducible refine (root_w _).mono ?_); rintro e wd ⟨R2a, R3a, q2a, q3a, rfl, hb⟩; have n0_ := Aside0.mk (below_step HB.out hb); clear HB; have HB := n0_; clear n0_; clear hb) | (go_at_call 13; (with_reducible refine (tree_w (F0.out.below HB.out) T0.out _ _ _ _).mono ?_); rintro e we ⟨P2x, p2x, P3x, p3x, rfl, hnc, hb⟩; have n0_ := Aside0.mk (below_step HB.out hb); clear HB; have HB := n0_; clear n0_; clear hb; have NCx := Aside0.mk hnc; have Bx := Aside0.mk (Below.refl we.heap.size we); clear hnc) | ((with_reducible refine gate_dst (N := 3) rfl ?_); refine box_event ?hg (N := 3) ?hd (cs := #[.string (⟨#[]⟩ : ByteArray), .bool false, .slice none 0 0, .slice none 0 0]) (t := 28) ?hr ?_; (case hd => rfl); (case hg => rfl); (case hr => first | (go_simp; done) | (go_simp; rfl)); intro g3 hg wh hbox hb; have GHBg3 := Aside0.mk (show w.heap.size ≤ g3 by rw [hg]; exact HB.out.size); have GBxg3 := Aside0.mk (show we.heap.size ≤ g3 by rw [hg]; exact Bx.out.size); clear hg; have BKg3 := Aside0.mk hbox; clear hbox; have n0_ := Aside0.mk (below_step HB.out hb); have n1_ := Aside0.mk (below_step Bx.out hb); clear HB Bx; have HB := n0_; have Bx := n1_; clear n0_ n1_; clear hb) | ((with_reducible refine gate_store (t := 28) (p := 3) (v := .tmp 10) rfl ?_); refine store28 rfl (.tmp 3) (.tmp 10) rfl g3 rfl x P2x p2x P3x p3x rfl BKg3.out ?_; intro wj hblk ho; have n0_ := Aside0.mk (HB.out.trans (ho.below GHBg3.out)); have n1_ := Aside0.mk (Bx.out.trans (ho.below GBxg3.out)); clear HB Bx; have HB := n0_; have Bx := n1_; clear n0_ n1_; clear BKg3; have BKg3 := Aside0.mk hblk; clear hblk ho; have NX := Aside0.mk (NodeAt.mk BKg3.out (NCx.out.below Bx.out)); clear BKg3 NCx Bx; have hcz0 := NX.out.c0; have hcz1 := NX.out.c1; have hcz2 := NX.out.c2_; have hcz3 := NX.out.c3_) | (go_at_call 14; (with_reducible refine (node_Right.calls K x.f0 x.f1 P2x p2x x.f2 P3x p3x x.f3 _ _ NX.out.nc.r2 NX.out.nc.l2 NX.out.nc.r3 NX.out.nc.l3 H1.out).mono ?_); rintro e wk ⟨rfl, hb⟩; clear hcz0 hcz1 hcz2 hcz3; have n0_ := Aside0.mk (below_step HB.out hb); clear HB; have HB := n0_; clear n0_; have k0_ := Aside0.mk (NX.out.below hb); clear NX; have NX := k0_; clear k0_; clear hb; have hcz0 := NX.out.c0; have hcz1 := NX.out.c1; have hcz2 := NX.out.c2_; have hcz3 := NX.out.c3_) | (go_at_call 15; (with_reducible refine (hypogeumref21_Right.calls K x.f0 x.f1 P2x p2x x.f2 P3x p3x x.f3 _ _ NX.out.nc.r2 NX.out.nc.l2 NX.out.nc.r3 NX.out.nc.l3 H2.out).mono ?_); rintro e wl ⟨rfl, hb⟩; clear hcz0 hcz1 hcz2 hcz3; have n0_ := Aside0.mk (below_step HB.out hb); clear HB; have HB := n0_; clear n0_; have k0_ := Aside0.mk (NX.out.below hb); clear NX; have NX := k0_; clear k0_; clear hb; have hcz0 := NX.out.c0; have hcz1 := NX.out.c1; have hcz2 := NX.out.c2_; have hcz3 := NX.out.c3_) | (go_at_call 12; (with_reducible refine (awake_w _).mono ?_); rintro e wn ⟨rfl, hb⟩; have n0_ := Aside0.mk (below_step HB.out hb); clear HB; have HB := n0_; clear n0_; clear hb))
    go_ret
    exact ⟨rfl, HB.out⟩
end Go.Proofs.YthpgbhpnlnpfnaaDoor.Law
