/- NodeCopies: the walk. -/
import Derived.Test.YthpgbhpnlnpfnaaDoorKw
import Derived.Test.YthpgbhpnlnpfnaaDoorTc
namespace Go.Proofs.YthpgbhpnlnpfnaaDoor.Law
open Go Go.RowKit Go.Proofs.YthpgbhpnlnpfnaaDoor Go.Proofs.YthpgbhpnlnpfnaaDoorW.PrintWords Go.Proofs.YthpgbhpnlnpfnaaDoorW.PrintLast Go.Proofs.YthpgbhpnlnpfnaaDoorW.PrintMore Go.Proofs.YthpgbhpnlnpfnaaDoor.E
set_option linter.unusedSimpArgs false
set_option linter.unusedVariables false
theorem copy_w {x : S28} {A2 : Option Addr} {c2 : Nat} {A3 : Option Addr} {c3 : Nat} {w : World} (h : NC w x A2 c2 A3 c3) (hw : wtN x ≤ 140737488355000) (hn : cN x ≤ 1000) :
    Calls Tryd.prog 22 #[.agg #[.string x.f0, .bool x.f1, .slice A2 x.f2.length c2, .slice A3 x.f3.length c3]] w fun e w' => ∃ (B2 : Option Addr) (d2 : Nat) (B3 : Option Addr) (d3 : Nat), e = .returned (.agg #[.string x.f0, .bool x.f1, .slice B2 x.f2.length d2, .slice B3 x.f3.length d3]) ∧ NC w' x B2 d2 B3 d3 ∧
      BytesOK w' w.heap.size B2 x.f2.length ∧ (0 < x.f3.length → ∃ gk, B3 = some ⟨gk, 0, none⟩ ∧ w.heap.size ≤ gk ∧ KidsOK w' w.heap.size gk x.f3.length 0) ∧ Below w.heap.size w w' := by
  obtain ⟨K, hK⟩ := copy_run _ x (Nat.le_refl _) (by omega) hn
  refine (node_Copy.calls K x.f0 x.f1 A2 c2 x.f2 A3 c3 x.f3 _ _ _ _ w h.r2 h.l2 h.r3 h.l3 (hK K (Nat.le_refl _))).mono ?_
  rintro e w' ⟨v2, v3, rfl, h2, h3, hb⟩
  obtain ⟨B2, d2, rfl⟩ := Kd.R_slice h2
  obtain ⟨B3, d3, rfl⟩ := Kd.R_slice h3
  refine ⟨B2, d2, B3, d3, rfl, ⟨(Kd.R_reads' h2).2.1, (Kd.R_reads' h2).2.2, (Kd.R_reads' h3).2.1, (Kd.R_reads' h3).2.2⟩, BytesOK.of_R h2, fun hp => ?_, hb⟩
  obtain ⟨g, bs, rfl, hg, hc⟩ := own_cells h3 hp
  have hw3 : wtL x.f3 ≤ 140737488355328 := by
    have : wtL x.f3 ≤ wtN x := by obtain ⟨a, b, c, d⟩ := x; simp only [wtN]; omega
    omega
  exact ⟨g, rfl, hg, KidsOK.of_R h3 hp hw3⟩
set_option maxHeartbeats 8000000 in
set_option maxRecDepth 100000 in
theorem copies_walk (A0 : Option Addr) (n0 c0 : Nat) (l0 : List S56) (w : World) (h0 : FlatAt w A0 n0 c0 l0) :
    Calls Tryd.prog 5 #[.slice A0 n0 c0] w fun e w' => e = .returned (.bool true) ∧ Below w.heap.size w w' := by
  have F0 := Aside0.mk h0
  have HB := Aside0.mk (Below.refl w.heap.size w)
  clear h0
  cases hf0 : fewB l0 with
  | false =>
    have HF0 := Aside0.mk hf0
    clear hf0
    go_enter Tryd.func5, Tryd.ntmps5
    go_wp2_with (first | (go_at_call 11; (with_reducible refine (few_w (F0.out.below HB.out) HF0.out).mono ?_); rintro e wa ⟨rfl, hb⟩; have n0_ := Aside0.mk (below_step HB.out hb); clear HB; have HB := n0_; clear n0_; clear hb) | (go_at_call 12; (with_reducible refine (awake_w _).mono ?_); rintro e wc ⟨rfl, hb⟩; have n0_ := Aside0.mk (below_step HB.out hb); clear HB; have HB := n0_; clear n0_; clear hb))
    go_ret
    exact ⟨rfl, HB.out⟩
  | true =>
  have HF0 := Aside0.mk hf0
  clear hf0
  obtain ⟨x, T0⟩ : ∃ x, Aside0 (TreeOf l0 x) := by
    obtain ⟨g3, g4⟩ := (few_spec l0).2 HF0.out
    obtain ⟨x, hx⟩ := tree_of F0.out.2.2.2 g3 g4
    exact ⟨x, ⟨hx⟩⟩
  have W0 := Aside0.mk (show wtN x ≤ 140737488355000 by have := T0.out.1.1; omega)
  have W1 := Aside0.mk (show cN x ≤ 1000 by have := T0.out.1.2; omega)
  have W2 := Aside0.mk (show x.f3.length ≤ 1000 by have h := T0.out.1.2; obtain ⟨a, b, c, ks⟩ := x; simp only [cN] at h; have := cL_len ks; show ks.length ≤ 1000; omega)
  obtain ⟨tx, HTX⟩ : ∃ t, Aside0 (bl (encN x) = t) := ⟨_, ⟨rfl⟩⟩
  go_enter Tryd.func5, Tryd.ntmps5
  go_wp2_with (first | (go_at_call 11; (with_reducible refine (few_w (F0.out.below HB.out) HF0.out).mono ?_); rintro e wa ⟨rfl, hb⟩; have n0_ := Aside0.mk (below_step HB.out hb); clear HB; have HB := n0_; clear n0_; clear hb) | (go_at_call 20; (with_reducible refine (root_w _).mono ?_); rintro e wd ⟨R2a, R3a, q2a, q3a, rfl, hb⟩; have n0_ := Aside0.mk (below_step HB.out hb); clear HB; have HB := n0_; clear n0_; clear hb) | (go_at_call 13; (with_reducible refine (tree_w (F0.out.below HB.out) T0.out _ _ _ _).mono ?_); rintro e we ⟨P2x, p2x, P3x, p3x, rfl, hnc, hb⟩; have n0_ := Aside0.mk (below_step HB.out hb); clear HB; have HB := n0_; clear n0_; clear hb; have NCx := Aside0.mk hnc; have Bx := Aside0.mk (Below.refl we.heap.size we); clear hnc) | ((with_reducible refine gate_dst (N := 3) rfl ?_); refine box_event ?hg (N := 3) ?hd (cs := #[.string (⟨#[]⟩ : ByteArray), .bool false, .slice none 0 0, .slice none 0 0]) (t := 28) ?hr ?_; (case hd => rfl); (case hg => rfl); (case hr => first | (go_simp; done) | (go_simp; rfl)); intro g3 hg wh hbox hb; have GHBg3 := Aside0.mk (show w.heap.size ≤ g3 by rw [hg]; exact HB.out.size); have GBxg3 := Aside0.mk (show we.heap.size ≤ g3 by rw [hg]; exact Bx.out.size); clear hg; have BKg3 := Aside0.mk hbox; clear hbox; have n0_ := Aside0.mk (below_step HB.out hb); have n1_ := Aside0.mk (below_step Bx.out hb); clear HB Bx; have HB := n0_; have Bx := n1_; clear n0_ n1_; clear hb) | ((with_reducible refine gate_store (t := 28) (p := 3) (v := .tmp 14) rfl ?_); refine store28 rfl (.tmp 3) (.tmp 14) rfl g3 rfl x P2x p2x P3x p3x rfl BKg3.out ?_; intro wj hblk ho; have n0_ := Aside0.mk (HB.out.trans (ho.below GHBg3.out)); have n1_ := Aside0.mk (Bx.out.trans (ho.below GBxg3.out)); clear HB Bx; have HB := n0_; have Bx := n1_; clear n0_ n1_; clear BKg3; have BKg3 := Aside0.mk hblk; clear hblk ho; have NX := Aside0.mk (NodeAt.mk BKg3.out (NCx.out.below Bx.out)); clear BKg3 NCx Bx; have hcz0 := NX.out.c0; have hcz1 := NX.out.c1; have hcz2 := NX.out.c2_; have hcz3 := NX.out.c3_) | (go_at_call 21; (with_reducible refine (text_w NX.out.nc W0.out HTX.out).mono ?_); rintro e wk ⟨rfl, hb⟩; clear hcz0 hcz1 hcz2 hcz3; have n0_ := Aside0.mk (below_step HB.out hb); clear HB; have HB := n0_; clear n0_; have k0_ := Aside0.mk (NX.out.below hb); clear NX; have NX := k0_; clear k0_; clear hb; have hcz0 := NX.out.c0; have hcz1 := NX.out.c1; have hcz2 := NX.out.c2_; have hcz3 := NX.out.c3_) | (go_at_call 22; (with_reducible refine (copy_w NX.out.nc W0.out W1.out).mono ?_); rintro e wl ⟨P2y, p2y, P3y, p3y, rfl, hnc, hbo, hko, hb⟩; have WK := Aside0.mk (show w.heap.size ≤ wk.heap.size from HB.out.size); have HBk := HB; clear hcz0 hcz1 hcz2 hcz3; have n0_ := Aside0.mk (below_step HB.out hb); clear HB; have HB := n0_; clear n0_; have Bk := Aside0.mk hb; have NCy := Aside0.mk hnc; have By := Aside0.mk (Below.refl wl.heap.size wl); have KO := Aside0.mk hko; clear hb hnc hbo hko) | ((with_reducible refine gate_dst (N := 5) rfl ?_); refine box_event ?hg (N := 5) ?hd (cs := #[.string (⟨#[]⟩ : ByteArray), .bool false, .slice none 0 0, .slice none 0 0]) (t := 28) ?hr ?_; (case hd => rfl); (case hg => rfl); (case hr => first | (go_simp; done) | (go_simp; rfl)); intro g5 hg wm hbox hb; have GHBg5 := Aside0.mk (show w.heap.size ≤ g5 by rw [hg]; exact HB.out.size); have GBkg5 := Aside0.mk (show wk.heap.size ≤ g5 by rw [hg]; exact Bk.out.size); have GByg5 := Aside0.mk (show wl.heap.size ≤ g5 by rw [hg]; exact By.out.size); clear hg; have BKg5 := Aside0.mk hbox; clear hbox; have n0_ := Aside0.mk (below_step HB.out hb); have n1_ := Aside0.mk (below_step Bk.out hb); have n2_ := Aside0.mk (below_step By.out hb); clear HB Bk By; have HB := n0_; have Bk := n1_; have By := n2_; clear n0_ n1_ n2_; clear hb) | ((with_reducible refine gate_store (t := 28) (p := 5) (v := .tmp 18) rfl ?_); refine store28 rfl (.tmp 5) (.tmp 18) rfl g5 rfl x P2y p2y P3y p3y rfl BKg5.out ?_; intro wn hblk ho; have n0_ := Aside0.mk (HB.out.trans (ho.below GHBg5.out)); have n1_ := Aside0.mk (Bk.out.trans (ho.below GBkg5.out)); have n2_ := Aside0.mk (By.out.trans (ho.below GByg5.out)); clear HB Bk By; have HB := n0_; have Bk := n1_; have By := n2_; clear n0_ n1_ n2_; clear BKg5; have BKg5 := Aside0.mk hblk; clear hblk ho; have hy0 : wn.cell? ⟨g5, 0, none⟩ = some (.string x.f0) := (blk_cell BKg5.out 0).trans rfl; have hy1 : wn.cell? ⟨g5, 1, none⟩ = some (.bool x.f1) := (blk_cell BKg5.out 1).trans rfl; have hy2 : wn.cell? ⟨g5, 2, none⟩ = some (.slice P2y x.f2.length p2y) := (blk_cell BKg5.out 2).trans rfl; have hy3 : wn.cell? ⟨g5, 3, none⟩ = some (.slice P3y x.f3.length p3y) := (blk_cell BKg5.out 3).trans rfl) | (go_at_call 21; (with_reducible refine (text_w (NCy.out.below By.out) W0.out HTX.out).mono ?_); rintro e wo ⟨rfl, hb⟩; clear hy0 hy1 hy2 hy3; have n0_ := Aside0.mk (below_step HB.out hb); have n1_ := Aside0.mk (below_step Bk.out hb); have n2_ := Aside0.mk (below_step By.out hb); clear HB Bk By; have HB := n0_; have Bk := n1_; have By := n2_; clear n0_ n1_ n2_; have m0_ := Aside0.mk (blk_below BKg5.out hb); clear BKg5; have BKg5 := m0_; clear m0_; clear hb; have hy3 : wo.cell? ⟨g5, 3, none⟩ = some (.slice P3y x.f3.length p3y) := (blk_cell BKg5.out 3).trans rfl))
  obtain ⟨gr, KA, KK, GK⟩ : ∃ gr, Aside0 (0 < x.f3.length → P3y = some ⟨gr, 0, none⟩) ∧ Aside0 (0 < x.f3.length → KidsOK wo wk.heap.size gr x.f3.length 0) ∧ Aside0 (0 < x.f3.length → wk.heap.size ≤ gr ∧ gr ≠ g5) := by
    by_cases hp : 0 < x.f3.length
    · obtain ⟨gr, h1, h2, h3⟩ := KO.out hp
      obtain ⟨cs, hcs⟩ := h3.blk
      exact ⟨gr, ⟨fun _ => h1⟩, ⟨fun _ => h3.below By.out⟩, ⟨fun _ => ⟨h2, by have := blk_lt hcs; have := GByg5.out; omega⟩⟩⟩
    · exact ⟨0, ⟨fun h => absurd h hp⟩, ⟨fun h => absurd h hp⟩, ⟨fun h => absurd h hp⟩⟩
  clear KO NCy By hy3
  obtain ⟨n, hn⟩ : ∃ n, n = x.f3.length := ⟨_, rfl⟩
  have BKn := Aside0.mk (show wo.heap[g5]? = some (.cells #[.string x.f0, .bool x.f1, .slice P2y x.f2.length p2y, .slice P3y n p3y] 28 (0, 0)) from by rw [hn]; exact BKg5.out)
  rw [← hn] at KA KK GK W2 ⊢
  clear BKg5 hn HB
  go_loopg [26] n (fun kq v26 w' => ∃ i : Nat, v26 = .int .i64 i ∧ i ≤ n ∧ Aside0 (kq = n - i) ∧ Aside0 (0 < n → KidsOK w' wk.heap.size gr n i) ∧ Aside0 (w'.heap[g5]? = some (.cells #[.string x.f0, .bool x.f1, .slice P2y x.f2.length p2y, .slice P3y n p3y] 28 (0, 0))) ∧ Aside0 (Below wk.heap.size wk w'))
  case atStart => exact ⟨0, rfl, Nat.zero_le _, ⟨rfl⟩, KK, BKn, Bk⟩
  case round =>
    clear KK BKn Bk
    obtain ⟨i, rfl, hi, HQ, KK, BKn, Bk⟩ := hrel
    have hy3 : wr.cell? ⟨g5, 3, none⟩ = some (.slice P3y n p3y) := (blk_cell BKn.out 3).trans rfl
    by_cases hlt : i < n
    · have hltb : decide ((i : Int) < (n : Int)) = true := decide_eq_true (by omega)
      have hltn : decide (i < n) = true := decide_eq_true hlt
      obtain rfl := KA.out (by omega)
      have G1 := Aside0.mk (GK.out (by omega)).1
      have G2 := Aside0.mk (GK.out (by omega)).2
      have K1 := Aside0.mk (KK.out (by omega))
      obtain ⟨A, l, c, hsl, hbo, hl⟩ := K1.out.bytes hlt
      have p4 : (0 ≤ (i : Int)) = True := eq_true (by omega)
      have q4 : ((i : Int) < (n : Int)) = True := eq_true (by omega)
      have hwi := Aside0.mk (show wrap64 ((i : Int) + 1) = ((i + 1 : Nat) : Int) from by have := W2.out; rw [n64 (by omega) (by omega)]; omega)
      have SL := Aside0.mk hsl
      have BO := Aside0.mk hbo
      have HL := Aside0.mk hl
      clear hbo hl
      go_wp2
      clear hsl hy3 KK
      go_loopg [36] l (fun kq v36 w' => ∃ j : Nat, v36 = .int .i64 j ∧ j ≤ l ∧ Aside0 (kq = l - j) ∧ Aside0 (KidsOK w' wk.heap.size gr n i) ∧ Aside0 (w'.cell? ⟨gr, i * 4 + 2, none⟩ = some (.slice A l c)) ∧ Aside0 (BytesOK w' wk.heap.size A l) ∧ Aside0 (w'.heap[g5]? = some (.cells #[.string x.f0, .bool x.f1, .slice P2y x.f2.length p2y, .slice (some ⟨gr, 0, none⟩) n p3y] 28 (0, 0))) ∧ Aside0 (Below wk.heap.size wk w'))
      case atStart => exact ⟨0, rfl, Nat.zero_le _, ⟨rfl⟩, K1, SL, BO, BKn, Bk⟩
      case round =>
        clear K1 SL BO BKn Bk
        obtain ⟨j, rfl, hj, HJ, K1, SL, BO, BKn, Bk⟩ := hrel
        have hy3 : wr.cell? ⟨g5, 3, none⟩ = some (.slice (some ⟨gr, 0, none⟩) n p3y) := (blk_cell BKn.out 3).trans rfl
        obtain ⟨ck, hck⟩ := K1.out.blk
        have HCK := Aside0.mk hck
        clear hck
        by_cases hjl : j < l
        · have hjlb : decide ((j : Int) < (l : Int)) = true := decide_eq_true (by omega)
          have hjln : decide (j < l) = true := decide_eq_true hjl
          have hsl := SL.out
          obtain ⟨gb, bs, rfl, HG, HBS, z, hz⟩ : ∃ gb bs, A = some ⟨gb, 0, none⟩ ∧ Aside0 (wk.heap.size ≤ gb) ∧ Aside0 (wr.heap[gb]? = some (.cells bs 5 (0, 0))) ∧ ∃ z, wr.cell? ⟨gb, j, none⟩ = some (.int .u8 z) := by
            rcases BO.out with h | ⟨gb, bs, h1, h2, h3, h4⟩
            · omega
            · obtain ⟨z, hz⟩ := h4 j hjl
              exact ⟨gb, bs, h1, ⟨h2⟩, ⟨h3⟩, z, by rw [blk_cell h3]; exact hz⟩
          have hfz := blk_frozen HBS.out j
          have p5 : (0 ≤ (j : Int)) = True := eq_true (by omega)
          have q5 : ((j : Int) < (l : Int)) = True := eq_true (by omega)
          have hwj := Aside0.mk (show wrap64 ((j : Int) + 1) = ((j + 1 : Nat) : Int) from by have := HL.out; rw [n64 (by omega) (by omega)]; omega)
          go_wp2
          go_roundg (l - (j + 1))
          case measure => have := HJ.out; omega
          case rel => exact ⟨j + 1, by first | rfl | (rw [hwj.out]; done) | (simp [hwj.out]; done) | go_num, by omega, ⟨rfl⟩, ⟨K1.out.setInt HBS.out j _⟩, ⟨(World.cell?_setCell_other _ _ _ _ (by intro e; injection e with e _ _; exact blk_ne HCK.out HBS.out (by decide) e.symm)).trans SL.out⟩, ⟨BO.out.setInt HBS.out j _⟩, ⟨blk_far BKn.out (p := ⟨gb, j, none⟩) (blk_ne BKn.out HBS.out (by decide)) _⟩, ⟨set_below Bk.out HG.out _⟩⟩
        · obtain rfl : j = l := by omega
          have hjlb : decide ((j : Int) < (j : Int)) = false := decide_eq_false (by omega)
          have hjln : decide (j < j) = false := decide_eq_false (by omega)
          obtain ⟨s, hs, hsz⟩ := K1.out.name hlt
          have hfz := blk_frozen HCK.out (i * 4)
          have hcat : (9223372036854775807 < s.size + (⟨#[120]⟩ : ByteArray).size) = False := eq_false (by have : (⟨#[120]⟩ : ByteArray).size = 1 := rfl; omega)
          have hcat1 : (9223372036854775807 < s.size + 1) = False := eq_false (by omega)
          clear hsz
          go_wp2
          go_roundg (n - (i + 1))
          case measure => have := HQ.out; omega
          case rel => exact ⟨i + 1, by first | rfl | (rw [hwi.out]; done) | (simp [hwi.out]; done) | go_num, by omega, ⟨rfl⟩, ⟨fun _ => K1.out.setStr _⟩, ⟨blk_far BKn.out (p := ⟨gr, i * 4, none⟩) (Ne.symm G2.out) _⟩, ⟨set_below Bk.out G1.out _⟩⟩
    · obtain rfl : i = n := by omega
      have hltb : decide ((i : Int) < (i : Int)) = false := decide_eq_false (by omega)
      have hltn : decide (i < i) = false := decide_eq_false (by omega)
      have NY := Aside0.mk (NX.out.below Bk.out)
      clear hy3
      have hcz0 := NY.out.c0
      have hcz1 := NY.out.c1
      have hcz2 := NY.out.c2_
      have hcz3 := NY.out.c3_
      go_wp2_with (first | (go_at_call 21; (with_reducible refine (text_w NY.out.nc W0.out HTX.out).mono ?_); rintro e ws_ ⟨rfl, hb⟩; have HE := Aside0.mk (Bk.out.trans (hb.mono Bk.out.size)); clear hb hcz0 hcz1 hcz2 hcz3) | (go_at_call 12; (with_reducible refine (awake_w _).mono ?_); rintro e wt_ ⟨rfl, hb⟩; have HE2 := Aside0.mk (HE.out.trans (hb.mono HE.out.size)); clear HE hb))
      go_ret
      exact ⟨rfl, (HBk.out.trans (HE2.out.mono WK.out))⟩
end Go.Proofs.YthpgbhpnlnpfnaaDoor.Law
