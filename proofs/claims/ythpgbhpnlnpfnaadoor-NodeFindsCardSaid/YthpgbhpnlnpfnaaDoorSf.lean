/- NodeFinds: the walk. -/
import Derived.Test.YthpgbhpnlnpfnaaDoorRa
namespace Go.Proofs.YthpgbhpnlnpfnaaDoor.Law
open Go Go.RowKit Go.Proofs.YthpgbhpnlnpfnaaDoor Go.Proofs.YthpgbhpnlnpfnaaDoorW.PrintWords Go.Proofs.YthpgbhpnlnpfnaaDoorW.PrintLast Go.Proofs.YthpgbhpnlnpfnaaDoorW.PrintMore Go.Proofs.YthpgbhpnlnpfnaaDoor.E
set_option linter.unusedSimpArgs false
set_option linter.unusedVariables false
theorem findP_sm : ∀ (L : List ByteArray) (x y : S28), Sm x → findP x L = some y → Sm y
  | [], x, y, hx, h => by rw [findP] at h; injection h with h; subst h; exact hx
  | s :: L, x, y, hx, h => by
    rw [findP] at h
    rcases ixOf_cases x.f3 s with hi | ⟨m, hi, hm⟩
    · rw [hi, if_pos (by decide)] at h; cases h
    · rw [hi, if_neg (by omega)] at h
      exact findP_sm L _ y (hx.kid m hm) h
theorem sm_z : Sm z28 := ⟨by decide, by decide⟩
theorem atR_sm {x y : S28} {L : List ByteArray} {E q : Int} (hx : Sm x) (h : atR x L E = (y, q)) : Sm y := by
  unfold atR at h
  split at h
  · cases hf : findP x L with
    | none => rw [hf] at h; injection h with h _; rw [← h]; exact sm_z
    | some z => rw [hf] at h; injection h with h _; rw [← h]; exact findP_sm L x z hx hf
  · injection h with h _; rw [← h]; exact sm_z
theorem split_both (s : ByteArray) (hs : s.size ≤ 1000) : ∃ L E, L.length ≤ 2000 ∧ node_Split.f s = some (L, E) ∧ hypogeumref21_Split.f (s.size + 4003) s = some (L, E) := by
  by_cases h0 : s.toList = []
  · refine ⟨[], 0, Nat.zero_le _, ?_, ?_⟩
    · unfold node_Split.f; rw [if_pos h0]
    · unfold hypogeumref21_Split.f; rw [if_pos h0]
  · have hn : (pieces s).length ≤ 2000 := by
      rw [pieces_len]
      have := Lib.countB_le ⟨#[47]⟩ (by decide) s.size s (Nat.le_refl _)
      omega
    refine ⟨splitL s, splitE s, ?_, ?_, rsplit s hs h0⟩
    · unfold splitL
      split
      · split
        · exact Nat.zero_le _
        · exact hn
      · exact Nat.zero_le _
    · unfold node_Split.f; rw [if_neg h0, if_pos (by omega)]
set_option maxHeartbeats 8000000 in
set_option maxRecDepth 100000 in
theorem finds_walk (A0 : Option Addr) (n0 c0 : Nat) (l0 : List S56) (path : ByteArray) (w : World) (h0 : FlatAt w A0 n0 c0 l0) :
    Calls Tryd.prog 7 #[.slice A0 n0 c0, .string path] w fun e w' => e = .returned (.bool true) ∧ Below w.heap.size w w' := by
  have F0 := Aside0.mk h0
  have HB := Aside0.mk (Below.refl w.heap.size w)
  clear h0
  cases hf0 : fewB l0 with
  | false =>
    have HF0 := Aside0.mk hf0
    clear hf0
    go_enter Tryd.func7, Tryd.ntmps7
    go_wp2_with (first | (go_at_call 11; (with_reducible refine (few_w (F0.out.below HB.out) HF0.out).mono ?_); rintro e wa ⟨rfl, hb⟩; have n0_ := Aside0.mk (below_step HB.out hb); clear HB; have HB := n0_; clear n0_; clear hb) | (go_at_call 12; (with_reducible refine (awake_w _).mono ?_); rintro e wc ⟨rfl, hb⟩; have n0_ := Aside0.mk (below_step HB.out hb); clear HB; have HB := n0_; clear n0_; clear hb))
    go_ret
    exact ⟨rfl, HB.out⟩
  | true =>
  have HF0 := Aside0.mk hf0
  clear hf0
  by_cases hps : 1000 < path.size
  · have b1 : decide ((1000 : Int) < (path.size : Int)) = true := decide_eq_true (by omega)
    have b1n : decide (1000 < path.size) = true := decide_eq_true hps
    clear hps
    go_enter Tryd.func7, Tryd.ntmps7
    go_wp2_with (first | (go_at_call 11; (with_reducible refine (few_w (F0.out.below HB.out) HF0.out).mono ?_); rintro e wa ⟨rfl, hb⟩; have n0_ := Aside0.mk (below_step HB.out hb); clear HB; have HB := n0_; clear n0_; clear hb) | (go_at_call 12; (with_reducible refine (awake_w _).mono ?_); rintro e wc ⟨rfl, hb⟩; have n0_ := Aside0.mk (below_step HB.out hb); clear HB; have HB := n0_; clear n0_; clear hb))
    go_ret
    exact ⟨rfl, HB.out⟩
  have b1 : decide ((1000 : Int) < (path.size : Int)) = false := decide_eq_false (by omega)
  have b1n : decide (1000 < path.size) = false := decide_eq_false hps
  obtain ⟨x, T0⟩ : ∃ x, Aside0 (TreeOf l0 x) := by
    obtain ⟨g3, g4⟩ := (few_spec l0).2 HF0.out
    obtain ⟨x, hx⟩ := tree_of F0.out.2.2.2 g3 g4
    exact ⟨x, ⟨hx⟩⟩
  have W0 := Aside0.mk (show wtN x ≤ 140737488355000 by have := T0.out.1.1; omega)
  have WS := Aside0.mk (show Sm x from ⟨W0.out, by have := T0.out.1.2; omega⟩)
  obtain ⟨L, E, HL, HS1, HS2⟩ : ∃ L E, Aside0 (L.length ≤ 100000) ∧ Aside0 (node_Split.f path = some (L, E)) ∧ Aside0 (hypogeumref21_Split.f (path.size + 4003) path = some (L, E)) := by
    obtain ⟨L, E, h1, h2, h3⟩ := split_both path (by omega)
    exact ⟨L, E, ⟨by omega⟩, ⟨h2⟩, ⟨h3⟩⟩
  obtain ⟨y, q, HR⟩ : ∃ y q, Aside0 (atR x L E = (y, q)) := ⟨(atR x L E).1, (atR x L E).2, ⟨rfl⟩⟩
  have WY := Aside0.mk (atR_sm WS.out HR.out)
  have WY1 := Aside0.mk (show wtN y ≤ 140737488355000 from WY.out.1)
  have WL := Aside0.mk (show y.f2.length ≤ 140737488355328 by have := (name_wt y).2; have := WY1.out; omega)
  obtain ⟨tx, HTX⟩ : ∃ t, Aside0 (bl (encN x) = t) := ⟨_, ⟨rfl⟩⟩
  obtain ⟨ty, HTY⟩ : ∃ t, Aside0 (bl (encN y) = t) := ⟨_, ⟨rfl⟩⟩
  clear hps
  go_enter Tryd.func7, Tryd.ntmps7
  go_wp2_with (first | (go_at_call 11; (with_reducible refine (few_w (F0.out.below HB.out) HF0.out).mono ?_); rintro e wa ⟨rfl, hb⟩; have n0_ := Aside0.mk (below_step HB.out hb); clear HB; have HB := n0_; clear n0_; clear hb) | (go_at_call 20; (with_reducible refine (root_w _).mono ?_); rintro e wd ⟨R2a, R3a, q2a, q3a, rfl, hb⟩; have n0_ := Aside0.mk (below_step HB.out hb); clear HB; have HB := n0_; clear n0_; clear hb) | (go_at_call 13; (with_reducible refine (tree_w (F0.out.below HB.out) T0.out _ _ _ _).mono ?_); rintro e we ⟨P2x, p2x, P3x, p3x, rfl, hnc, hb⟩; have n0_ := Aside0.mk (below_step HB.out hb); clear HB; have HB := n0_; clear n0_; clear hb; have NCx := Aside0.mk hnc; have Bx := Aside0.mk (Below.refl we.heap.size we); clear hnc) | ((with_reducible refine gate_dst (N := 5) rfl ?_); refine box_event ?hg (N := 5) ?hd (cs := #[.string (⟨#[]⟩ : ByteArray), .bool false, .slice none 0 0, .slice none 0 0]) (t := 28) ?hr ?_; (case hd => rfl); (case hg => rfl); (case hr => first | (go_simp; done) | (go_simp; rfl)); intro g5 hg wh hbox hb; have GHBg5 := Aside0.mk (show w.heap.size ≤ g5 by rw [hg]; exact HB.out.size); have GBxg5 := Aside0.mk (show we.heap.size ≤ g5 by rw [hg]; exact Bx.out.size); clear hg; have BKg5 := Aside0.mk hbox; clear hbox; have n0_ := Aside0.mk (below_step HB.out hb); have n1_ := Aside0.mk (below_step Bx.out hb); clear HB Bx; have HB := n0_; have Bx := n1_; clear n0_ n1_; clear hb) | ((with_reducible refine gate_store (t := 28) (p := 5) (v := .tmp 24) rfl ?_); refine store28 rfl (.tmp 5) (.tmp 24) rfl g5 rfl x P2x p2x P3x p3x rfl BKg5.out ?_; intro wj hblk ho; have n0_ := Aside0.mk (HB.out.trans (ho.below GHBg5.out)); have n1_ := Aside0.mk (Bx.out.trans (ho.below GBxg5.out)); clear HB Bx; have HB := n0_; have Bx := n1_; clear n0_ n1_; clear BKg5; have BKg5 := Aside0.mk hblk; clear hblk ho; have NX := Aside0.mk (NodeAt.mk BKg5.out (NCx.out.below Bx.out)); clear BKg5 NCx Bx; have hcz0 := NX.out.c0; have hcz1 := NX.out.c1; have hcz2 := NX.out.c2_; have hcz3 := NX.out.c3_) | (go_at_call 21; (with_reducible refine (text_w NX.out.nc W0.out HTX.out).mono ?_); rintro e wk ⟨rfl, hb⟩; clear hcz0 hcz1 hcz2 hcz3; have n0_ := Aside0.mk (below_step HB.out hb); clear HB; have HB := n0_; clear n0_; have k0_ := Aside0.mk (NX.out.below hb); clear NX; have NX := k0_; clear k0_; clear hb; have hcz0 := NX.out.c0; have hcz1 := NX.out.c1; have hcz2 := NX.out.c2_; have hcz3 := NX.out.c3_) | (go_at_call 26; (with_reducible refine (at_w NX.out.nc WS.out path HS1.out HL.out HR.out).mono ?_); rintro e wl ⟨P2y, p2y, P3y, p3y, rfl, how, hb⟩; have WK := Aside0.mk (show w.heap.size ≤ wk.heap.size from HB.out.size); have HBk := HB; clear hcz0 hcz1 hcz2 hcz3; have n0_ := Aside0.mk (below_step HB.out hb); clear HB; have HB := n0_; clear n0_; have Bk := Aside0.mk hb; have OY := Aside0.mk how; have By := Aside0.mk (Below.refl wl.heap.size wl); clear hb how) | ((with_reducible refine gate_dst (N := 7) rfl ?_); refine box_event ?hg (N := 7) ?hd (cs := #[.string (⟨#[]⟩ : ByteArray), .bool false, .slice none 0 0, .slice none 0 0]) (t := 28) ?hr ?_; (case hd => rfl); (case hg => rfl); (case hr => first | (go_simp; done) | (go_simp; rfl)); intro g7 hg wm hbox hb; have GHBg7 := Aside0.mk (show w.heap.size ≤ g7 by rw [hg]; exact HB.out.size); have GBkg7 := Aside0.mk (show wk.heap.size ≤ g7 by rw [hg]; exact Bk.out.size); have GByg7 := Aside0.mk (show wl.heap.size ≤ g7 by rw [hg]; exact By.out.size); clear hg; have BKg7 := Aside0.mk hbox; clear hbox; have n0_ := Aside0.mk (below_step HB.out hb); have n1_ := Aside0.mk (below_step Bk.out hb); have n2_ := Aside0.mk (below_step By.out hb); clear HB Bk By; have HB := n0_; have Bk := n1_; have By := n2_; clear n0_ n1_ n2_; clear hb) | ((with_reducible refine gate_store (t := 28) (p := 7) (v := .tmp 31) rfl ?_); refine store28 rfl (.tmp 7) (.tmp 31) rfl g7 rfl y P2y p2y P3y p3y rfl BKg7.out ?_; intro wn hblk ho; have n0_ := Aside0.mk (HB.out.trans (ho.below GHBg7.out)); have n1_ := Aside0.mk (Bk.out.trans (ho.below GBkg7.out)); have n2_ := Aside0.mk (By.out.trans (ho.below GByg7.out)); clear HB Bk By; have HB := n0_; have Bk := n1_; have By := n2_; clear n0_ n1_ n2_; clear BKg7; have BKg7 := Aside0.mk hblk; clear hblk ho; have NXn := Aside0.mk (NX.out.below Bk.out); have hcz0 : wn.cell? ⟨g5, 0, none⟩ = some (.string x.f0) := NXn.out.c0; have hcz1 : wn.cell? ⟨g5, 1, none⟩ = some (.bool x.f1) := NXn.out.c1; have hcz2 : wn.cell? ⟨g5, 2, none⟩ = some (.slice P2x x.f2.length p2x) := NXn.out.c2_; have hcz3 : wn.cell? ⟨g5, 3, none⟩ = some (.slice P3x x.f3.length p3x) := NXn.out.c3_; clear NXn) | (go_at_call 27; (with_reducible refine (rat_w (NX.out.below Bk.out).nc WS.out path HS2.out HL.out HR.out).mono ?_); rintro e wo ⟨P2z, p2z, P3z, p3z, rfl, hnc, hb⟩; clear hcz0 hcz1 hcz2 hcz3; have n0_ := Aside0.mk (below_step HB.out hb); have n1_ := Aside0.mk (below_step Bk.out hb); have n2_ := Aside0.mk (below_step By.out hb); clear HB Bk By; have HB := n0_; have Bk := n1_; have By := n2_; clear n0_ n1_ n2_; have m0_ := Aside0.mk (blk_below BKg7.out hb); clear BKg7; have BKg7 := m0_; clear m0_; have NCz := Aside0.mk hnc; have Bz := Aside0.mk (Below.refl wo.heap.size wo); clear hb hnc) | ((with_reducible refine gate_dst (N := 9) rfl ?_); refine box_event ?hg (N := 9) ?hd (cs := #[.string (⟨#[]⟩ : ByteArray), .bool false, .slice none 0 0, .slice none 0 0]) (t := 28) ?hr ?_; (case hd => rfl); (case hg => rfl); (case hr => first | (go_simp; done) | (go_simp; rfl)); intro g9 hg wp hbox hb; have GHBg9 := Aside0.mk (show w.heap.size ≤ g9 by rw [hg]; exact HB.out.size); have GBkg9 := Aside0.mk (show wk.heap.size ≤ g9 by rw [hg]; exact Bk.out.size); have GByg9 := Aside0.mk (show wl.heap.size ≤ g9 by rw [hg]; exact By.out.size); have GBzg9 := Aside0.mk (show wo.heap.size ≤ g9 by rw [hg]; exact Bz.out.size); have NEg7g9 := Aside0.mk (show g7 ≠ g9 by rw [hg]; exact Nat.ne_of_lt (blk_lt BKg7.out)); clear hg; have BKg9 := Aside0.mk hbox; clear hbox; have n0_ := Aside0.mk (below_step HB.out hb); have n1_ := Aside0.mk (below_step Bk.out hb); have n2_ := Aside0.mk (below_step By.out hb); have n3_ := Aside0.mk (below_step Bz.out hb); clear HB Bk By Bz; have HB := n0_; have Bk := n1_; have By := n2_; have Bz := n3_; clear n0_ n1_ n2_ n3_; have m0_ := Aside0.mk (blk_below BKg7.out hb); clear BKg7; have BKg7 := m0_; clear m0_; clear hb) | ((with_reducible refine gate_store (t := 28) (p := 9) (v := .tmp 37) rfl ?_); refine store28 rfl (.tmp 9) (.tmp 37) rfl g9 rfl y P2z p2z P3z p3z rfl BKg9.out ?_; intro wq hblk ho; have n0_ := Aside0.mk (HB.out.trans (ho.below GHBg9.out)); have n1_ := Aside0.mk (Bk.out.trans (ho.below GBkg9.out)); have n2_ := Aside0.mk (By.out.trans (ho.below GByg9.out)); have n3_ := Aside0.mk (Bz.out.trans (ho.below GBzg9.out)); clear HB Bk By Bz; have HB := n0_; have Bk := n1_; have By := n2_; have Bz := n3_; clear n0_ n1_ n2_ n3_; have m_ := Aside0.mk ((ho.block g7 NEg7g9.out).trans BKg7.out); clear BKg7; have BKg7 := m_; clear m_; clear BKg9; have BKg9 := Aside0.mk hblk; clear hblk ho))
  have NY := Aside0.mk (NodeAt.drew (w := _) (NodeAt.mk BKg7.out (OY.out.nc.below By.out)))
  have NZ := Aside0.mk (NodeAt.drew (w := _) (NodeAt.mk BKg9.out (NCz.out.below Bz.out)))
  have n0_ := Aside0.mk (below_drew HB.out)
  have n1_ := Aside0.mk (below_drew Bk.out)
  have n2_ := Aside0.mk (below_drew By.out)
  clear HB Bk By
  have HB := n0_
  have Bk := n1_
  have By := n2_
  clear n0_ n1_ n2_ BKg7 BKg9 NCz Bz
  go_region_held3 (fun (w' : World) => w'.cell? ⟨g7, 0, none⟩ = some (.string y.f0) ∧ w'.cell? ⟨g7, 1, none⟩ = some (.bool y.f1) ∧ w'.cell? ⟨g7, 2, none⟩ = some (.slice P2y y.f2.length p2y) ∧ w'.cell? ⟨g7, 3, none⟩ = some (.slice P3y y.f3.length p3y) ∧ w'.cell? ⟨g9, 0, none⟩ = some (.string y.f0) ∧ w'.cell? ⟨g9, 1, none⟩ = some (.bool y.f1) ∧ w'.cell? ⟨g9, 2, none⟩ = some (.slice P2z y.f2.length p2z) ∧ w'.cell? ⟨g9, 3, none⟩ = some (.slice P3z y.f3.length p3z)) (exact ⟨NY.out.c0, NY.out.c1, NY.out.c2_, NY.out.c3_, NZ.out.c0, NZ.out.c1, NZ.out.c2_, NZ.out.c3_⟩) (first | (go_at_call 21; (with_reducible refine (text_w NY.out.nc WY1.out HTY.out).mono ?_); rintro e wt ⟨rfl, hb⟩; have n0_ := Aside0.mk (below_step HB.out hb); have n1_ := Aside0.mk (below_step Bk.out hb); have n2_ := Aside0.mk (below_step By.out hb); clear HB Bk By; have HB := n0_; have Bk := n1_; have By := n2_; clear n0_ n1_ n2_; have k0_ := Aside0.mk (NY.out.below hb); have k1_ := Aside0.mk (NZ.out.below hb); clear NY NZ; have NY := k0_; have NZ := k1_; clear k0_ k1_; clear hb) | (go_at_call 21; (with_reducible refine (text_w NZ.out.nc WY1.out HTY.out).mono ?_); rintro e wu ⟨rfl, hb⟩; have n0_ := Aside0.mk (below_step HB.out hb); have n1_ := Aside0.mk (below_step Bk.out hb); have n2_ := Aside0.mk (below_step By.out hb); clear HB Bk By; have HB := n0_; have Bk := n1_; have By := n2_; clear n0_ n1_ n2_; have k0_ := Aside0.mk (NY.out.below hb); have k1_ := Aside0.mk (NZ.out.below hb); clear NY NZ; have NY := k0_; have NZ := k1_; clear k0_ k1_; clear hb))
  have BO := Aside0.mk (OY.out.by_.below By.out)
  obtain ⟨gr, KA, KK, GK⟩ : ∃ gr, Aside0 (0 < y.f3.length → P3y = some ⟨gr, 0, none⟩) ∧ Aside0 (0 < y.f3.length → KidsOK wu wk.heap.size gr y.f3.length 0) ∧ Aside0 (0 < y.f3.length → wk.heap.size ≤ gr ∧ gr ≠ g7) := by
    by_cases hp : 0 < y.f3.length
    · obtain ⟨gr, h1, h2, h3⟩ := OY.out.kids hp
      obtain ⟨cs, hcs⟩ := h3.blk
      exact ⟨gr, ⟨fun _ => h1⟩, ⟨fun _ => h3.below By.out⟩, ⟨fun _ => ⟨h2, by have := blk_lt hcs; have := GByg7.out; omega⟩⟩⟩
    · exact ⟨0, ⟨fun h => absurd h hp⟩, ⟨fun h => absurd h hp⟩, ⟨fun h => absurd h hp⟩⟩
  have W2 := Aside0.mk WY.out.len
  have BK7 := Aside0.mk (show wu.heap[g7]? = some (.cells #[.string y.f0, .bool y.f1, .slice P2y y.f2.length p2y, .slice P3y y.f3.length p3y] 28 (0, 0)) from NY.out.blk)
  clear OY By NY NZ HB
  generalize y.f3.length = n at *
  generalize y.f2.length = l at *
  have hy2 : wu.cell? ⟨g7, 2, none⟩ = some (.slice P2y l p2y) := (blk_cell BK7.out 2).trans rfl
  go_wp2
  clear hy2
  go_loopg [52] l (fun kq v52 w' => ∃ j : Nat, v52 = .int .i64 j ∧ j ≤ l ∧ Aside0 (kq = l - j) ∧ Aside0 (BytesOK w' wk.heap.size P2y l) ∧ Aside0 (0 < n → KidsOK w' wk.heap.size gr n 0) ∧ Aside0 (w'.heap[g7]? = some (.cells #[.string y.f0, .bool y.f1, .slice P2y l p2y, .slice P3y n p3y] 28 (0, 0))) ∧ Aside0 (Below wk.heap.size wk w'))
  case atStart => exact ⟨0, rfl, Nat.zero_le _, ⟨rfl⟩, BO, KK, BK7, Bk⟩
  case round =>
    clear BO KK BK7 Bk
    obtain ⟨j, rfl, hj, HJ, BO, KK, BK7, Bk⟩ := hrel
    by_cases hjl : j < l
    · have hjlb : decide ((j : Int) < (l : Int)) = true := decide_eq_true (by omega)
      have hjln : decide (j < l) = true := decide_eq_true hjl
      obtain ⟨gb, bs, rfl, HG, HBS, z, hz⟩ : ∃ gb bs, P2y = some ⟨gb, 0, none⟩ ∧ Aside0 (wk.heap.size ≤ gb) ∧ Aside0 (wr.heap[gb]? = some (.cells bs 5 (0, 0))) ∧ ∃ z, wr.cell? ⟨gb, j, none⟩ = some (.int .u8 z) := by
        rcases BO.out with h | ⟨gb, bs, h1, h2, h3, h4⟩
        · omega
        · obtain ⟨z, hz⟩ := h4 j hjl
          exact ⟨gb, bs, h1, ⟨h2⟩, ⟨h3⟩, z, by rw [blk_cell h3]; exact hz⟩
      have hy2 : wr.cell? ⟨g7, 2, none⟩ = some (.slice (some ⟨gb, 0, none⟩) l p2y) := (blk_cell BK7.out 2).trans rfl
      have hfz := blk_frozen HBS.out j
      have p5 : (0 ≤ (j : Int)) = True := eq_true (by omega)
      have q5 : ((j : Int) < (l : Int)) = True := eq_true (by omega)
      have hwj := Aside0.mk (show wrap64 ((j : Int) + 1) = ((j + 1 : Nat) : Int) from by have := WL.out; rw [n64 (by omega) (by omega)]; omega)
      go_wp2
      go_roundg (l - (j + 1))
      case measure => have := HJ.out; omega
      case rel => exact ⟨j + 1, by first | rfl | (rw [hwj.out]; done) | (simp [hwj.out]; done) | go_num, by omega, ⟨rfl⟩, ⟨BO.out.setInt HBS.out j _⟩, ⟨fun h => (KK.out h).setInt HBS.out j _⟩, ⟨blk_far BK7.out (p := ⟨gb, j, none⟩) (blk_ne BK7.out HBS.out (by decide)) _⟩, ⟨set_below Bk.out HG.out _⟩⟩
    · obtain rfl : j = l := by omega
      have hjlb : decide ((j : Int) < (j : Int)) = false := decide_eq_false (by omega)
      have hjln : decide (j < j) = false := decide_eq_false (by omega)
      have hy3 : wr.cell? ⟨g7, 3, none⟩ = some (.slice P3y n p3y) := (blk_cell BK7.out 3).trans rfl
      clear BO
      go_wp2
      clear hy3
      go_loopg [66] n (fun kq v66 w' => ∃ i : Nat, v66 = .int .i64 i ∧ i ≤ n ∧ Aside0 (kq = n - i) ∧ Aside0 (0 < n → KidsOK w' wk.heap.size gr n i) ∧ Aside0 (w'.heap[g7]? = some (.cells #[.string y.f0, .bool y.f1, .slice P2y j p2y, .slice P3y n p3y] 28 (0, 0))) ∧ Aside0 (Below wk.heap.size wk w'))
      case atStart => exact ⟨0, rfl, Nat.zero_le _, ⟨rfl⟩, KK, BK7, Bk⟩
      case round =>
        clear KK BK7 Bk
        obtain ⟨i, rfl, hi, HQ, KK, BK7, Bk⟩ := hrel
        by_cases hlt : i < n
        · have hltb : decide ((i : Int) < (n : Int)) = true := decide_eq_true (by omega)
          have hltn : decide (i < n) = true := decide_eq_true hlt
          obtain rfl := KA.out (by omega)
          have G1 := Aside0.mk (GK.out (by omega)).1
          have G2 := Aside0.mk (GK.out (by omega)).2
          have K1 := Aside0.mk (KK.out (by omega))
          clear KK
          have hy3 : wr.cell? ⟨g7, 3, none⟩ = some (.slice (some ⟨gr, 0, none⟩) n p3y) := (blk_cell BK7.out 3).trans rfl
          have p4 : (0 ≤ (i : Int)) = True := eq_true (by omega)
          have q4 : ((i : Int) < (n : Int)) = True := eq_true (by omega)
          have hwi := Aside0.mk (show wrap64 ((i : Int) + 1) = ((i + 1 : Nat) : Int) from by have := W2.out; rw [n64 (by omega) (by omega)]; omega)
          obtain ⟨ck, hck⟩ := K1.out.blk
          have HCK := Aside0.mk hck
          clear hck
          obtain ⟨s, hs, hsz⟩ := K1.out.name hlt
          have hfz := blk_frozen HCK.out (i * 4)
          have hcat : (9223372036854775807 < s.size + (⟨#[120]⟩ : ByteArray).size) = False := eq_false (by have : (⟨#[120]⟩ : ByteArray).size = 1 := rfl; omega)
          have hcat1 : (9223372036854775807 < s.size + 1) = False := eq_false (by omega)
          clear hsz
          go_wp2
          go_roundg (n - (i + 1))
          case measure => have := HQ.out; omega
          case rel => exact ⟨i + 1, by first | rfl | (rw [hwi.out]; done) | (simp [hwi.out]; done) | go_num, by omega, ⟨rfl⟩, ⟨fun _ => K1.out.setStr _⟩, ⟨blk_far BK7.out (p := ⟨gr, i * 4, none⟩) (Ne.symm G2.out) _⟩, ⟨set_below Bk.out G1.out _⟩⟩
        · obtain rfl : i = n := by omega
          have hltb : decide ((i : Int) < (i : Int)) = false := decide_eq_false (by omega)
          have hltn : decide (i < i) = false := decide_eq_false (by omega)
          have NY := Aside0.mk (NX.out.below Bk.out)
          have hcz0 := NY.out.c0
          have hcz1 := NY.out.c1
          have hcz2 := NY.out.c2_
          have hcz3 := NY.out.c3_
          go_wp2_with (first | (go_at_call 21; (with_reducible refine (text_w NY.out.nc W0.out HTX.out).mono ?_); rintro e ws_ ⟨rfl, hb⟩; have HE := Aside0.mk (Bk.out.trans (hb.mono Bk.out.size)); clear hb hcz0 hcz1 hcz2 hcz3) | (go_at_call 12; (with_reducible refine (awake_w _).mono ?_); rintro e wt_ ⟨rfl, hb⟩; have HE2 := Aside0.mk (HE.out.trans (hb.mono HE.out.size)); clear HE hb))
          go_ret
          exact ⟨rfl, (HBk.out.trans (HE2.out.mono WK.out))⟩
end Go.Proofs.YthpgbhpnlnpfnaaDoor.Law
