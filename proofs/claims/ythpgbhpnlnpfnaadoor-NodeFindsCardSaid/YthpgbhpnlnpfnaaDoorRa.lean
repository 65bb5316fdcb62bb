/- The document's At: a kid of a name; the node of a path. -/
import Derived.Test.YthpgbhpnlnpfnaaDoorAv
import Derived.Test.YthpgbhpnlnpfnaaDoorPs
namespace Go.Proofs.YthpgbhpnlnpfnaaDoor.Law
open Go Go.RowKit Go.Proofs.YthpgbhpnlnpfnaaDoor Go.Proofs.YthpgbhpnlnpfnaaDoorW.PrintWords Go.Proofs.YthpgbhpnlnpfnaaDoorW.PrintLast Go.Proofs.YthpgbhpnlnpfnaaDoorW.PrintMore Go.Proofs.YthpgbhpnlnpfnaaDoor.E
set_option linter.unusedSimpArgs false
set_option linter.unusedVariables false
set_option maxHeartbeats 8000000 in
set_option maxRecDepth 100000 in
theorem kid_no {x : S28} {A2 : Option Addr} {c2 : Nat} {A3 : Option Addr} {c3 : Nat} {w0 w : World} (h : NC w0 x A2 c2 A3 c3) (hb0 : Below w0.heap.size w0 w) (hw : Sm x) (s : ByteArray) (hix : ixOf x.f3 s = -1) :
    Calls Tryd.prog 44 #[.agg #[.string x.f0, .bool x.f1, .slice A2 x.f2.length c2, .slice A3 x.f3.length c3], .string s] w fun e w' => e = .returned (.tuple #[.agg #[.string (⟨#[]⟩ : ByteArray), .bool false, .slice none 0 0, .slice none 0 0], .bool false]) ∧ Below w.heap.size w w' := by
  have NX := Aside0.mk h
  have HB0 := Aside0.mk hb0
  have HW := Aside0.mk hw
  have HX0 := Aside0.mk hix
  have B0 := Aside0.mk (Below.refl w.heap.size w)
  obtain ⟨n, en⟩ : ∃ n, n = x.f3.length := ⟨_, rfl⟩
  have EN := Aside0.mk en
  have HLN := Aside0.mk (show n ≤ 1000 by have := hw.len; omega)
  rw [← en]
  clear h hb0 hw hix en
  go_enter Tryd.func44, Tryd.ntmps44
  go_wp2_with (first | ((with_reducible refine gate_dst (N := 2) rfl ?_); refine box_event ?hg (N := 2) ?hd (cs := #[.string x.f0, .bool x.f1, .slice A2 x.f2.length c2, .slice A3 n c3]) (t := 28) ?hr ?_; (case hd => rfl); (case hg => rfl); (case hr => first | (go_simp; done) | (go_simp; rfl)); intro g2 hg wa hbox hb; have GB0g2 := Aside0.mk (show w.heap.size ≤ g2 by rw [hg]; exact B0.out.size); clear hg; have n0_ := Aside0.mk (below_step B0.out hb); clear B0; have B0 := n0_; clear n0_; have BKg2 := Aside0.mk hbox; clear hbox hb) | ((with_reducible refine gate_dst (N := 4) rfl ?_); refine box_event ?hg (N := 4) ?hd (cs := #[.string (⟨#[]⟩ : ByteArray), .bool false, .slice none 0 0, .slice none 0 0]) (t := 28) ?hr ?_; (case hd => rfl); (case hg => rfl); (case hr => first | (go_simp; done) | (go_simp; rfl)); intro g4 hg wb hbox hb; have GB0g4 := Aside0.mk (show w.heap.size ≤ g4 by rw [hg]; exact B0.out.size); have NEg2g4 := Aside0.mk (show g2 ≠ g4 by rw [hg]; exact Nat.ne_of_lt (blk_lt BKg2.out)); clear hg; have BKg4 := Aside0.mk hbox; clear hbox; have n0_ := Aside0.mk (below_step B0.out hb); clear B0; have B0 := n0_; clear n0_; have m0_ := Aside0.mk (blk_below BKg2.out hb); clear BKg2; have BKg2 := m0_; clear m0_; clear hb))
  go_loopg [6] n (fun kq v6 w' => ∃ i : Nat, v6 = .int .i64 i ∧ i ≤ n ∧ Aside0 (kq = n - i) ∧ Aside0 (ixFrom s (x.f3.drop i) i = -1) ∧ Aside0 (w'.heap[g2]? = some (.cells #[.string x.f0, .bool x.f1, .slice A2 x.f2.length c2, .slice A3 n c3] 28 (0, 0))) ∧ Aside0 (w'.heap[g4]? = some (.cells #[.string (⟨#[]⟩ : ByteArray), .bool false, .slice none 0 0, .slice none 0 0] 28 (0, 0))) ∧ Aside0 (Below w.heap.size w w'))
  case atStart => exact ⟨0, rfl, Nat.zero_le _, ⟨rfl⟩, HX0, BKg2, BKg4, B0⟩
  case round =>
    clear HX0 BKg2 BKg4 B0
    obtain ⟨i, rfl, hi, HQ, HX, BKg2, BKg4, B0⟩ := hrel
    have hc3 : wr.cell? ⟨g2, 3, none⟩ = some (.slice A3 n c3) := (blk_cell BKg2.out 3).trans rfl
    by_cases hlt : i < n
    case pos =>
      have hltb : decide ((i : Int) < (n : Int)) = true := decide_eq_true (by omega)
      have hltn : decide (i < n) = true := decide_eq_true hlt
      have HIL := Aside0.mk (show i < x.f3.length from EN.out ▸ hlt)
      have p4 : (0 ≤ (i : Int)) = True := eq_true (by omega)
      have q4 : ((i : Int) < (n : Int)) = True := eq_true (by omega)
      have hwi := Aside0.mk (show wrap64 ((i : Int) + 1) = ((i + 1 : Nat) : Int) from by have := HLN.out; rw [n64 (by omega) (by omega)]; omega)
      obtain ⟨ak, K2, q2, K3, q3, ea, hnk, ha0, ha1, ha2, ha3⟩ := NodeC_at NX.out (below_step HB0.out B0.out) i HIL.out
      subst ea
      have NK := Aside0.mk hnk
      have hxx := HX.out
      rw [drop_rd x.f3 i HIL.out, ixFrom] at hxx
      have HX2 := Aside0.mk hxx
      clear hnk hxx HX
      by_cases hs : (rd_T28 x.f3 (i : Int)).f0.toList = s.toList
      · have := HX2.out
        rw [if_pos hs] at this
        omega
      ·
        have HE := Aside0.mk (show ((rd_T28 x.f3 (i : Int)).f0.toList == s.toList) = false from beq_eq_false_iff_ne.mpr hs)
        have HX3 := Aside0.mk (show ixFrom s (x.f3.drop (i + 1)) (i + 1) = -1 by have := HX2.out; rw [if_neg hs] at this; exact this)
        have he := HE.out
        clear hs HX2
        go_wp2
        go_roundg (n - (i + 1))
        case measure => have := HQ.out; omega
        case rel => exact ⟨i + 1, by first | rfl | (rw [hwi.out]; done) | (simp [hwi.out]; done) | go_num, by omega, ⟨rfl⟩, HX3, BKg2, BKg4, B0⟩
    case neg =>
      obtain rfl : i = n := by omega
      have hltb : decide ((i : Int) < (i : Int)) = false := decide_eq_false (by omega)
      have hltn : decide (i < i) = false := decide_eq_false (by omega)
      go_wp2_with (first | ((with_reducible refine gate_store (t := 28) (p := 4) (v := .tmp 27) rfl ?_); refine store28 rfl (.tmp 4) (.tmp 27) rfl g4 rfl z28 none 0 none 0 rfl BKg4.out ?_; intro wz hblk ho; have n0_ := Aside0.mk (B0.out.trans (ho.below GB0g4.out)); clear B0 BKg4; have B0 := n0_; clear n0_; have BKg4 := Aside0.mk hblk; clear hblk ho))
      refine bodyPost_ret (results_ct rfl _ _ g4 28 (nV z28 none 0 none 0).toArray (0, 0) _ rfl BKg4.out Tryd.underlying28 rfl (by kernel_rfl)) rfl ?_
      exact ⟨rfl, B0.out⟩
set_option maxHeartbeats 8000000 in
set_option maxRecDepth 100000 in
theorem kid_yes {x : S28} {A2 : Option Addr} {c2 : Nat} {A3 : Option Addr} {c3 : Nat} {w0 w : World} (h : NC w0 x A2 c2 A3 c3) (hb0 : Below w0.heap.size w0 w) (hw : Sm x) (s : ByteArray) (m : Nat) (hix : ixOf x.f3 s = (m : Int)) (hm : m < x.f3.length) :
    Calls Tryd.prog 44 #[.agg #[.string x.f0, .bool x.f1, .slice A2 x.f2.length c2, .slice A3 x.f3.length c3], .string s] w fun e w' => ∃ (K2 : Option Addr) (q2 : Nat) (K3 : Option Addr) (q3 : Nat), e = .returned (.tuple #[.agg #[.string (rd_T28 x.f3 (m : Int)).f0, .bool (rd_T28 x.f3 (m : Int)).f1, .slice K2 (rd_T28 x.f3 (m : Int)).f2.length q2, .slice K3 (rd_T28 x.f3 (m : Int)).f3.length q3], .bool true]) ∧ NC w0 (rd_T28 x.f3 (m : Int)) K2 q2 K3 q3 ∧ Below w.heap.size w w' := by
  have NX := Aside0.mk h
  have HB0 := Aside0.mk hb0
  have HW := Aside0.mk hw
  have HX0 := Aside0.mk hix
  have B0 := Aside0.mk (Below.refl w.heap.size w)
  obtain ⟨n, en⟩ : ∃ n, n = x.f3.length := ⟨_, rfl⟩
  have EN := Aside0.mk en
  have HLN := Aside0.mk (show n ≤ 1000 by have := hw.len; omega)
  rw [← en]
  clear h hb0 hw hix en hm
  go_enter Tryd.func44, Tryd.ntmps44
  go_wp2_with (first | ((with_reducible refine gate_dst (N := 2) rfl ?_); refine box_event ?hg (N := 2) ?hd (cs := #[.string x.f0, .bool x.f1, .slice A2 x.f2.length c2, .slice A3 n c3]) (t := 28) ?hr ?_; (case hd => rfl); (case hg => rfl); (case hr => first | (go_simp; done) | (go_simp; rfl)); intro g2 hg wa hbox hb; have GB0g2 := Aside0.mk (show w.heap.size ≤ g2 by rw [hg]; exact B0.out.size); clear hg; have n0_ := Aside0.mk (below_step B0.out hb); clear B0; have B0 := n0_; clear n0_; have BKg2 := Aside0.mk hbox; clear hbox hb) | ((with_reducible refine gate_dst (N := 4) rfl ?_); refine box_event ?hg (N := 4) ?hd (cs := #[.string (⟨#[]⟩ : ByteArray), .bool false, .slice none 0 0, .slice none 0 0]) (t := 28) ?hr ?_; (case hd => rfl); (case hg => rfl); (case hr => first | (go_simp; done) | (go_simp; rfl)); intro g4 hg wb hbox hb; have GB0g4 := Aside0.mk (show w.heap.size ≤ g4 by rw [hg]; exact B0.out.size); have NEg2g4 := Aside0.mk (show g2 ≠ g4 by rw [hg]; exact Nat.ne_of_lt (blk_lt BKg2.out)); clear hg; have BKg4 := Aside0.mk hbox; clear hbox; have n0_ := Aside0.mk (below_step B0.out hb); clear B0; have B0 := n0_; clear n0_; have m0_ := Aside0.mk (blk_below BKg2.out hb); clear BKg2; have BKg2 := m0_; clear m0_; clear hb))
  go_loopg [6] n (fun kq v6 w' => ∃ i : Nat, v6 = .int .i64 i ∧ i ≤ n ∧ Aside0 (kq = n - i) ∧ Aside0 (ixFrom s (x.f3.drop i) i = (m : Int)) ∧ Aside0 (w'.heap[g2]? = some (.cells #[.string x.f0, .bool x.f1, .slice A2 x.f2.length c2, .slice A3 n c3] 28 (0, 0))) ∧ Aside0 (w'.heap[g4]? = some (.cells #[.string (⟨#[]⟩ : ByteArray), .bool false, .slice none 0 0, .slice none 0 0] 28 (0, 0))) ∧ Aside0 (Below w.heap.size w w'))
  case atStart => exact ⟨0, rfl, Nat.zero_le _, ⟨rfl⟩, HX0, BKg2, BKg4, B0⟩
  case round =>
    clear HX0 BKg2 BKg4 B0
    obtain ⟨i, rfl, hi, HQ, HX, BKg2, BKg4, B0⟩ := hrel
    have hc3 : wr.cell? ⟨g2, 3, none⟩ = some (.slice A3 n c3) := (blk_cell BKg2.out 3).trans rfl
    by_cases hlt : i < n
    case pos =>
      have hltb : decide ((i : Int) < (n : Int)) = true := decide_eq_true (by omega)
      have hltn : decide (i < n) = true := decide_eq_true hlt
      have HIL := Aside0.mk (show i < x.f3.length from EN.out ▸ hlt)
      have p4 : (0 ≤ (i : Int)) = True := eq_true (by omega)
      have q4 : ((i : Int) < (n : Int)) = True := eq_true (by omega)
      have hwi := Aside0.mk (show wrap64 ((i : Int) + 1) = ((i + 1 : Nat) : Int) from by have := HLN.out; rw [n64 (by omega) (by omega)]; omega)
      obtain ⟨ak, K2, q2, K3, q3, ea, hnk, ha0, ha1, ha2, ha3⟩ := NodeC_at NX.out (below_step HB0.out B0.out) i HIL.out
      subst ea
      have NK := Aside0.mk hnk
      have hxx := HX.out
      rw [drop_rd x.f3 i HIL.out, ixFrom] at hxx
      have HX2 := Aside0.mk hxx
      clear hnk hxx HX
      by_cases hs : (rd_T28 x.f3 (i : Int)).f0.toList = s.toList
      · have HM := Aside0.mk (show i = m by have := HX2.out; rw [if_pos hs] at this; omega)
        have he : ((rd_T28 x.f3 (i : Int)).f0.toList == s.toList) = true := beq_iff_eq.mpr hs
        clear hs HX2
        go_wp2_with (first | ((with_reducible refine gate_store (t := 28) (p := 4) (v := .tmp 26) rfl ?_); refine store28 rfl (.tmp 4) (.tmp 26) rfl g4 rfl (rd_T28 x.f3 (i : Int)) K2 q2 K3 q3 rfl BKg4.out ?_; intro wz hblk ho; have n0_ := Aside0.mk (B0.out.trans (ho.below GB0g4.out)); clear B0 BKg4; have B0 := n0_; clear n0_; have BKg4 := Aside0.mk hblk; clear hblk ho))
        refine bodyPost_ret (results_ct rfl _ _ g4 28 (nV (rd_T28 x.f3 (i : Int)) K2 q2 K3 q3).toArray (0, 0) _ rfl BKg4.out Tryd.underlying28 rfl (by kernel_rfl)) rfl ?_
        rw [← HM.out]
        exact ⟨K2, q2, K3, q3, rfl, NK.out, B0.out⟩
      ·
        have HE := Aside0.mk (show ((rd_T28 x.f3 (i : Int)).f0.toList == s.toList) = false from beq_eq_false_iff_ne.mpr hs)
        have HX3 := Aside0.mk (show ixFrom s (x.f3.drop (i + 1)) (i + 1) = (m : Int) by have := HX2.out; rw [if_neg hs] at this; exact this)
        have he := HE.out
        clear hs HX2
        go_wp2
        go_roundg (n - (i + 1))
        case measure => have := HQ.out; omega
        case rel => exact ⟨i + 1, by first | rfl | (rw [hwi.out]; done) | (simp [hwi.out]; done) | go_num, by omega, ⟨rfl⟩, HX3, BKg2, BKg4, B0⟩
    case neg =>
      obtain rfl : i = n := by omega
      have h := HX.out
      rw [EN.out, List.drop_length, ixFrom] at h
      omega
theorem far4 {w w0 : World} {a : Addr} {v u a0 a1 a2 a3 : Value} (h : w.cell? a = some v) (h0 : w0.cell? a = some u) : ((((w.setCell ⟨w0.heap.size, 0, none⟩ a0).setCell ⟨w0.heap.size, 1, none⟩ a1).setCell ⟨w0.heap.size, 2, none⟩ a2).setCell ⟨w0.heap.size, 3, none⟩ a3).cell? a = some v := by
  have hlt := World.block_lt_of_cell? w0 a h0
  have ne : ∀ j, a ≠ (⟨w0.heap.size, j, none⟩ : Addr) := fun j e => by rw [e] at hlt; exact Nat.lt_irrefl _ hlt
  rw [World.cell?_setCell_other _ _ _ _ (Ne.symm (ne 3)), World.cell?_setCell_other _ _ _ _ (Ne.symm (ne 2)), World.cell?_setCell_other _ _ _ _ (Ne.symm (ne 1)), World.cell?_setCell_other _ _ _ _ (Ne.symm (ne 0)), h]
theorem set4_blk {w : World} {g : Nat} {a0 a1 a2 a3 b0 b1 b2 b3 : Value} (h : w.heap[g]? = some (.cells #[b0, b1, b2, b3] 28 (0, 0))) : ((((w.setCell ⟨g, 0, none⟩ a0).setCell ⟨g, 1, none⟩ a1).setCell ⟨g, 2, none⟩ a2).setCell ⟨g, 3, none⟩ a3).heap[g]? = some (.cells #[a0, a1, a2, a3] 28 (0, 0)) := setRow4 h
set_option maxHeartbeats 8000000 in
set_option maxRecDepth 100000 in
theorem rat_w {x : S28} {A2 : Option Addr} {c2 : Nat} {A3 : Option Addr} {c3 : Nat} {w : World} (h : NC w x A2 c2 A3 c3) (hw : Sm x) (p : ByteArray) {L : List ByteArray} {E : Int} {k : Nat} (hS : hypogeumref21_Split.f k p = some (L, E)) (hL : L.length ≤ 100000) {y : S28} {q : Int} (hR : atR x L E = (y, q)) :
    Calls Tryd.prog 27 #[.agg #[.string x.f0, .bool x.f1, .slice A2 x.f2.length c2, .slice A3 x.f3.length c3], .string p] w fun e w' => ∃ (B2 : Option Addr) (d2 : Nat) (B3 : Option Addr) (d3 : Nat),
      e = .returned (.tuple #[.agg #[.string y.f0, .bool y.f1, .slice B2 y.f2.length d2, .slice B3 y.f3.length d3], .int .i64 q]) ∧ NC w' y B2 d2 B3 d3 ∧ Below w.heap.size w w' := by
  have NX := Aside0.mk h
  have HW := Aside0.mk hw
  have HS := Aside0.mk hS
  have HL := Aside0.mk hL
  have HR := Aside0.mk hR
  have B0 := Aside0.mk (Below.refl w.heap.size w)
  clear h hw hS hL hR
  by_cases he : E = 0
  case neg =>
    have cb0 : (E == 0) = false := beq_eq_false_iff_ne.mpr he
    have cb1 : (E != 0) = true := bne_iff_ne.mpr he
    obtain ⟨RY, RQ⟩ : Aside0 (y = z28) ∧ Aside0 (q = E) := by
      have h := HR.out
      unfold atR at h
      rw [if_neg he] at h
      injection h with h1 h2
      exact ⟨⟨h1.symm⟩, ⟨h2.symm⟩⟩
    clear he
    go_enter Tryd.func27, Tryd.ntmps27
    go_wp2_with (first | ((with_reducible refine gate_dst (N := 2) rfl ?_); refine box_event ?hg (N := 2) ?hd (cs := #[.string x.f0, .bool x.f1, .slice A2 x.f2.length c2, .slice A3 x.f3.length c3]) (t := 28) ?hr ?_; (case hd => rfl); (case hg => rfl); (case hr => first | (go_simp; done) | (go_simp; rfl)); intro g2 hg wa hbox hb; have GB0g2 := Aside0.mk (show w.heap.size ≤ g2 by rw [hg]; exact B0.out.size); clear hg; have n0_ := Aside0.mk (below_step B0.out hb); clear B0; have B0 := n0_; clear n0_; have BKg2 := Aside0.mk (show wa.heap[g2]? = some (.cells (nV x A2 c2 A3 c3).toArray 28 (0, 0)) from hbox); clear hbox hb) | ((with_reducible refine gate_dst (N := 4) rfl ?_); refine box_event ?hg (N := 4) ?hd (cs := #[.string (⟨#[]⟩ : ByteArray), .bool false, .slice none 0 0, .slice none 0 0]) (t := 28) ?hr ?_; (case hd => rfl); (case hg => rfl); (case hr => first | (go_simp; done) | (go_simp; rfl)); intro g4 hg wb hbox hb; have GB0g4 := Aside0.mk (show w.heap.size ≤ g4 by rw [hg]; exact B0.out.size); have NEg2g4 := Aside0.mk (show g2 ≠ g4 by rw [hg]; exact Nat.ne_of_lt (blk_lt BKg2.out)); clear hg; have BKg4 := Aside0.mk hbox; clear hbox; have n0_ := Aside0.mk (below_step B0.out hb); clear B0; have B0 := n0_; clear n0_; have m0_ := Aside0.mk (blk_below BKg2.out hb); clear BKg2; have BKg2 := m0_; clear m0_; clear hb) | (go_at_call 17; (with_reducible refine (hypogeumref21_Split.calls _ _ L _ _ HS.out).mono ?_); rintro e ws ⟨v0_, rfl, ho, hb⟩; obtain ⟨AN, cn, ev⟩ := Kd.R_slice ho; subst ev; have G2S := Aside0.mk (blk_lt BKg2.out); have G4S := Aside0.mk (blk_lt BKg4.out); have HN := Aside0.mk (own_foot ho G2S.out); clear ho; have n0_ := Aside0.mk (below_step B0.out hb); clear B0; have B0 := n0_; clear n0_; have m0_ := Aside0.mk (blk_below BKg2.out hb); have m1_ := Aside0.mk (blk_below BKg4.out hb); clear BKg2 BKg4; have BKg2 := m0_; have BKg4 := m1_; clear m0_ m1_; have BS4 := BKg4; clear hb) | ((with_reducible refine gate_store (t := 28) (p := 4) (v := .tmp 18) rfl ?_); refine store28 rfl (.tmp 4) (.tmp 18) rfl g4 rfl z28 none 0 none 0 rfl BKg4.out ?_; intro wz hblk ho; have n0_ := Aside0.mk (B0.out.trans (ho.below GB0g4.out)); clear B0 BKg4; have B0 := n0_; clear n0_; have BKg4 := Aside0.mk hblk; clear hblk ho))
    refine bodyPost_ret (results_ct rfl _ _ g4 28 (nV z28 none 0 none 0).toArray (0, 0) _ rfl BKg4.out Tryd.underlying28 rfl (by kernel_rfl)) rfl ?_
    exact ⟨none, 0, none, 0, by rw [RY.out, RQ.out]; rfl, by rw [RY.out]; exact (own_zero _ 0).nc, B0.out⟩
  case pos =>
  subst he
  have HR2 := Aside0.mk (show (match findP x L with | none => (z28, (18 : Int)) | some y => (y, 0)) = (y, q) by have h := HR.out; unfold atR at h; rwa [if_pos rfl] at h)
  clear HR
  go_enter Tryd.func27, Tryd.ntmps27
  go_wp2_with (first | ((with_reducible refine gate_dst (N := 2) rfl ?_); refine box_event ?hg (N := 2) ?hd (cs := #[.string x.f0, .bool x.f1, .slice A2 x.f2.length c2, .slice A3 x.f3.length c3]) (t := 28) ?hr ?_; (case hd => rfl); (case hg => rfl); (case hr => first | (go_simp; done) | (go_simp; rfl)); intro g2 hg wa hbox hb; have GB0g2 := Aside0.mk (show w.heap.size ≤ g2 by rw [hg]; exact B0.out.size); clear hg; have n0_ := Aside0.mk (below_step B0.out hb); clear B0; have B0 := n0_; clear n0_; have BKg2 := Aside0.mk (show wa.heap[g2]? = some (.cells (nV x A2 c2 A3 c3).toArray 28 (0, 0)) from hbox); clear hbox hb) | ((with_reducible refine gate_dst (N := 4) rfl ?_); refine box_event ?hg (N := 4) ?hd (cs := #[.string (⟨#[]⟩ : ByteArray), .bool false, .slice none 0 0, .slice none 0 0]) (t := 28) ?hr ?_; (case hd => rfl); (case hg => rfl); (case hr => first | (go_simp; done) | (go_simp; rfl)); intro g4 hg wb hbox hb; have GB0g4 := Aside0.mk (show w.heap.size ≤ g4 by rw [hg]; exact B0.out.size); have NEg2g4 := Aside0.mk (show g2 ≠ g4 by rw [hg]; exact Nat.ne_of_lt (blk_lt BKg2.out)); clear hg; have BKg4 := Aside0.mk hbox; clear hbox; have n0_ := Aside0.mk (below_step B0.out hb); clear B0; have B0 := n0_; clear n0_; have m0_ := Aside0.mk (blk_below BKg2.out hb); clear BKg2; have BKg2 := m0_; clear m0_; clear hb) | (go_at_call 17; (with_reducible refine (hypogeumref21_Split.calls _ _ L _ _ HS.out).mono ?_); rintro e ws ⟨v0_, rfl, ho, hb⟩; obtain ⟨AN, cn, ev⟩ := Kd.R_slice ho; subst ev; have G2S := Aside0.mk (blk_lt BKg2.out); have G4S := Aside0.mk (blk_lt BKg4.out); have HN := Aside0.mk (own_foot ho G2S.out); clear ho; have n0_ := Aside0.mk (below_step B0.out hb); clear B0; have B0 := n0_; clear n0_; have m0_ := Aside0.mk (blk_below BKg2.out hb); have m1_ := Aside0.mk (blk_below BKg4.out hb); clear BKg2 BKg4; have BKg2 := m0_; have BKg4 := m1_; clear m0_ m1_; have BS4 := BKg4; clear hb))
  obtain ⟨n, en⟩ : ∃ n, n = L.length := ⟨_, rfl⟩
  have EN := Aside0.mk en
  have HLN := Aside0.mk (show n ≤ 100000 by have := HL.out; omega)
  rw [← en]
  clear en
  have NE42 := Aside0.mk (show g4 ≠ g2 from fun h => NEg2g4.out h.symm)
  go_loopg [8] n (fun kq v8 w' => ∃ (i : Nat) (xc : S28) (C2 : Option Addr) (k2 : Nat) (C3 : Option Addr) (k3 : Nat), v8 = .int .i64 i ∧ i ≤ n ∧ Aside0 (kq = n - i) ∧ Aside0 (findP xc (L.drop i) = findP x L) ∧ Aside0 (w'.heap[g2]? = some (.cells (nV xc C2 k2 C3 k3).toArray 28 (0, 0))) ∧ Aside0 (NC w xc C2 k2 C3 k3) ∧ Aside0 (Sm xc) ∧ Aside0 (KB ws w' g2) ∧ Aside0 (Below w.heap.size w w'))
  case atStart => exact ⟨0, x, A2, c2, A3, c3, rfl, Nat.zero_le _, ⟨rfl⟩, ⟨rfl⟩, BKg2, NX, HW, ⟨KB.refl _ _⟩, B0⟩
  case round =>
    clear BKg2 B0
    obtain ⟨i, xc, C2, k2, C3, k3, rfl, hi, HQ, HF, BKg2, NXc, HWc, HKB, B0⟩ := hrel
    have hc0 : wr.cell? ⟨g2, 0, none⟩ = some (.string xc.f0) := (blk_cell BKg2.out 0).trans rfl
    have hc1 : wr.cell? ⟨g2, 1, none⟩ = some (.bool xc.f1) := (blk_cell BKg2.out 1).trans rfl
    have hc2 : wr.cell? ⟨g2, 2, none⟩ = some (.slice C2 xc.f2.length k2) := (blk_cell BKg2.out 2).trans rfl
    have hc3 : wr.cell? ⟨g2, 3, none⟩ = some (.slice C3 xc.f3.length k3) := (blk_cell BKg2.out 3).trans rfl
    by_cases hlt : i < n
    · have hltb : decide ((i : Int) < (n : Int)) = true := decide_eq_true (by omega)
      have hltn : decide (i < n) = true := decide_eq_true hlt
      have HIL := Aside0.mk (show i < L.length from EN.out ▸ hlt)
      have p4 : (0 ≤ (i : Int)) = True := eq_true (by omega)
      have q4 : ((i : Int) < (n : Int)) = True := eq_true (by omega)
      have hwi := Aside0.mk (show wrap64 ((i : Int) + 1) = ((i + 1 : Nat) : Int) from by have := HLN.out; rw [n64 (by omega) (by omega)]; omega)
      obtain ⟨ad, rfl, hsc⟩ := str_at (HN.out _ HKB.out.2) i HIL.out
      have HD := Aside0.mk (show L.drop i = L[i]'HIL.out :: L.drop (i + 1) from List.drop_eq_getElem_cons HIL.out)
      obtain ⟨s, HSI⟩ : ∃ s, Aside0 (L[i]'HIL.out = s) := ⟨_, ⟨rfl⟩⟩
      have hs1 : wr.cell? (ad.add i) = some (.string s) := by rw [← HSI.out]; exact hsc
      clear hsc
      rcases ixOf_cases xc.f3 s with hix | ⟨m, hix, hm⟩
      · have HIX := Aside0.mk hix
        have HNO := Aside0.mk (show findP x L = none by
          rw [← HF.out, HD.out, HSI.out, findP, if_pos (by rw [hix]; decide)])
        clear hix
        obtain ⟨RY, RQ⟩ : Aside0 (y = z28) ∧ Aside0 (q = 18) := by
          have h := HR2.out
          rw [HNO.out] at h
          injection h with h1 h2
          exact ⟨⟨h1.symm⟩, ⟨h2.symm⟩⟩
        go_wp2
        go_region_held3 (fun (w' : World) => w'.cell? ⟨g2, 0, none⟩ = some (.string xc.f0) ∧ w'.cell? ⟨g2, 1, none⟩ = some (.bool xc.f1) ∧ w'.cell? ⟨g2, 2, none⟩ = some (.slice C2 xc.f2.length k2) ∧ w'.cell? ⟨g2, 3, none⟩ = some (.slice C3 xc.f3.length k3) ∧ w'.cell? (ad.add i) = some (.string s)) (first | exact ⟨hc0, hc1, hc2, hc3, hs1⟩ | (with_reducible exact ⟨hd0, hd1, hd2, hd3, hd4⟩) | (with_reducible exact ⟨far4 hd0 hc0, far4 hd1 hc1, far4 hd2 hc2, far4 hd3 hc3, far4 hd4 hs1⟩) | go_keep) (first | (go_at_call 44; (with_reducible refine (kid_no NXc.out (below_drew B0.out) HWc.out s HIX.out).mono ?_); rintro e wd ⟨rfl, hb⟩; have dB := Aside0.mk (below_step (below_drew B0.out) hb); have dK := Aside0.mk (KB.below (KB.below HKB.out (below_drew (Below.refl _ _))) hb); have dG := Aside0.mk (blk_below (blk_drew BKg2.out) hb); have hd0 : wd.cell? ⟨g2, 0, none⟩ = some (.string xc.f0) := pw_cell_below hb ((show wr.drew.cell? _ = _ from hc0)); have hd1 : wd.cell? ⟨g2, 1, none⟩ = some (.bool xc.f1) := pw_cell_below hb ((show wr.drew.cell? _ = _ from hc1)); have hd2 : wd.cell? ⟨g2, 2, none⟩ = some (.slice C2 xc.f2.length k2) := pw_cell_below hb ((show wr.drew.cell? _ = _ from hc2)); have hd3 : wd.cell? ⟨g2, 3, none⟩ = some (.slice C3 xc.f3.length k3) := pw_cell_below hb ((show wr.drew.cell? _ = _ from hc3)); have hd4 : wd.cell? (ad.add i) = some (.string s) := pw_cell_below hb ((show wr.drew.cell? _ = _ from hs1)); clear hb) | (go_at_call 44; (with_reducible refine (kid_no NXc.out (below_drew (below_alloc B0.out (.cells #[.string (⟨#[]⟩ : ByteArray), .bool false, .slice none 0 0, .slice none 0 0] 28))) HWc.out s HIX.out).mono ?_); rintro e wd ⟨rfl, hb⟩; have dB := Aside0.mk (below_step (below_drew (below_alloc B0.out (.cells #[.string (⟨#[]⟩ : ByteArray), .bool false, .slice none 0 0, .slice none 0 0] 28))) hb); have dK := Aside0.mk (KB.below (KB.below HKB.out (below_drew (below_alloc (Below.refl _ _) _))) hb); have dG := Aside0.mk (blk_below (blk_drew (blk_alloc BKg2.out _)) hb); have d9 := Aside0.mk (blk_below (blk_drew (heap_alloc_new wr (.cells #[.string (⟨#[]⟩ : ByteArray), .bool false, .slice none 0 0, .slice none 0 0] 28))) hb); have hd0 : wd.cell? ⟨g2, 0, none⟩ = some (.string xc.f0) := pw_cell_below hb ((pw_cell_below (below_drew (below_alloc (Below.refl wr.heap.size wr) _)) hc0)); have hd1 : wd.cell? ⟨g2, 1, none⟩ = some (.bool xc.f1) := pw_cell_below hb ((pw_cell_below (below_drew (below_alloc (Below.refl wr.heap.size wr) _)) hc1)); have hd2 : wd.cell? ⟨g2, 2, none⟩ = some (.slice C2 xc.f2.length k2) := pw_cell_below hb ((pw_cell_below (below_drew (below_alloc (Below.refl wr.heap.size wr) _)) hc2)); have hd3 : wd.cell? ⟨g2, 3, none⟩ = some (.slice C3 xc.f3.length k3) := pw_cell_below hb ((pw_cell_below (below_drew (below_alloc (Below.refl wr.heap.size wr) _)) hc3)); have hd4 : wd.cell? (ad.add i) = some (.string s) := pw_cell_below hb ((pw_cell_below (below_drew (below_alloc (Below.refl wr.heap.size wr) _)) hs1)); have hz0 : wd.cell? ⟨wr.heap.size, 0, none⟩ = some (.string (⟨#[]⟩ : ByteArray)) := (blk_cell d9.out 0).trans rfl; have hz1 : wd.cell? ⟨wr.heap.size, 1, none⟩ = some (.bool false) := (blk_cell d9.out 1).trans rfl; have hz2 : wd.cell? ⟨wr.heap.size, 2, none⟩ = some (.slice none 0 0) := (blk_cell d9.out 2).trans rfl; have hz3 : wd.cell? ⟨wr.heap.size, 3, none⟩ = some (.slice none 0 0) := (blk_cell d9.out 3).trans rfl; have hy0 := blk_frozen d9.out 0; have hy1 := blk_frozen d9.out 1; have hy2 := blk_frozen d9.out 2; have hy3 := blk_frozen d9.out 3; clear hb))
        all_goals (first
          | (have e9 := Aside0.mk (set4_blk d9.out (a0 := (.string (⟨#[]⟩ : ByteArray))) (a1 := (.bool false)) (a2 := (.slice none 0 0)) (a3 := (.slice none 0 0))); have e0 := Aside0.mk (below_set (below_set (below_set (below_set dB.out B0.out.size (j := 0) (v := (.string (⟨#[]⟩ : ByteArray)))) B0.out.size (j := 1) (v := (.bool false))) B0.out.size (j := 2) (v := (.slice none 0 0))) B0.out.size (j := 3) (v := (.slice none 0 0))); have eK := Aside0.mk (KB.far (KB.far (KB.far (KB.far dK.out HKB.out.2.1 (j := 0) ((.string (⟨#[]⟩ : ByteArray)))) HKB.out.2.1 (j := 1) ((.bool false))) HKB.out.2.1 (j := 2) ((.slice none 0 0))) HKB.out.2.1 (j := 3) ((.slice none 0 0))); have NL := Aside0.mk (show g2 ≠ wr.heap.size from Nat.ne_of_lt (blk_lt BKg2.out)); have eG := Aside0.mk (blk_far (blk_far (blk_far (blk_far dG.out (p := ⟨wr.heap.size, 0, none⟩) NL.out (.string (⟨#[]⟩ : ByteArray))) (p := ⟨wr.heap.size, 1, none⟩) NL.out (.bool false)) (p := ⟨wr.heap.size, 2, none⟩) NL.out (.slice none 0 0)) (p := ⟨wr.heap.size, 3, none⟩) NL.out (.slice none 0 0)); clear hz0 hz1 hz2 hz3 hy0 hy1 hy2 hy3 d9 dB dK dG B0 HKB BKg2 hc0 hc1 hc2 hc3 hs1 hd0 hd1 hd2 hd3 hd4; generalize wr.heap.size = g9 at *; generalize (((wd.setCell ⟨g9, 0, none⟩ (.string (⟨#[]⟩ : ByteArray))).setCell ⟨g9, 1, none⟩ (.bool false)).setCell ⟨g9, 2, none⟩ (.slice none 0 0)).setCell ⟨g9, 3, none⟩ (.slice none 0 0) = W9 at *)
          | (have e9 := Aside0.mk (heap_alloc_new wd (.cells #[(.string (⟨#[]⟩ : ByteArray)), (.bool false), (.slice none 0 0), (.slice none 0 0)] 28)); have e0 := Aside0.mk (below_alloc dB.out (.cells #[(.string (⟨#[]⟩ : ByteArray)), (.bool false), (.slice none 0 0), (.slice none 0 0)] 28)); have eK := Aside0.mk (KB.below dK.out (below_alloc (Below.refl _ _) (.cells #[(.string (⟨#[]⟩ : ByteArray)), (.bool false), (.slice none 0 0), (.slice none 0 0)] 28))); have NL := Aside0.mk (show g2 ≠ wd.heap.size from Nat.ne_of_lt (blk_lt dG.out)); have eG := Aside0.mk (blk_alloc dG.out (.cells #[(.string (⟨#[]⟩ : ByteArray)), (.bool false), (.slice none 0 0), (.slice none 0 0)] 28)); clear dB dK dG B0 HKB BKg2 hc0 hc1 hc2 hc3 hs1 hd0 hd1 hd2 hd3 hd4; generalize wd.alloc (.cells #[(.string (⟨#[]⟩ : ByteArray)), (.bool false), (.slice none 0 0), (.slice none 0 0)] 28) = W9 at *; generalize wd.heap.size = g9 at *))
        all_goals
          have BKn4 := Aside0.mk (keep_blk eK.out.2 BS4.out NE42.out)
          have B0 := e0
          go_wp2_with (first | ((with_reducible refine gate_store (t := 28) (p := 4) (v := .tmp 37) rfl ?_); refine store28 rfl (.tmp 4) (.tmp 37) rfl g4 rfl z28 none 0 none 0 rfl BKn4.out ?_; intro wz hblk ho; have n0_ := Aside0.mk (B0.out.trans (ho.below GB0g4.out)); clear B0 BKn4; have B0 := n0_; clear n0_; have BKn4 := Aside0.mk hblk; clear hblk ho))
          refine bodyPost_ret (results_ct rfl _ _ g4 28 (nV z28 none 0 none 0).toArray (0, 0) _ rfl BKn4.out Tryd.underlying28 rfl (by kernel_rfl)) rfl ?_
          exact ⟨none, 0, none, 0, by rw [RY.out, RQ.out]; rfl, by rw [RY.out]; exact (own_zero _ 0).nc, B0.out⟩
      · have HIX := Aside0.mk hix
        have HM := Aside0.mk hm
        have HF2 := Aside0.mk (show findP (rd_T28 xc.f3 (m : Int)) (L.drop (i + 1)) = findP x L by
          rw [← HF.out, HD.out, HSI.out, findP, if_neg (by rw [hix]; omega), hix])
        have HWk := Aside0.mk (HWc.out.kid m hm)
        clear hix hm HF
        go_wp2
        go_region_held3 (fun (w' : World) => w'.cell? ⟨g2, 0, none⟩ = some (.string xc.f0) ∧ w'.cell? ⟨g2, 1, none⟩ = some (.bool xc.f1) ∧ w'.cell? ⟨g2, 2, none⟩ = some (.slice C2 xc.f2.length k2) ∧ w'.cell? ⟨g2, 3, none⟩ = some (.slice C3 xc.f3.length k3) ∧ w'.cell? (ad.add i) = some (.string s)) (first | exact ⟨hc0, hc1, hc2, hc3, hs1⟩ | (with_reducible exact ⟨hd0, hd1, hd2, hd3, hd4⟩) | (with_reducible exact ⟨far4 hd0 hc0, far4 hd1 hc1, far4 hd2 hc2, far4 hd3 hc3, far4 hd4 hs1⟩) | go_keep) (first | (go_at_call 44; (with_reducible refine (kid_yes NXc.out (below_drew B0.out) HWc.out s m HIX.out HM.out).mono ?_); rintro e wd ⟨K2, q2, K3, q3, rfl, hnk, hb⟩; have dB := Aside0.mk (below_step (below_drew B0.out) hb); have dK := Aside0.mk (KB.below (KB.below HKB.out (below_drew (Below.refl _ _))) hb); have dG := Aside0.mk (blk_below (blk_drew BKg2.out) hb); have hd0 : wd.cell? ⟨g2, 0, none⟩ = some (.string xc.f0) := pw_cell_below hb ((show wr.drew.cell? _ = _ from hc0)); have hd1 : wd.cell? ⟨g2, 1, none⟩ = some (.bool xc.f1) := pw_cell_below hb ((show wr.drew.cell? _ = _ from hc1)); have hd2 : wd.cell? ⟨g2, 2, none⟩ = some (.slice C2 xc.f2.length k2) := pw_cell_below hb ((show wr.drew.cell? _ = _ from hc2)); have hd3 : wd.cell? ⟨g2, 3, none⟩ = some (.slice C3 xc.f3.length k3) := pw_cell_below hb ((show wr.drew.cell? _ = _ from hc3)); have hd4 : wd.cell? (ad.add i) = some (.string s) := pw_cell_below hb ((show wr.drew.cell? _ = _ from hs1)); have NK := Aside0.mk hnk; clear hb hnk) | (go_at_call 44; (with_reducible refine (kid_yes NXc.out (below_drew (below_alloc B0.out (.cells #[.string (⟨#[]⟩ : ByteArray), .bool false, .slice none 0 0, .slice none 0 0] 28))) HWc.out s m HIX.out HM.out).mono ?_); rintro e wd ⟨K2, q2, K3, q3, rfl, hnk, hb⟩; have dB := Aside0.mk (below_step (below_drew (below_alloc B0.out (.cells #[.string (⟨#[]⟩ : ByteArray), .bool false, .slice none 0 0, .slice none 0 0] 28))) hb); have dK := Aside0.mk (KB.below (KB.below HKB.out (below_drew (below_alloc (Below.refl _ _) _))) hb); have dG := Aside0.mk (blk_below (blk_drew (blk_alloc BKg2.out _)) hb); have d9 := Aside0.mk (blk_below (blk_drew (heap_alloc_new wr (.cells #[.string (⟨#[]⟩ : ByteArray), .bool false, .slice none 0 0, .slice none 0 0] 28))) hb); have hd0 : wd.cell? ⟨g2, 0, none⟩ = some (.string xc.f0) := pw_cell_below hb ((pw_cell_below (below_drew (below_alloc (Below.refl wr.heap.size wr) _)) hc0)); have hd1 : wd.cell? ⟨g2, 1, none⟩ = some (.bool xc.f1) := pw_cell_below hb ((pw_cell_below (below_drew (below_alloc (Below.refl wr.heap.size wr) _)) hc1)); have hd2 : wd.cell? ⟨g2, 2, none⟩ = some (.slice C2 xc.f2.length k2) := pw_cell_below hb ((pw_cell_below (below_drew (below_alloc (Below.refl wr.heap.size wr) _)) hc2)); have hd3 : wd.cell? ⟨g2, 3, none⟩ = some (.slice C3 xc.f3.length k3) := pw_cell_below hb ((pw_cell_below (below_drew (below_alloc (Below.refl wr.heap.size wr) _)) hc3)); have hd4 : wd.cell? (ad.add i) = some (.string s) := pw_cell_below hb ((pw_cell_below (below_drew (below_alloc (Below.refl wr.heap.size wr) _)) hs1)); have hz0 : wd.cell? ⟨wr.heap.size, 0, none⟩ = some (.string (⟨#[]⟩ : ByteArray)) := (blk_cell d9.out 0).trans rfl; have hz1 : wd.cell? ⟨wr.heap.size, 1, none⟩ = some (.bool false) := (blk_cell d9.out 1).trans rfl; have hz2 : wd.cell? ⟨wr.heap.size, 2, none⟩ = some (.slice none 0 0) := (blk_cell d9.out 2).trans rfl; have hz3 : wd.cell? ⟨wr.heap.size, 3, none⟩ = some (.slice none 0 0) := (blk_cell d9.out 3).trans rfl; have hy0 := blk_frozen d9.out 0; have hy1 := blk_frozen d9.out 1; have hy2 := blk_frozen d9.out 2; have hy3 := blk_frozen d9.out 3; have NK := Aside0.mk hnk; clear hb hnk))
        all_goals (first
          | (have e9 := Aside0.mk (set4_blk d9.out (a0 := (.string (rd_T28 xc.f3 (m : Int)).f0)) (a1 := (.bool (rd_T28 xc.f3 (m : Int)).f1)) (a2 := (.slice K2 (rd_T28 xc.f3 (m : Int)).f2.length q2)) (a3 := (.slice K3 (rd_T28 xc.f3 (m : Int)).f3.length q3))); have e0 := Aside0.mk (below_set (below_set (below_set (below_set dB.out B0.out.size (j := 0) (v := (.string (rd_T28 xc.f3 (m : Int)).f0))) B0.out.size (j := 1) (v := (.bool (rd_T28 xc.f3 (m : Int)).f1))) B0.out.size (j := 2) (v := (.slice K2 (rd_T28 xc.f3 (m : Int)).f2.length q2))) B0.out.size (j := 3) (v := (.slice K3 (rd_T28 xc.f3 (m : Int)).f3.length q3))); have eK := Aside0.mk (KB.far (KB.far (KB.far (KB.far dK.out HKB.out.2.1 (j := 0) ((.string (rd_T28 xc.f3 (m : Int)).f0))) HKB.out.2.1 (j := 1) ((.bool (rd_T28 xc.f3 (m : Int)).f1))) HKB.out.2.1 (j := 2) ((.slice K2 (rd_T28 xc.f3 (m : Int)).f2.length q2))) HKB.out.2.1 (j := 3) ((.slice K3 (rd_T28 xc.f3 (m : Int)).f3.length q3))); have NL := Aside0.mk (show g2 ≠ wr.heap.size from Nat.ne_of_lt (blk_lt BKg2.out)); have eG := Aside0.mk (blk_far (blk_far (blk_far (blk_far dG.out (p := ⟨wr.heap.size, 0, none⟩) NL.out (.string (rd_T28 xc.f3 (m : Int)).f0)) (p := ⟨wr.heap.size, 1, none⟩) NL.out (.bool (rd_T28 xc.f3 (m : Int)).f1)) (p := ⟨wr.heap.size, 2, none⟩) NL.out (.slice K2 (rd_T28 xc.f3 (m : Int)).f2.length q2)) (p := ⟨wr.heap.size, 3, none⟩) NL.out (.slice K3 (rd_T28 xc.f3 (m : Int)).f3.length q3)); clear hz0 hz1 hz2 hz3 hy0 hy1 hy2 hy3 d9 dB dK dG B0 HKB BKg2 hc0 hc1 hc2 hc3 hs1 hd0 hd1 hd2 hd3 hd4; generalize wr.heap.size = g9 at *; generalize (((wd.setCell ⟨g9, 0, none⟩ (.string (rd_T28 xc.f3 (m : Int)).f0)).setCell ⟨g9, 1, none⟩ (.bool (rd_T28 xc.f3 (m : Int)).f1)).setCell ⟨g9, 2, none⟩ (.slice K2 (rd_T28 xc.f3 (m : Int)).f2.length q2)).setCell ⟨g9, 3, none⟩ (.slice K3 (rd_T28 xc.f3 (m : Int)).f3.length q3) = W9 at *)
          | (have e9 := Aside0.mk (heap_alloc_new wd (.cells #[(.string (rd_T28 xc.f3 (m : Int)).f0), (.bool (rd_T28 xc.f3 (m : Int)).f1), (.slice K2 (rd_T28 xc.f3 (m : Int)).f2.length q2), (.slice K3 (rd_T28 xc.f3 (m : Int)).f3.length q3)] 28)); have e0 := Aside0.mk (below_alloc dB.out (.cells #[(.string (rd_T28 xc.f3 (m : Int)).f0), (.bool (rd_T28 xc.f3 (m : Int)).f1), (.slice K2 (rd_T28 xc.f3 (m : Int)).f2.length q2), (.slice K3 (rd_T28 xc.f3 (m : Int)).f3.length q3)] 28)); have eK := Aside0.mk (KB.below dK.out (below_alloc (Below.refl _ _) (.cells #[(.string (rd_T28 xc.f3 (m : Int)).f0), (.bool (rd_T28 xc.f3 (m : Int)).f1), (.slice K2 (rd_T28 xc.f3 (m : Int)).f2.length q2), (.slice K3 (rd_T28 xc.f3 (m : Int)).f3.length q3)] 28))); have NL := Aside0.mk (show g2 ≠ wd.heap.size from Nat.ne_of_lt (blk_lt dG.out)); have eG := Aside0.mk (blk_alloc dG.out (.cells #[(.string (rd_T28 xc.f3 (m : Int)).f0), (.bool (rd_T28 xc.f3 (m : Int)).f1), (.slice K2 (rd_T28 xc.f3 (m : Int)).f2.length q2), (.slice K3 (rd_T28 xc.f3 (m : Int)).f3.length q3)] 28)); clear dB dK dG B0 HKB BKg2 hc0 hc1 hc2 hc3 hs1 hd0 hd1 hd2 hd3 hd4; generalize wd.alloc (.cells #[(.string (rd_T28 xc.f3 (m : Int)).f0), (.bool (rd_T28 xc.f3 (m : Int)).f1), (.slice K2 (rd_T28 xc.f3 (m : Int)).f2.length q2), (.slice K3 (rd_T28 xc.f3 (m : Int)).f3.length q3)] 28) = W9 at *; generalize wd.heap.size = g9 at *))
        all_goals
          have f0 : W9.cell? ⟨g9, 0, none⟩ = some (.string (rd_T28 xc.f3 (m : Int)).f0) := (blk_cell e9.out 0).trans rfl
          have f1 : W9.cell? ⟨g9, 1, none⟩ = some (.bool (rd_T28 xc.f3 (m : Int)).f1) := (blk_cell e9.out 1).trans rfl
          have f2 : W9.cell? ⟨g9, 2, none⟩ = some (.slice K2 (rd_T28 xc.f3 (m : Int)).f2.length q2) := (blk_cell e9.out 2).trans rfl
          have f3 : W9.cell? ⟨g9, 3, none⟩ = some (.slice K3 (rd_T28 xc.f3 (m : Int)).f3.length q3) := (blk_cell e9.out 3).trans rfl
          go_wp2_with (first | ((with_reducible refine gate_store (t := 28) (p := 2) (v := .tmp 38) rfl ?_); refine store28 rfl (.tmp 2) (.tmp 38) rfl g2 rfl (rd_T28 xc.f3 (m : Int)) K2 q2 K3 q3 rfl eG.out ?_; intro we hblk ho; have B0 := Aside0.mk (e0.out.trans (ho.below GB0g2.out)); have HKB := Aside0.mk (KB.only eK.out ho); clear e0 eK eG f0 f1 f2 f3; have BKg2 := Aside0.mk hblk; clear hblk ho))
          go_roundg (n - (i + 1))
          case measure => have := HQ.out; omega
          case rel => exact ⟨i + 1, rd_T28 xc.f3 (m : Int), K2, q2, K3, q3, by first | rfl | (rw [hwi.out]; done) | (simp [hwi.out]; done) | go_num, by omega, ⟨rfl⟩, HF2, BKg2, NK, HWk, HKB, B0⟩
    · obtain rfl : i = n := by omega
      have hltb : decide ((i : Int) < (i : Int)) = false := decide_eq_false (by omega)
      have hltn : decide (i < i) = false := decide_eq_false (by omega)
      obtain ⟨RY, RQ⟩ : Aside0 (y = xc) ∧ Aside0 (q = 0) := by
        have h := HR2.out
        rw [← HF.out, EN.out, List.drop_length, findP] at h
        injection h with h1 h2
        exact ⟨⟨h1.symm⟩, ⟨h2.symm⟩⟩
      clear HF
      have BKn4 := Aside0.mk (keep_blk HKB.out.2 BS4.out NE42.out)
      go_wp2_with (first | ((with_reducible refine gate_store (t := 28) (p := 4) (v := .tmp 39) rfl ?_); refine store28 rfl (.tmp 4) (.tmp 39) rfl g4 rfl xc C2 k2 C3 k3 rfl BKn4.out ?_; intro wz hblk ho; have n0_ := Aside0.mk (B0.out.trans (ho.below GB0g4.out)); clear B0 BKn4; have B0 := n0_; clear n0_; have BKn4 := Aside0.mk hblk; clear hblk ho))
      refine bodyPost_ret (results_ct rfl _ _ g4 28 (nV xc C2 k2 C3 k3).toArray (0, 0) _ rfl BKn4.out Tryd.underlying28 rfl (by kernel_rfl)) rfl ?_
      exact ⟨C2, k2, C3, k3, by rw [RY.out, RQ.out]; rfl, by rw [RY.out]; exact NXc.out.below B0.out, B0.out⟩
end Go.Proofs.YthpgbhpnlnpfnaaDoor.Law
