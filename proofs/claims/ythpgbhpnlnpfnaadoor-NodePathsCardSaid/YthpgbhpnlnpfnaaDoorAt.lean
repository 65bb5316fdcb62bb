/- node.At: the node of a path. -/
import Derived.Test.YthpgbhpnlnpfnaaDoorCw
import Derived.Test.YthpgbhpnlnpfnaaDoorPa
namespace Go.Proofs.YthpgbhpnlnpfnaaDoor.Law
open Go Go.RowKit Go.Proofs.YthpgbhpnlnpfnaaDoor Go.Proofs.YthpgbhpnlnpfnaaDoorW.PrintWords Go.Proofs.YthpgbhpnlnpfnaaDoorW.PrintLast Go.Proofs.YthpgbhpnlnpfnaaDoorW.PrintMore Go.Proofs.YthpgbhpnlnpfnaaDoor.E
set_option linter.unusedSimpArgs false
set_option linter.unusedVariables false
/-- the place of the first kid of a name -/
def ixFrom (s : ByteArray) : List S28 → Nat → Int
  | [], _ => -1
  | x :: l, i => if x.f0.toList = s.toList then (i : Int) else ixFrom s l (i + 1)
def ixOf (ks : List S28) (s : ByteArray) : Int := ixFrom s ks 0
theorem ixFrom_cases (s : ByteArray) : ∀ (l : List S28) (i : Nat), ixFrom s l i = -1 ∨ ∃ m : Nat, ixFrom s l i = (m : Int) ∧ i ≤ m ∧ m < i + l.length
  | [], i => .inl rfl
  | x :: l, i => by
    unfold ixFrom
    by_cases h : x.f0.toList = s.toList
    · rw [if_pos h]; exact .inr ⟨i, rfl, Nat.le_refl _, by simp⟩
    · rw [if_neg h]
      rcases ixFrom_cases s l (i + 1) with h | ⟨m, h1, h2, h3⟩
      · exact .inl h
      · exact .inr ⟨m, h1, by omega, by simp; omega⟩
theorem ixOf_cases (ks : List S28) (s : ByteArray) : ixOf ks s = -1 ∨ ∃ m : Nat, ixOf ks s = (m : Int) ∧ m < ks.length := by
  rcases ixFrom_cases s ks 0 with h | ⟨m, h1, _, h3⟩
  · exact .inl h
  · exact .inr ⟨m, h1, by omega⟩
/-- the node at the end of a list of names -/
def findP : S28 → List ByteArray → Option S28
  | x, [] => some x
  | x, s :: L => if ixOf x.f3 s < 0 then none else findP (rd_T28 x.f3 (ixOf x.f3 s)) L
set_option maxHeartbeats 4000000 in
set_option maxRecDepth 100000 in
theorem clo_w (nm : ByteArray) (d : Bool) (A2 : Option Addr) (l2 c2 : Nat) (A3 : Option Addr) (l3 c3 : Nat) (g : Nat) (s : ByteArray) (b : Bool) (w : World) (hg : w.heap[g]? = some (.cells #[.string s] 9 (0, 0))) (hb : (nm.toList == s.toList) = b) :
    Calls Tryd.prog 43 #[.agg #[.string nm, .bool d, .slice A2 l2 c2, .slice A3 l3 c3], .pointer (some ⟨g, 0, none⟩)] w fun e w' => e = .returned (.bool b) ∧ Below w.heap.size w w' := by
  have HB := Aside0.mk (Below.refl w.heap.size w)
  have BG := Aside0.mk hg
  have HE := Aside0.mk hb
  clear hg hb
  go_enter Tryd.func43, Tryd.ntmps43
  go_wp2_with (first | ((with_reducible refine gate_dst (N := 2) rfl ?_); refine box_event ?hg (N := 2) ?hd (cs := #[.string nm, .bool d, .slice A2 l2 c2, .slice A3 l3 c3]) (t := 28) ?hr ?_; (case hd => rfl); (case hg => rfl); (case hr => first | (go_simp; done) | (go_simp; rfl)); intro gb hgb w1 hbox hb; have n0_ := Aside0.mk (below_step HB.out hb); have n1_ := Aside0.mk (blk_below BG.out hb); clear HB BG; have HB := n0_; have BG := n1_; clear n0_ n1_ hb hgb; have BK := Aside0.mk hbox; clear hbox; have hz0 : w1.cell? ⟨gb, 0, none⟩ = some (.string nm) := (blk_cell BK.out 0).trans rfl; have hz1 : w1.cell? ⟨g, 0, none⟩ = some (.string s) := (blk_cell BG.out 0).trans rfl; have he := HE.out))
  go_ret
  exact ⟨rfl, HB.out⟩
set_option maxHeartbeats 4000000 in
set_option maxRecDepth 100000 in
theorem ix_w (A : Option Addr) (c : Nat) (ks : List S28) (g : Nat) (s : ByteArray) (w : World) (hC : k28.C w A ks.length ks) (hlen : ks.length ≤ 100000) (hg : w.heap[g]? = some (.cells #[.string s] 9 (0, 0))) (r : Int) (hr : ixOf ks s = r) :
    Calls Tryd.prog 42 #[.slice A ks.length c, .func (.func 43) #[] #[.pointer (some ⟨g, 0, none⟩)]] w fun e w' => e = .returned (.int .i64 r) ∧ Below w.heap.size w w' := by
  have HC := Aside0.mk hC
  have BG := Aside0.mk hg
  have HR := Aside0.mk hr
  obtain ⟨n, en⟩ : ∃ n, n = ks.length := ⟨_, rfl⟩
  have EN := Aside0.mk en
  have HLN := Aside0.mk (show n ≤ 100000 by omega)
  rw [← en]
  clear hC hg hr hlen en
  go_enter Tryd.func42, Tryd.ntmps42
  go_wp2
  go_loopg [8] n (fun kq v8 w' => ∃ i : Nat, v8 = .int .i64 i ∧ i ≤ n ∧ Aside0 (kq = n - i) ∧ Aside0 (ixFrom s (ks.drop i) i = r) ∧ Aside0 (Below w.heap.size w w'))
  case atStart => exact ⟨0, rfl, Nat.zero_le _, ⟨rfl⟩, HR, ⟨Below.refl _ _⟩⟩
  case round =>
    clear HR
    obtain ⟨i, rfl, hi, HQ, HX, HB⟩ := hrel
    by_cases hlt : i < n
    · have hltb : decide ((i : Int) < (n : Int)) = true := decide_eq_true (by omega)
      have hltn : decide (i < n) = true := decide_eq_true hlt
      have HL := Aside0.mk (show i < ks.length from EN.out ▸ hlt)
      have p4 : (0 ≤ (i : Int)) = True := eq_true (by omega)
      have q4 : ((i : Int) < (n : Int)) = True := eq_true (by omega)
      have hwi := Aside0.mk (show wrap64 ((i : Int) + 1) = ((i + 1 : Nat) : Int) from by have := HLN.out; rw [n64 (by omega) (by omega)]; omega)
      obtain ⟨ad, A2, c2, A3, c3, e0, hx0, hx1, hx2, hx3, _, _, _, _⟩ := at_T28 HC.out (i : Int) (by omega) (by have := HL.out; omega)
      subst e0
      rw [Int.toNat_natCast] at hx0 hx1 hx2 hx3
      replace hx0 := (HB.out.cell (World.block_lt_of_cell? w _ hx0)).trans hx0
      replace hx1 := (HB.out.cell (World.block_lt_of_cell? w _ hx1)).trans hx1
      replace hx2 := (HB.out.cell (World.block_lt_of_cell? w _ hx2)).trans hx2
      replace hx3 := (HB.out.cell (World.block_lt_of_cell? w _ hx3)).trans hx3
      have hxx := HX.out
      rw [drop_rd ks i HL.out, ixFrom] at hxx
      have HX2 := Aside0.mk hxx
      clear hxx HX
      generalize rd_T28 ks (i : Int) = kx at *
      by_cases hs : kx.f0.toList = s.toList
      · have HE := Aside0.mk (show (kx.f0.toList == s.toList) = true from beq_iff_eq.mpr hs)
        have HRR := Aside0.mk (show r = (i : Int) by have := HX2.out; rw [if_pos hs] at this; exact this.symm)
        clear hs HX2
        go_wp2_with (first | (go_at_call 43; (with_reducible refine (clo_w _ _ _ _ _ _ _ _ g s _ _ (blk_below BG.out HB.out) HE.out).mono ?_); rintro e w2 ⟨rfl, hb⟩; have n0_ := Aside0.mk (below_step HB.out hb); clear HB; have HB := n0_; clear n0_ hb))
        go_ret
        exact ⟨by rw [HRR.out]; rfl, HB.out⟩
      · have HE := Aside0.mk (show (kx.f0.toList == s.toList) = false from beq_eq_false_iff_ne.mpr hs)
        have HX3 := Aside0.mk (show ixFrom s (ks.drop (i + 1)) (i + 1) = r by have := HX2.out; rw [if_neg hs] at this; exact this)
        clear hs HX2
        go_wp2_with (first | (go_at_call 43; (with_reducible refine (clo_w _ _ _ _ _ _ _ _ g s _ _ (blk_below BG.out HB.out) HE.out).mono ?_); rintro e w2 ⟨rfl, hb⟩; have n0_ := Aside0.mk (below_step HB.out hb); clear HB; have HB := n0_; clear n0_ hb))
        go_roundg (n - (i + 1))
        case measure => have := HQ.out; omega
        case rel => exact ⟨i + 1, by first | rfl | (rw [hwi.out]; done) | (simp [hwi.out]; done) | go_num, by omega, ⟨rfl⟩, HX3, HB⟩
    · obtain rfl : i = n := by omega
      have hltb : decide ((i : Int) < (i : Int)) = false := decide_eq_false (by omega)
      have hltn : decide (i < i) = false := decide_eq_false (by omega)
      have HRR := Aside0.mk (show r = -1 by have h := HX.out; rw [EN.out, List.drop_length, ixFrom] at h; exact h.symm)
      clear HX
      go_wp2
      go_ret
      exact ⟨by rw [HRR.out]; rfl, HB.out⟩
end Go.Proofs.YthpgbhpnlnpfnaaDoor.Law
