/- node.At: the node of a path, in memory of its own, or why there is none. -/
import Derived.Test.YthpgbhpnlnpfnaaDoorAt
namespace Go.Proofs.YthpgbhpnlnpfnaaDoor.Law
open Go Go.RowKit Go.Proofs.YthpgbhpnlnpfnaaDoor Go.Proofs.YthpgbhpnlnpfnaaDoorW.PrintWords Go.Proofs.YthpgbhpnlnpfnaaDoorW.PrintLast Go.Proofs.YthpgbhpnlnpfnaaDoorW.PrintMore Go.Proofs.YthpgbhpnlnpfnaaDoor.E
set_option linter.unusedSimpArgs false
set_option linter.unusedVariables false
/-- the answer, by the path's names L and its error E -/
def atR (x : S28) (L : List ByteArray) (E : Int) : S28 × Int := if E = 0 then (match findP x L with | none => (z28, 18) | some y => (y, 0)) else (z28, E)
theorem KB.only {w0 W W' : World} {p : Nat} (h : KB w0 W p) (ho : Only p W W') : KB w0 W' p :=
  ⟨h.1.trans ⟨ho.os, ho.tape, ho.output, by rw [ho.size]; exact Nat.le_refl _, fun k hk => by omega⟩, h.2.trans ⟨by rw [ho.size]; exact Nat.le_refl _, fun i _ hi _ => ho.block i hi⟩ (.inl rfl)⟩
theorem own_zero (w : World) (base : Nat) : OwnN w base z28 none 0 none 0 := ⟨⟨Nat.le_refl _, C_zero _ _ _, Nat.le_refl _, C_zero _ _ _⟩, .inl rfl, fun h => absurd h (by decide)⟩
theorem OwnN.lower {w : World} {base base' : Nat} {x : S28} {B2 : Option Addr} {d2 : Nat} {B3 : Option Addr} {d3 : Nat} (h : OwnN w base x B2 d2 B3 d3) (hb : base' ≤ base) : OwnN w base' x B2 d2 B3 d3 :=
  ⟨h.nc, h.by_.lower hb, fun hp => by obtain ⟨gk, h1, h2, h3⟩ := h.kids hp; exact ⟨gk, h1, by omega, h3.lower hb⟩⟩
theorem str_at {w : World} {A : Option Addr} {L : List ByteArray} (h : Kd.C Kd.string w A L.length L) (i : Nat) (hi : i < L.length) : ∃ ad, A = some ad ∧ w.cell? (ad.add i) = some (.string L[i]) := by
  obtain ⟨ad, e, hr⟩ := h.2.2 (by omega)
  obtain ⟨c1, h1, h2, h3⟩ := hr i _ (List.getElem?_eq_getElem hi)
  have e1 : c1 = [Value.string L[i]] := h2
  have h4 := h3 0 (.string L[i]) (by rw [e1]; rfl)
  refine ⟨ad, e, ?_⟩
  have e2 : i * Kd.string.sz + 0 = i := by show i * 1 + 0 = i; omega
  rw [e2] at h4; exact h4
def Sm (x : S28) : Prop := wtN x ≤ 140737488355000 ∧ cN x ≤ 1000
theorem Sm.len {x : S28} (h : Sm x) : x.f3.length ≤ 1000 := by obtain ⟨_, h⟩ := h; obtain ⟨a, b, c, ks⟩ := x; simp only [cN] at h; have := cL_len ks; show ks.length ≤ 1000; omega
theorem Sm.kid {x : S28} (h : Sm x) (m : Nat) (hm : m < x.f3.length) : Sm (rd_T28 x.f3 (m : Int)) := by
  obtain ⟨h1, h2⟩ := h
  obtain ⟨a, b, c, ks⟩ := x
  simp only [wtN] at h1
  simp only [cN] at h2
  have hk := wt_kid ks m hm
  have hc : cN (rd_T28 ks (m : Int)) ≤ cL ks := by rw [rd_mem ks m hm]; exact cN_mem _ _ (List.getElem_mem hm)
  exact ⟨by show wtN (rd_T28 ks (m : Int)) ≤ _; omega, by show cN (rd_T28 ks (m : Int)) ≤ _; omega⟩
theorem NodeC_at {w0 w : World} {x : S28} {A2 : Option Addr} {c2 : Nat} {A3 : Option Addr} {c3 : Nat} (h : NC w0 x A2 c2 A3 c3) (hb : Below w0.heap.size w0 w) (m : Nat) (hm : m < x.f3.length) :
    ∃ ad K2 k2 K3 k3, A3 = some ad ∧ NC w0 (rd_T28 x.f3 (m : Int)) K2 k2 K3 k3 ∧ w.cell? (ad.add (m * 4)) = some (.string (rd_T28 x.f3 (m : Int)).f0) ∧ w.cell? ⟨(ad.add (m * 4)).block, (ad.add (m * 4)).off + 1, none⟩ = some (.bool (rd_T28 x.f3 (m : Int)).f1) ∧
      w.cell? ⟨(ad.add (m * 4)).block, (ad.add (m * 4)).off + 2, none⟩ = some (.slice K2 (rd_T28 x.f3 (m : Int)).f2.length k2) ∧ w.cell? ⟨(ad.add (m * 4)).block, (ad.add (m * 4)).off + 3, none⟩ = some (.slice K3 (rd_T28 x.f3 (m : Int)).f3.length k3) := by
  obtain ⟨ad, K2, k2, K3, k3, e0, hx0, hx1, hx2, hx3, h2, r2, h3, r3⟩ := at_T28 h.r3 (m : Int) (by omega) (by omega)
  rw [Int.toNat_natCast] at hx0 hx1 hx2 hx3
  exact ⟨ad, K2, k2, K3, k3, e0, ⟨h2, r2, h3, r3⟩, (hb.cell (World.block_lt_of_cell? w0 _ hx0)).trans hx0, (hb.cell (World.block_lt_of_cell? w0 _ hx1)).trans hx1, (hb.cell (World.block_lt_of_cell? w0 _ hx2)).trans hx2, (hb.cell (World.block_lt_of_cell? w0 _ hx3)).trans hx3⟩
set_option maxHeartbeats 8000000 in
set_option maxRecDepth 100000 in
theorem at_w {x : S28} {A2 : Option Addr} {c2 : Nat} {A3 : Option Addr} {c3 : Nat} {w : World} (h : NC w x A2 c2 A3 c3) (hw : Sm x) (p : ByteArray) {L : List ByteArray} {E : Int} (hS : node_Split.f p = some (L, E)) (hL : L.length ≤ 100000) {y : S28} {q : Int} (hR : atR x L E = (y, q)) :
    Calls Tryd.prog 26 #[.agg #[.string x.f0, .bool x.f1, .slice A2 x.f2.length c2, .slice A3 x.f3.length c3], .string p] w fun e w' => ∃ (B2 : Option Addr) (d2 : Nat) (B3 : Option Addr) (d3 : Nat),
      e = .returned (.tuple #[.agg #[.string y.f0, .bool y.f1, .slice B2 y.f2.length d2, .slice B3 y.f3.length d3], .int .i64 q]) ∧ OwnN w' w.heap.size y B2 d2 B3 d3 ∧ Below w.heap.size w w' := by
  have NX := Aside0.mk h
  have HW := Aside0.mk hw
  have HS := Aside0.mk hS
  have HL := Aside0.mk hL
  have HR := Aside0.mk hR
  have B0 := Aside0.mk (Below.refl w.heap.size w)
  clear h hw hS hL hR
  by_cases he : E = 0
  case neg =>
    have cb0 : (E == 0) = false := beq_eq_false_iff_ne.mpr he
    have cb1 : (E != 0) = true := bne_iff_ne.mpr he
    obtain ⟨RY, RQ⟩ : Aside0 (y = z28) ∧ Aside0 (q = E) := by
      have h := HR.out
      unfold atR at h
      rw [if_neg he] at h
      injection h with h1 h2
      exact ⟨⟨h1.symm⟩, ⟨h2.symm⟩⟩
    clear he
    go_enter Tryd.func26, Tryd.ntmps26
    go_wp2_with (first | ((with_reducible refine gate_dst (N := 2) rfl ?_); refine box_event ?hg (N := 2) ?hd (cs := #[.string x.f0, .bool x.f1, .slice A2 x.f2.length c2, .slice A3 x.f3.length c3]) (t := 28) ?hr ?_; (case hd => rfl); (case hg => rfl); (case hr => first | (go_simp; done) | (go_simp; rfl)); intro g2 hg wa hbox hb; have GB0g2 := Aside0.mk (show w.heap.size ≤ g2 by rw [hg]; exact B0.out.size); clear hg; have n0_ := Aside0.mk (below_step B0.out hb); clear B0; have B0 := n0_; clear n0_; have BKg2 := Aside0.mk (show wa.heap[g2]? = some (.cells (nV x A2 c2 A3 c3).toArray 28 (0, 0)) from hbox); clear hbox hb) | ((with_reducible refine gate_dst (N := 4) rfl ?_); refine box_event ?hg (N := 4) ?hd (cs := #[.string (⟨#[]⟩ : ByteArray), .bool false, .slice none 0 0, .slice none 0 0]) (t := 28) ?hr ?_; (case hd => rfl); (case hg => rfl); (case hr => first | (go_simp; done) | (go_simp; rfl)); intro g4 hg wb hbox hb; have GB0g4 := Aside0.mk (show w.heap.size ≤ g4 by rw [hg]; exact B0.out.size); have NEg2g4 := Aside0.mk (show g2 ≠ g4 by rw [hg]; exact Nat.ne_of_lt (blk_lt BKg2.out)); clear hg; have BKg4 := Aside0.mk hbox; clear hbox; have n0_ := Aside0.mk (below_step B0.out hb); clear B0; have B0 := n0_; clear n0_; have m0_ := Aside0.mk (blk_below BKg2.out hb); clear BKg2; have BKg2 := m0_; clear m0_; clear hb) | (go_at_call 16; (with_reducible refine (node_Split.calls _ L _ _ HS.out).mono ?_); rintro e ws ⟨v0_, rfl, ho, hb⟩; obtain ⟨AN, cn, ev⟩ := Kd.R_slice ho; subst ev; have G2S := Aside0.mk (blk_lt BKg2.out); have G4S := Aside0.mk (blk_lt BKg4.out); have HN := Aside0.mk (own_foot ho G2S.out); clear ho; have n0_ := Aside0.mk (below_step B0.out hb); clear B0; have B0 := n0_; clear n0_; have m0_ := Aside0.mk (blk_below BKg2.out hb); have m1_ := Aside0.mk (blk_below BKg4.out hb); clear BKg2 BKg4; have BKg2 := m0_; have BKg4 := m1_; clear m0_ m1_; have BS4 := BKg4; clear hb) | ((with_reducible refine gate_store (t := 28) (p := 4) (v := .tmp 18) rfl ?_); refine store28 rfl (.tmp 4) (.tmp 18) rfl g4 rfl z28 none 0 none 0 rfl BKg4.out ?_; intro wz hblk ho; have n0_ := Aside0.mk (B0.out.trans (ho.below GB0g4.out)); clear B0; have B0 := n0_; clear n0_; clear BKg4; have BKg4 := Aside0.mk hblk; clear hblk ho))
    refine bodyPost_ret (results_ct rfl _ _ g4 28 (nV z28 none 0 none 0).toArray (0, 0) _ rfl BKg4.out Tryd.underlying28 rfl (by kernel_rfl)) rfl ?_
    exact ⟨none, 0, none, 0, by rw [RY.out, RQ.out]; rfl, by rw [RY.out]; exact own_zero _ _, B0.out⟩
  case pos =>
  subst he
  have HR2 := Aside0.mk (show (match findP x L with | none => (z28, (18 : Int)) | some y => (y, 0)) = (y, q) by have h := HR.out; unfold atR at h; rwa [if_pos rfl] at h)
  clear HR
  go_enter Tryd.func26, Tryd.ntmps26
  go_wp2_with (first | ((with_reducible refine gate_dst (N := 2) rfl ?_); refine box_event ?hg (N := 2) ?hd (cs := #[.string x.f0, .bool x.f1, .slice A2 x.f2.length c2, .slice A3 x.f3.length c3]) (t := 28) ?hr ?_; (case hd => rfl); (case hg => rfl); (case hr => first | (go_simp; done) | (go_simp; rfl)); intro g2 hg wa hbox hb; have GB0g2 := Aside0.mk (show w.heap.size ≤ g2 by rw [hg]; exact B0.out.size); clear hg; have n0_ := Aside0.mk (below_step B0.out hb); clear B0; have B0 := n0_; clear n0_; have BKg2 := Aside0.mk (show wa.heap[g2]? = some (.cells (nV x A2 c2 A3 c3).toArray 28 (0, 0)) from hbox); clear hbox hb) | ((with_reducible refine gate_dst (N := 4) rfl ?_); refine box_event ?hg (N := 4) ?hd (cs := #[.string (⟨#[]⟩ : ByteArray), .bool false, .slice none 0 0, .slice none 0 0]) (t := 28) ?hr ?_; (case hd => rfl); (case hg => rfl); (case hr => first | (go_simp; done) | (go_simp; rfl)); intro g4 hg wb hbox hb; have GB0g4 := Aside0.mk (show w.heap.size ≤ g4 by rw [hg]; exact B0.out.size); have NEg2g4 := Aside0.mk (show g2 ≠ g4 by rw [hg]; exact Nat.ne_of_lt (blk_lt BKg2.out)); clear hg; have BKg4 := Aside0.mk hbox; clear hbox; have n0_ := Aside0.mk (below_step B0.out hb); clear B0; have B0 := n0_; clear n0_; have m0_ := Aside0.mk (blk_below BKg2.out hb); clear BKg2; have BKg2 := m0_; clear m0_; clear hb) | (go_at_call 16; (with_reducible refine (node_Split.calls _ L _ _ HS.out).mono ?_); rintro e ws ⟨v0_, rfl, ho, hb⟩; obtain ⟨AN, cn, ev⟩ := Kd.R_slice ho; subst ev; have G2S := Aside0.mk (blk_lt BKg2.out); have G4S := Aside0.mk (blk_lt BKg4.out); have HN := Aside0.mk (own_foot ho G2S.out); clear ho; have n0_ := Aside0.mk (below_step B0.out hb); clear B0; have B0 := n0_; clear n0_; have m0_ := Aside0.mk (blk_below BKg2.out hb); have m1_ := Aside0.mk (blk_below BKg4.out hb); clear BKg2 BKg4; have BKg2 := m0_; have BKg4 := m1_; clear m0_ m1_; have BS4 := BKg4; clear hb))
  obtain ⟨n, en⟩ : ∃ n, n = L.length := ⟨_, rfl⟩
  have EN := Aside0.mk en
  have HLN := Aside0.mk (show n ≤ 100000 by have := HL.out; omega)
  rw [← en]
  clear en
  have NE42 := Aside0.mk (show g4 ≠ g2 from fun h => NEg2g4.out h.symm)
  go_loopg [22] n (fun kq v22 w' => ∃ (i : Nat) (xc : S28) (C2 : Option Addr) (k2 : Nat) (C3 : Option Addr) (k3 : Nat), v22 = .int .i64 i ∧ i ≤ n ∧ Aside0 (kq = n - i) ∧ Aside0 (findP xc (L.drop i) = findP x L) ∧ Aside0 (w'.heap[g2]? = some (.cells (nV xc C2 k2 C3 k3).toArray 28 (0, 0))) ∧ Aside0 (NC w xc C2 k2 C3 k3) ∧ Aside0 (Sm xc) ∧ Aside0 (KB ws w' g2) ∧ Aside0 (Below w.heap.size w w'))
  case atStart => exact ⟨0, x, A2, c2, A3, c3, rfl, Nat.zero_le _, ⟨rfl⟩, ⟨rfl⟩, BKg2, NX, HW, ⟨KB.refl _ _⟩, B0⟩
  case round =>
    clear BKg2 B0
    obtain ⟨i, xc, C2, k2, C3, k3, rfl, hi, HQ, HF, BKg2, NXc, HWc, HKB, B0⟩ := hrel
    have hc0 : wr.cell? ⟨g2, 0, none⟩ = some (.string xc.f0) := (blk_cell BKg2.out 0).trans rfl
    have hc1 : wr.cell? ⟨g2, 1, none⟩ = some (.bool xc.f1) := (blk_cell BKg2.out 1).trans rfl
    have hc2 : wr.cell? ⟨g2, 2, none⟩ = some (.slice C2 xc.f2.length k2) := (blk_cell BKg2.out 2).trans rfl
    have hc3 : wr.cell? ⟨g2, 3, none⟩ = some (.slice C3 xc.f3.length k3) := (blk_cell BKg2.out 3).trans rfl
    by_cases hlt : i < n
    · have hltb : decide ((i : Int) < (n : Int)) = true := decide_eq_true (by omega)
      have hltn : decide (i < n) = true := decide_eq_true hlt
      have HIL := Aside0.mk (show i < L.length from EN.out ▸ hlt)
      have p4 : (0 ≤ (i : Int)) = True := eq_true (by omega)
      have q4 : ((i : Int) < (n : Int)) = True := eq_true (by omega)
      have hwi := Aside0.mk (show wrap64 ((i : Int) + 1) = ((i + 1 : Nat) : Int) from by have := HLN.out; rw [n64 (by omega) (by omega)]; omega)
      obtain ⟨ad, rfl, hsc⟩ := str_at (HN.out _ HKB.out.2) i HIL.out
      have HD := Aside0.mk (show L.drop i = L[i]'HIL.out :: L.drop (i + 1) from List.drop_eq_getElem_cons HIL.out)
      obtain ⟨s, HSI⟩ : ∃ s, Aside0 (L[i]'HIL.out = s) := ⟨_, ⟨rfl⟩⟩
      have hs1 : wr.cell? (ad.add i) = some (.string s) := by rw [← HSI.out]; exact hsc
      clear hsc
      rcases ixOf_cases xc.f3 s with hix | ⟨m, hix, hm⟩
      · have HIX := Aside0.mk hix
        have HNO := Aside0.mk (show findP x L = none by
          rw [← HF.out, HD.out, HSI.out, findP, if_pos (by rw [hix]; decide)])
        clear hix
        obtain ⟨RY, RQ⟩ : Aside0 (y = z28) ∧ Aside0 (q = 18) := by
          have h := HR2.out
          rw [HNO.out] at h
          injection h with h1 h2
          exact ⟨⟨h1.symm⟩, ⟨h2.symm⟩⟩
        go_wp2_with (first | ((with_reducible refine gate_dst (N := 9) rfl ?_); refine box_event ?hg (N := 9) ?hd (cs := #[.string (⟨#[]⟩ : ByteArray)]) (t := 9) ?hr ?_; (case hd => rfl); (case hg => rfl); (case hr => first | (go_simp; done) | (go_simp; rfl)); intro g9 hg wc hbox hb; have G9 := Aside0.mk (show w.heap.size ≤ g9 by rw [hg]; exact B0.out.size); have GS9 := Aside0.mk (show ws.heap.size ≤ g9 by rw [hg]; exact HKB.out.2.1); have NE29 := Aside0.mk (show g2 ≠ g9 by rw [hg]; exact Nat.ne_of_lt (blk_lt BKg2.out)); clear hg; have n0_ := Aside0.mk (KB.below HKB.out hb); have n1_ := Aside0.mk (blk_below BKg2.out hb); have n2_ := Aside0.mk (below_step B0.out hb); clear HKB BKg2 B0; have HKB := n0_; have BKg2 := n1_; have B0 := n2_; clear n0_ n1_ n2_ hb hc0 hc1 hc2 hc3; have BK9 := Aside0.mk hbox; clear hbox; have hc3 : wc.cell? ⟨g2, 3, none⟩ = some (.slice C3 xc.f3.length k3) := (blk_cell BKg2.out 3).trans rfl; have hne1 := NE29.out; have hne2 := Ne.symm NE29.out; have h9 : wc.cell? ⟨g9, 0, none⟩ = some (.string (⟨#[]⟩ : ByteArray)) := (blk_cell BK9.out 0).trans rfl; have hf9 := blk_frozen BK9.out 0) | (go_at_call 42; (with_reducible refine (ix_w _ _ _ _ s _ (NXc.out.below (below_set B0.out G9.out)).r3 (by have := HWc.out.len; omega) (blk_set BK9.out 0 _) _ HIX.out).mono ?_); rintro e wd ⟨rfl, hb⟩; have n0_ := Aside0.mk (KB.below (KB.far HKB.out GS9.out _) hb); have n1_ := Aside0.mk (blk_below (blk_far BKg2.out (p := ⟨g9, 0, none⟩) NE29.out _) hb); have n2_ := Aside0.mk (below_step (below_set B0.out G9.out) hb); clear HKB BKg2 B0 BK9 hc3 hne1 hne2 h9 hf9; have HKB := n0_; have BKg2 := n1_; have B0 := n2_; clear n0_ n1_ n2_ hb; have BKn4 := Aside0.mk (keep_blk HKB.out.2 BS4.out NE42.out)) | ((with_reducible refine gate_store (t := 28) (p := 4) (v := .tmp 32) rfl ?_); refine store28 rfl (.tmp 4) (.tmp 32) rfl g4 rfl z28 none 0 none 0 rfl BKn4.out ?_; intro wz hblk ho; have n0_ := Aside0.mk (B0.out.trans (ho.below GB0g4.out)); clear B0; have B0 := n0_; clear n0_; clear BKn4; have BKn4 := Aside0.mk hblk; clear hblk ho))
        refine bodyPost_ret (results_ct rfl _ _ g4 28 (nV z28 none 0 none 0).toArray (0, 0) _ rfl BKn4.out Tryd.underlying28 rfl (by kernel_rfl)) rfl ?_
        exact ⟨none, 0, none, 0, by rw [RY.out, RQ.out]; rfl, by rw [RY.out]; exact own_zero _ _, B0.out⟩
      · have HIX := Aside0.mk hix
        have HM := Aside0.mk hm
        have hm0 : decide ((m : Int) < 0) = false := decide_eq_false (by omega)
        have p5 : (0 ≤ (m : Int)) = True := eq_true (by omega)
        have q5 : ((m : Int) < (xc.f3.length : Int)) = True := eq_true (by omega)
        have HF2 := Aside0.mk (show findP (rd_T28 xc.f3 (m : Int)) (L.drop (i + 1)) = findP x L by
          rw [← HF.out, HD.out, HSI.out, findP, if_neg (by rw [hix]; omega), hix])
        have HWk := Aside0.mk (HWc.out.kid m hm)
        clear hix hm HF
        go_wp2_with (first | ((with_reducible refine gate_dst (N := 9) rfl ?_); refine box_event ?hg (N := 9) ?hd (cs := #[.string (⟨#[]⟩ : ByteArray)]) (t := 9) ?hr ?_; (case hd => rfl); (case hg => rfl); (case hr => first | (go_simp; done) | (go_simp; rfl)); intro g9 hg wc hbox hb; have G9 := Aside0.mk (show w.heap.size ≤ g9 by rw [hg]; exact B0.out.size); have GS9 := Aside0.mk (show ws.heap.size ≤ g9 by rw [hg]; exact HKB.out.2.1); have NE29 := Aside0.mk (show g2 ≠ g9 by rw [hg]; exact Nat.ne_of_lt (blk_lt BKg2.out)); clear hg; have n0_ := Aside0.mk (KB.below HKB.out hb); have n1_ := Aside0.mk (blk_below BKg2.out hb); have n2_ := Aside0.mk (below_step B0.out hb); clear HKB BKg2 B0; have HKB := n0_; have BKg2 := n1_; have B0 := n2_; clear n0_ n1_ n2_ hb hc0 hc1 hc2 hc3; have BK9 := Aside0.mk hbox; clear hbox; have hc3 : wc.cell? ⟨g2, 3, none⟩ = some (.slice C3 xc.f3.length k3) := (blk_cell BKg2.out 3).trans rfl; have hne1 := NE29.out; have hne2 := Ne.symm NE29.out; have h9 : wc.cell? ⟨g9, 0, none⟩ = some (.string (⟨#[]⟩ : ByteArray)) := (blk_cell BK9.out 0).trans rfl; have hf9 := blk_frozen BK9.out 0) | (go_at_call 42; (with_reducible refine (ix_w _ _ _ _ s _ (NXc.out.below (below_set B0.out G9.out)).r3 (by have := HWc.out.len; omega) (blk_set BK9.out 0 _) _ HIX.out).mono ?_); rintro e wd ⟨rfl, hb⟩; have n0_ := Aside0.mk (KB.below (KB.far HKB.out GS9.out _) hb); have n1_ := Aside0.mk (blk_below (blk_far BKg2.out (p := ⟨g9, 0, none⟩) NE29.out _) hb); have n2_ := Aside0.mk (below_step (below_set B0.out G9.out) hb); clear HKB BKg2 B0 BK9 hc3 hne1 hne2 h9 hf9; have HKB := n0_; have BKg2 := n1_; have B0 := n2_; clear n0_ n1_ n2_ hb; have BKn4 := Aside0.mk (keep_blk HKB.out.2 BS4.out NE42.out); obtain ⟨ak, K2, q2, K3, q3, ea, hnk, ha0, ha1, ha2, ha3⟩ := NodeC_at NXc.out B0.out m HM.out; subst ea; have NK := Aside0.mk hnk; clear hnk; have hc3 : wd.cell? ⟨g2, 3, none⟩ = some (.slice (some ak) xc.f3.length k3) := (blk_cell BKg2.out 3).trans rfl) | ((with_reducible refine gate_store (t := 28) (p := 2) (v := .tmp 37) rfl ?_); refine store28 rfl (.tmp 2) (.tmp 37) rfl g2 rfl (rd_T28 xc.f3 (m : Int)) K2 q2 K3 q3 rfl BKg2.out ?_; intro we hblk ho; have n0_ := Aside0.mk (B0.out.trans (ho.below GB0g2.out)); have n1_ := Aside0.mk (KB.only HKB.out ho); clear B0 HKB BKg2 ha0 ha1 ha2 ha3 hc3; have B0 := n0_; have HKB := n1_; have BKg2 := Aside0.mk hblk; clear n0_ n1_ hblk ho))
        go_roundg (n - (i + 1))
        case measure => have := HQ.out; omega
        case rel => exact ⟨i + 1, rd_T28 xc.f3 (m : Int), K2, q2, K3, q3, by first | rfl | (rw [hwi.out]; done) | (simp [hwi.out]; done) | go_num, by omega, ⟨rfl⟩, HF2, BKg2, NK, HWk, HKB, B0⟩
    · obtain rfl : i = n := by omega
      have hltb : decide ((i : Int) < (i : Int)) = false := decide_eq_false (by omega)
      have hltn : decide (i < i) = false := decide_eq_false (by omega)
      obtain ⟨RY, RQ⟩ : Aside0 (y = xc) ∧ Aside0 (q = 0) := by
        have h := HR2.out
        rw [← HF.out, EN.out, List.drop_length, findP] at h
        injection h with h1 h2
        exact ⟨⟨h1.symm⟩, ⟨h2.symm⟩⟩
      clear HF
      have HW1 := Aside0.mk (show wtN xc ≤ 140737488355000 from HWc.out.1)
      have HW2 := Aside0.mk (show cN xc ≤ 1000 from HWc.out.2)
      go_wp2_with (first | (go_at_call 22; (with_reducible refine (copy_own (NXc.out.below B0.out) HW1.out HW2.out).mono ?_); rintro e wf ⟨P2c, p2c, P3c, p3c, rfl, hown, hb⟩; have HO := Aside0.mk hown; have G4C := Aside0.mk (show g4 < wr.heap.size from Nat.lt_of_lt_of_le (blk_lt BS4.out) HKB.out.2.1); have BSZ := Aside0.mk B0.out.size; have BKn4 := Aside0.mk (blk_below (keep_blk HKB.out.2 BS4.out NE42.out) hb); have n0_ := Aside0.mk (below_step B0.out hb); clear B0; have B0 := n0_; clear n0_; clear hown hb hc0 hc1 hc2 hc3) | ((with_reducible refine gate_store (t := 28) (p := 4) (v := .tmp 40) rfl ?_); refine store28 rfl (.tmp 4) (.tmp 40) rfl g4 rfl xc P2c p2c P3c p3c rfl BKn4.out ?_; intro wg hblk ho; have OW := Aside0.mk ((HO.out g4 wg G4C.out ho).lower BSZ.out); have n0_ := Aside0.mk (B0.out.trans (ho.below GB0g4.out)); clear B0 BKn4; have B0 := n0_; clear n0_; have BKn4 := Aside0.mk hblk; clear hblk ho))
      refine bodyPost_ret (results_ct rfl _ _ g4 28 (nV xc P2c p2c P3c p3c).toArray (0, 0) _ rfl BKn4.out Tryd.underlying28 rfl (by kernel_rfl)) rfl ?_
      exact ⟨P2c, p2c, P3c, p3c, by rw [RY.out, RQ.out]; rfl, by rw [RY.out]; exact OW.out, B0.out⟩
end Go.Proofs.YthpgbhpnlnpfnaaDoor.Law
