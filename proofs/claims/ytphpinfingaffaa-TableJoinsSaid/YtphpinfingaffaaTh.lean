/- TableGathers: the law's walk where the stretch is one. -/
import Derived.Test.YtphpinfingaffaaTg
namespace Go.Proofs.Ytphpinfingaffaa.Law
open Go.RowKit Go.Proofs.Ytphpinfingaffaa Go.Proofs.YtphpinfingaffaaW.PrintWords Go.Proofs.YtphpinfingaffaaW.PrintLast Go.Proofs.YtphpinfingaffaaW.PrintMore Go.Proofs.Ytphpinfingaffaa.D Go.Proofs.Ytphpinfingaffaa.Fl
set_option linter.unusedSimpArgs false
set_option linter.unusedVariables false
theorem LJ.app {w W W' : World} {x : En} {A : Option Addr} {c g8 g9 g11 : Nat} {Aw : Option Addr} {cw : Nat} {bad : Int} {sh : Bool} {parts : List P42} {V V' : Value} {acc acc' : List Int} (h : LJ w W x A c g8 g9 g11 Aw cw bad sh parts V acc) (hR : Kd.C kPc w A x.ps.length x.ps)
    (hg : W.grownBy W' V.ownBlock) (hb : Below w.heap.size w W') (ho : Kd.R (Kd.int .u8) 5 W' w.heap.size (fun _ => True) V' acc') : LJ w W' x A c g8 g9 g11 Aw cw bad sh parts V' acc' := by
  refine ⟨hb, ⟨blk_grown h.e.blk hg (Kd.R_ne h.ho h.e.blk (by decide)), h.e.tl, h.e.hc, Kd.C_below hR hb⟩, blk_grown h.k8 hg (Kd.R_ne h.ho h.k8 (by decide)), blk_grown h.k9 hg (Kd.R_ne h.ho h.k9 (by decide)), blk_grown h.k11 hg (Kd.R_ne h.ho h.k11 (by decide)), ?_, ho⟩
  refine Kd.R_mono (Kd.R_step (Kd.R_bound h.hp) (fun k hk2 hlt => hg.block k hlt ?_)) (fun _ _ => trivial)
  intro e
  obtain ⟨_, _, _, q, hq, cells, hc⟩ := hk2
  obtain ⟨inner, hown⟩ := Kd.R_own h.ho
  obtain ⟨cells2, hc2⟩ := own_typed hown k e.symm
  rw [hc2] at hc
  injection hc with hc
  injection hc with _ hc
  subst hc
  exact absurd hq (by decide)
/-- what stands while Gather runs -/
def SG (wC : World) (gok gat : Nat) (j : Nat) (W : World) : Prop := W.heap[gok]? = some (.cells #[.bool true] 4 (0, 0)) ∧ W.heap[gat]? = some (.cells #[.int .i64 (j : Int)] 3 (0, 0)) ∧ ∀ k, k < wC.heap.size → k ≠ gok → k ≠ gat → W.heap[k]? = wC.heap[k]?
theorem gather_law {w wX wC : World} {x : En} {A : Option Addr} {c g8 g9 g11 gok gat : Nat} {Aw : Option Addr} {cw : Nat} {bad : Int} {sh : Bool} {parts : List P42} {V : Value} {acc acc0 : List Int} {e0 c0 m : Int} (J : LJ w wX x A c g8 g9 g11 Aw cw bad sh parts V acc)
    (hC : Below wX.heap.size wX wC) (h1 : wX.heap.size ≤ gok) (h2 : wX.heap.size ≤ gat) (kok : wC.heap[gok]? = some (.cells #[.bool true] 4 (0, 0))) (kat : wC.heap[gat]? = some (.cells #[.int .i64 0] 3 (0, 0)))
    (hf : fewB x = true) (hpk : pickP x c0 m = (parts, 0)) (hw : wantG x.ps bad sh parts [] = (acc0, e0)) :
    Calls Try.prog 17 #[.agg (enV x A c).toArray, .int .i64 c0, .int .i64 m, .func (.func 18) #[] #[.pointer (some ⟨gok, 0, none⟩), .pointer (some ⟨gat, 0, none⟩), .pointer (some ⟨g11, 0, none⟩), .pointer (some ⟨w.heap.size, 0, none⟩), .pointer (some ⟨g8, 0, none⟩), .pointer (some ⟨g9, 0, none⟩)]] wC
      fun e w' => ∃ (V' : Value) (jn : Nat), e = .returned (.tuple #[V', .int .i64 e0]) ∧ Kd.R (Kd.int .u8) 5 w' wC.heap.size (fun _ => True) V' (if e0 = 0 then acc0 else []) ∧ (e0 = 0 → jn = parts.length) ∧ SG wC gok gat jn w' ∧ Below wX.heap.size wX w' := by
  have hfine := pick_ok1 hpk
  have hlen := (of_decide_eq_true hf : x.nm.size ≤ 1000 ∧ x.ps.length ≤ 300).2
  have hok : ∀ y ∈ parts, ∃ k : Nat, k < x.ps.length ∧ y.i = (k : Int) ∧ 0 ≤ y.b ∧ 0 ≤ y.n ∧ y.b + y.n ≤ (rdPc x.ps k).n := by
    have := pickP_ok (x := x) (c := c0) (m := m); rw [hpk] at this; exact this
  have hpl : parts.length ≤ 1000 := by have := pickP_len (x := x) (c := c0) (m := m); rw [hpk] at this; exact this
  have hptok : ∀ y ∈ parts, PtOk x.ps y := fun y hy => by
    obtain ⟨k, hk, e, _⟩ := hok y hy
    refine ⟨by omega, ?_⟩
    rw [e, Int.toNat_natCast]
    exact (hfine.2.2.1 _ (rdPc_mem hk)).1
  have hgw := gath_want x.ps bad sh (resG x.ps bad sh parts) parts 0 [] resG_get hptok
  rw [hw] at hgw
  dsimp only at hgw
  obtain ⟨r, jn, hg, hr, hjn⟩ : ∃ (r : List Int) (jn : Nat), gath x.ps (resG x.ps bad sh parts) 0 parts [] = (r, e0, jn) ∧ r = (if e0 = 0 then acc0 else []) ∧ (e0 = 0 → jn = parts.length) := by
    by_cases he : e0 = 0
    · refine ⟨acc0, parts.length, by rw [hgw.1 he, he, Nat.zero_add], by rw [if_pos he], fun _ => rfl⟩
    · obtain ⟨jn, hj⟩ := hgw.2 he
      exact ⟨[], jn, hj, by rw [if_neg he], fun h => absurd h he⟩
  have hzok := blk_lt kok
  have hzat := blk_lt kat
  have hXC := hC.size
  refine (gather_18 wX wC x A c gok gat g11 w.heap.size g8 g9 c0 m parts (resG x.ps bad sh parts) (SG wC gok gat) J.e.rd hC J.e.tl J.e.hc (few_sz hf) hpk ⟨kok, kat, fun k _ _ _ => rfl⟩ (fun j W W' hS hk => ⟨(hk gok hzok).trans hS.1, (hk gat hzat).trans hS.2.1, fun k hlt a b => (hk k hlt).trans (hS.2.2 k hlt a b)⟩) ?_ r e0 jn hg).mono ?_
  · intro j W hj hS hB hle
    obtain ⟨k, hk1, hk2, _⟩ := hok _ (rd42_mem hj)
    have hkn := hfine.2.2.1 _ (rdPc_mem hk1)
    unfold okN at hkn
    have hold : ∀ q, q < wX.heap.size → W.heap[q]? = wX.heap[q]? := fun q hq => hB.block q hq
    have hres : resG x.ps bad sh parts j = resF bad sh k (rdPc x.ps k).n.toNat := by unfold resG; rw [hk2, Int.toNat_natCast]
    have l11 := blk_lt J.k11
    have l8 := blk_lt J.k8
    have l9 := blk_lt J.k9
    have lx := blk_lt J.e.blk
    rw [hk2, hres]
    refine (clo18 wX W gok gat g11 w.heap.size g8 g9 x A c parts Aw cw j k (rdPc x.ps k).n.toNat bad sh J.e.rd (Kd.R_reads' J.hp).2.2 hB h1 h2 J.e.tl J.e.hc hS.1 hS.2.1 ((hold g11 l11).trans J.k11) ((hold _ lx).trans J.e.blk) ((hold g8 l8).trans J.k8) ((hold g9 l9).trans J.k9) (by omega) (by omega) hj hpl hk2 hk1 hlen (by omega) (by omega) (by omega)).mono ?_
    rintro e W' ⟨A', c', rfl, hc', hC', ho', ha', ht⟩
    refine ⟨A', c', rfl, hc', hC', ⟨ho', ha', fun q hq a b => ?_⟩, hB.trans (below_two2 ht hB.size h1 h2), ht.size, fun q hq hlt => ht.block q hlt (by omega) (by omega)⟩
    exact (ht.block q (by omega) a b).trans (hS.2.2 q hq a b)
  · rintro e w' ⟨V', rfl, hv, hS, hb, _⟩
    exact ⟨V', jn, rfl, by rw [← hr]; exact hv, hjn, hS, hb⟩
theorem mid_piece (A4 : Option Addr) (c4 : Nat) (l : List Int) (yb yn : Int) (h3 : 0 ≤ yb) (h4 : 0 ≤ yn) (h5 : yb + yn ≤ (l.length : Int)) (hc4 : l.length ≤ c4) :
    ∃ A2 : Option Addr, (∀ W : World, (Instr.slice 53 (.slice A4 l.length c4) (some (.int .i64 yb)) (some (.int .i64 (yb + yn))) none).run Try.prog W = .ok (.slice A2 ((l.take (yb + yn).toNat).drop yb.toNat).length (c4 - yb.toNat)) W) ∧
      (∀ w : World, Kd.C (Kd.int .u8) w A4 l.length l → Kd.C (Kd.int .u8) w A2 ((l.take (yb + yn).toNat).drop yb.toNat).length ((l.take (yb + yn).toNat).drop yb.toNat)) := by
  obtain ⟨iU, hiU, hzU⟩ := Option.map_eq_some_iff.1 info5
  have hszU : iU.size = 1 := by simp only [Prod.mk.injEq] at hzU; exact hzU.2.1
  obtain ⟨A2, h1, h2, _⟩ := print_mid_int (P := Try.prog) (k := .u8) 53 5 Try.underlying53 hiU hszU A4 c4 l yb (yb + yn) h3 (by omega) h5 hc4
  exact ⟨A2, h1, fun w h => Kd.C_of_reads (enc := Value.int .u8) (d := (0 : Int)) (h1 := fun _ => rfl) (h2 w (Kd.reads_of_C (enc := Value.int .u8) (d := (0 : Int)) (h1 := fun _ => rfl) h))⟩
set_option maxHeartbeats 4000000 in
set_option maxRecDepth 100000 in
theorem gathers_ok {x : En} {cs : List Value} {w : World} (h : kEn.K w x cs) (hf : fewB x = true) (c0 m bad : Int) (sh : Bool) (parts : List P42) (hpk : pickP x c0 m = (parts, 0)) : Calls Try.prog 5 #[.agg cs.toArray, .int .i64 c0, .int .i64 m, .int .i64 bad, .bool sh] w fun e w' => e = .returned (.bool true) ∧ Below w.heap.size w w' := by
  obtain ⟨A, c, rfl, ht, hc, hr⟩ := kEn_open h
  have HT := Aside0.mk ht
  have HC := Aside0.mk hc
  have HR := Aside0.mk hr
  have HFW := Aside0.mk hf
  clear h ht hc hr
  have HSZ := Aside0.mk (few_sz hf)
  have HPP := Aside0.mk hpk
  have hfine := pick_ok1 hpk
  have HFI := Aside0.mk hfine
  have hln : parts.length ≤ 1000 := by have := pickP_len (x := x) (c := c0) (m := m); rw [hpk] at this; exact this
  have HOK := Aside0.mk (show ∀ y ∈ parts, ∃ k : Nat, k < x.ps.length ∧ y.i = (k : Int) ∧ 0 ≤ y.b ∧ 0 ≤ y.n ∧ y.b + y.n ≤ (rdPc x.ps k).n by have := pickP_ok (x := x) (c := c0) (m := m); rw [hpk] at this; exact this)
  have HXL := Aside0.mk (of_decide_eq_true hf : x.nm.size ≤ 1000 ∧ x.ps.length ≤ 300)
  obtain ⟨acc0, e0, hw⟩ : ∃ acc0 e0, wantG x.ps bad sh parts [] = (acc0, e0) := ⟨_, _, rfl⟩
  have HW0 := Aside0.mk hw
  clear hf hpk hfine hw
  go_enter Try.func5, Try.ntmps5
  go_wp2_with (first | ((with_reducible refine gate_dst (N := 5) rfl ?_); refine wpList_box rfl 26 (.tmp 0) rfl (enV x A c) rfl ?_; intro w1 hk hb hs; have E := Aside0.mk (EnAt.mk hk HT.out HC.out (Kd.C_below HR.out hb)); have HB := Aside0.mk hb; clear hk hb hs) | ((with_reducible refine gate_dst (N := 8) rfl ?_); refine wpList_box_one rfl 3 (.tmp 3) rfl (.int .i64 bad) rfl rfl ?_; intro w2 hk hb hs; have K8 := Aside0.mk hk; clear hk hs; have n0_ := Aside0.mk (E.out.below hb); have n1_ := Aside0.mk (below_step HB.out hb); clear E HB hb; have E := n0_; have HB := n1_; clear n0_ n1_) | ((with_reducible refine gate_dst (N := 9) rfl ?_); refine wpList_box_one rfl 4 (.tmp 4) rfl (.bool sh) rfl rfl ?_; intro w3 hk hb hs; have K9 := Aside0.mk hk; clear hk hs; have n0_ := Aside0.mk (E.out.below hb); have n1_ := Aside0.mk (below_step HB.out hb); have n2_ := Aside0.mk (blk_below K8.out hb); clear E HB K8 hb; have E := n0_; have HB := n1_; have K8 := n2_; clear n0_ n1_ n2_) | ((with_reducible refine gate_dst (N := 25) rfl ?_); refine load_en rfl (.tmp 5) rfl w.heap.size rfl E.out ?_) | ((with_reducible refine gate_dst (N := 30) rfl ?_); refine load_en rfl (.tmp 5) rfl w.heap.size rfl E.out ?_) | (go_at_call 7; with_reducible refine (few_calls E.out.K true HFW.out).mono ?_; rintro e w4 ⟨rfl, hb⟩; have n0_ := Aside0.mk (E.out.below hb); have n1_ := Aside0.mk (below_step HB.out hb); have n2_ := Aside0.mk (blk_below K8.out hb); have n3_ := Aside0.mk (blk_below K9.out hb); clear E HB K8 K9 hb; have E := n0_; have HB := n1_; have K8 := n2_; have K9 := n3_; clear n0_ n1_ n2_ n3_) | (go_at_call 15; with_reducible refine (rpick_calls E.out.K HSZ.out c0 m).mono ?_; rw [HPP.out]; rintro e w5 ⟨V5, rfl, hv, hb⟩; obtain ⟨Aw, cw, rfl⟩ := Kd.R_slice hv; have HP := Aside0.mk (Kd.R_lower hv HB.out.size); clear hv; have n0_ := Aside0.mk (E.out.below hb); have n1_ := Aside0.mk (below_step HB.out hb); have n2_ := Aside0.mk (blk_below K8.out hb); have n3_ := Aside0.mk (blk_below K9.out hb); clear E HB K8 K9 hb; have E := n0_; have HB := n1_; have K8 := n2_; have K9 := n3_; clear n0_ n1_ n2_ n3_) | ((with_reducible refine gate_dst (N := 11) rfl ?_); refine wpList_new_var rfl 45 rfl _ info45z ?_; intro w6 hk hb hs; have K11 := Aside0.mk hk; have HB5 := Aside0.mk HB.out.size; clear hk hs; have n0_ := Aside0.mk (E.out.below hb); have n1_ := Aside0.mk (below_step HB.out hb); have n2_ := Aside0.mk (blk_below K8.out hb); have n3_ := Aside0.mk (blk_below K9.out hb); have n4_ := Aside0.mk (Kd.R_below HP.out hb); clear E HB K8 K9 HP hb; have E := n0_; have HB := n1_; have K8 := n2_; have K9 := n3_; have HP := n4_; clear n0_ n1_ n2_ n3_ n4_) | ((with_reducible refine gate_store (t := 45) (p := 11) (v := .tmp 34) rfl ?_); refine wpList_store_box rfl 45 (.tmp 11) (.tmp 34) rfl w5.heap.size 45 rfl (.slice Aw parts.length cw) _ rfl rfl rfl K11.out info45s ?_; intro w7 hk ho; have nE_ := Aside0.mk (EnAt.mk ((ho.block _ (blk_ne E.out.blk K11.out (by decide))).trans E.out.blk) HT.out HC.out (Kd.C_below HR.out (HB.out.trans (ho.below HB5.out)))); have n8_ := Aside0.mk ((ho.block _ (blk_ne K8.out K11.out (by decide))).trans K8.out); have n9_ := Aside0.mk ((ho.block _ (blk_ne K9.out K11.out (by decide))).trans K9.out); have nP_ := Aside0.mk (Kd.R_mono (Kd.R_step (Kd.R_types HP.out K11.out (by decide)) (fun k hk2 _ => ho.block k hk2.2)) (fun _ _ => trivial)); have nB_ := Aside0.mk (HB.out.trans (ho.below HB5.out)); clear E K8 K9 HP HB K11 ho; have E := nE_; have K8 := n8_; have K9 := n9_; have HP := nP_; have HB := nB_; have K11 := Aside0.mk hk; clear nE_ n8_ n9_ nP_ nB_ hk; have z11 := (blk_cell K11.out 0).trans rfl))
  have HJ := Aside0.mk (LJ.mk HB.out E.out K8.out K9.out K11.out HP.out (Kd.R_nil (Kd.int .u8) 5 _ w.heap.size (fun _ => True)) : LJ w w7 x A c w1.heap.size w2.heap.size w5.heap.size Aw cw bad sh parts (.slice none 0 0) [])
  clear HB E K8 K9 K11 HP HB5 z11
  generalize w1.heap.size = g8 at *
  generalize w2.heap.size = g9 at *
  generalize w5.heap.size = g11 at *
  go_loopw [13, 14, 40] (fun v13 v14 v40 wr => ∃ (i : Nat) (acc : List Int), i ≤ parts.length ∧ v14 = .int .i64 0 ∧ v40 = .int .i64 (i : Int) ∧ Aside0 (acc.length ≤ 4096 * i) ∧ Aside0 (wantG x.ps bad sh (parts.drop i) acc = (acc0, e0)) ∧ Aside0 (LJ w wr x A c g8 g9 g11 Aw cw bad sh parts v13 acc)) (fun _ _ v40 _ => parts.length - (intOf v40).toNat)
  case atStart => exact ⟨0, [], Nat.zero_le _, rfl, rfl, ⟨Nat.zero_le _⟩, ⟨by rw [List.drop_zero]; exact HW0.out⟩, HJ⟩
  case round =>
    obtain ⟨i, acc, hi, rfl, rfl, HAC, HWI, J⟩ := hrel
    clear HJ
    obtain ⟨Vo, rfl⟩ : ∃ V, V = u13 := ⟨_, rfl⟩
    by_cases hlt : i < parts.length
    · have hltb : decide ((i : Int) < (parts.length : Int)) = true := decide_eq_true (lt_lt hlt)
      have p1 : (0 ≤ (i : Int)) = True := eq_true (Int.natCast_nonneg _)
      have p2 : ((i : Int) < (parts.length : Int)) = True := eq_true (lt_lt hlt)
      have hst := HWI.out
      rw [drop_P42 hlt] at hst
      obtain ⟨k, hk1, hk2, hk3, hk4, hk5⟩ := HOK.out _ (rd42_mem hlt)
      obtain ⟨ad, hap, hx0, hx1, hx2⟩ := at_T51 (Kd.R_reads' J.out.hp).2.2 (i : Int) (Int.natCast_nonneg _) (lt_lt hlt)
      subst hap
      rw [Int.toNat_natCast] at hx0 hx1 hx2
      generalize rd_T42 parts (i : Int) = y at *
      obtain ⟨yi, yb, yn⟩ := y
      dsimp only at *
      subst hk2
      have hwi : wrap64 ((i : Int) + 1) = (i : Int) + 1 := wi hlt hln
      rw [wantG] at hst
      dsimp only at hst
      by_cases hb : (k : Int) = bad
      · have b1 : ((k : Int) == bad) = true := beq_iff_eq.mpr hb
        rw [if_pos hb] at hst
        have hst2 := congrArg Prod.snd hst
        dsimp only at hst2
        clear hk1 hk3 hk4 hk5 hb hst
        cases sh with
        | true =>
          obtain rfl : (5 : Int) = e0 := by simpa using hst2
          clear hst2
          go_wp2_with (first | ((with_reducible refine gate_dst (N := 16) rfl ?_); refine wpList_new_row rfl rfl 51 rfl (.agg #[.int .i64 0, .int .i64 0, .int .i64 0]) info51z (.tmp 16) (.tmp 43) rfl rfl [.int .i64 (k : Int), .int .i64 yb, .int .i64 yn] rfl info51s rfl three51 ?_; intro w8 hkp hb hsz; have KP := Aside0.mk hkp; have nJ_ := Aside0.mk (J.out.new hb); clear J hkp hb hsz hx0 hx1 hx2; have J := nJ_; clear nJ_; have y0 := (blk_cell KP.out 0).trans rfl; have y1 := (blk_cell KP.out 1).trans rfl; have y2 := (blk_cell KP.out 2).trans rfl; have z8 := (blk_cell J.out.k8 0).trans rfl; have z9 := (blk_cell J.out.k9 0).trans rfl) | ((with_reducible refine gate_dst (N := 17) rfl ?_); refine wpList_new_var rfl 3 rfl _ info3z ?_; intro wa hk hb hs; have KAT := Aside0.mk hk; have HBX := Aside0.mk hb; have HSA := Aside0.mk hs; clear hk hb hs) | ((with_reducible refine gate_dst (N := 18) rfl ?_); refine wpList_new_var rfl 4 rfl _ info4z ?_; intro wb hk hb hs; have KOK := Aside0.mk hk; have nA_ := Aside0.mk (blk_below KAT.out hb); have nX_ := Aside0.mk (below_step HBX.out hb); clear KAT HBX hk hb hs; have KAT := nA_; have HBX := nX_; clear nA_ nX_) | ((with_reducible refine gate_store (t := 3) (p := 17) (v := .const (.int .i64 0)) rfl ?_); refine wpList_store_box rfl 3 (.tmp 17) (.const (.int .i64 0)) rfl _ 3 rfl (.int .i64 0) _ rfl rfl rfl KAT.out info3s ?_; intro wc hk ho; have nO_ := Aside0.mk ((ho.block _ (fun h => blk_ne KAT.out KOK.out (by decide) h.symm)).trans KOK.out); have nX_ := Aside0.mk (HBX.out.trans (ho.below (Nat.le_refl _))); clear KAT KOK HBX ho; have KAT := Aside0.mk hk; have KOK := nO_; have HBX := nX_; clear nO_ nX_ hk) | ((with_reducible refine gate_store (t := 4) (p := 18) (v := .const (.bool true)) rfl ?_); refine wpList_store_box rfl 4 (.tmp 18) (.const (.bool true)) rfl _ 4 rfl (.bool true) _ rfl rfl rfl KOK.out info4s ?_; intro wd hk ho; have nA_ := Aside0.mk ((ho.block _ (blk_ne KAT.out KOK.out (by decide))).trans KAT.out); have nX_ := Aside0.mk (HBX.out.trans (ho.below (by rw [HSA.out]; exact Nat.le_succ _))); clear KAT KOK HBX ho; have KOK := Aside0.mk hk; have KAT := nA_; have HBX := nX_; clear nA_ nX_ hk; have JC := Aside0.mk (J.out.new HBX.out)) | ((with_reducible refine gate_dst (N := 68) rfl ?_); refine load_en rfl (.tmp 5) rfl w.heap.size rfl JC.out.e ?_) | (go_at_call 17; (with_reducible refine (gather_law J.out HBX.out (by rw [HSA.out]; exact Nat.le_succ _) (Nat.le_refl _) KOK.out KAT.out HFW.out HPP.out HW0.out).mono ?_); rintro e we ⟨V', jn, rfl, hv, hjn, hS, hb⟩; obtain ⟨Ag, cg, rfl⟩ := Kd.R_slice hv; have HV := Aside0.mk hv; have HJN := Aside0.mk hjn; have SJ := Aside0.mk hS; have HBE := Aside0.mk (J.out.hb.trans (hb.mono J.out.hb.size)); have zok := (blk_cell hS.1 0).trans rfl; have zat := (blk_cell hS.2.1 0).trans rfl; have z11 := (blk_cell ((hS.2.2 g11 (blk_lt JC.out.k11) (fun h => blk_ne JC.out.k11 KOK.out (by decide) h) (fun h => blk_ne JC.out.k11 KAT.out (by decide) h)).trans JC.out.k11) 0).trans rfl; have HAL := Aside0.mk (Kd.R_mono (Kd.R_step (Kd.R_types (Kd.R_types JC.out.ho KOK.out (by decide)) KAT.out (by decide)) (fun k hk hlt => hS.2.2 k hlt hk.1.2 hk.2)) (fun _ _ => trivial : ∀ k, _ → True)); clear hv hjn hS hb) | (go_at_call 8; with_reducible refine (awake_calls _).mono ?_; rintro e w9 ⟨rfl, hb⟩; have HB9 := Aside0.mk (below_step HBE.out hb); clear hb))
          go_ret
          exact ⟨rfl, HB9.out⟩
        | false =>
          obtain rfl : (11 : Int) = e0 := by simpa using hst2
          clear hst2
          go_wp2_with (first | ((with_reducible refine gate_dst (N := 16) rfl ?_); refine wpList_new_row rfl rfl 51 rfl (.agg #[.int .i64 0, .int .i64 0, .int .i64 0]) info51z (.tmp 16) (.tmp 43) rfl rfl [.int .i64 (k : Int), .int .i64 yb, .int .i64 yn] rfl info51s rfl three51 ?_; intro w8 hkp hb hsz; have KP := Aside0.mk hkp; have nJ_ := Aside0.mk (J.out.new hb); clear J hkp hb hsz hx0 hx1 hx2; have J := nJ_; clear nJ_; have y0 := (blk_cell KP.out 0).trans rfl; have y1 := (blk_cell KP.out 1).trans rfl; have y2 := (blk_cell KP.out 2).trans rfl; have z8 := (blk_cell J.out.k8 0).trans rfl; have z9 := (blk_cell J.out.k9 0).trans rfl) | ((with_reducible refine gate_dst (N := 17) rfl ?_); refine wpList_new_var rfl 3 rfl _ info3z ?_; intro wa hk hb hs; have KAT := Aside0.mk hk; have HBX := Aside0.mk hb; have HSA := Aside0.mk hs; clear hk hb hs) | ((with_reducible refine gate_dst (N := 18) rfl ?_); refine wpList_new_var rfl 4 rfl _ info4z ?_; intro wb hk hb hs; have KOK := Aside0.mk hk; have nA_ := Aside0.mk (blk_below KAT.out hb); have nX_ := Aside0.mk (below_step HBX.out hb); clear KAT HBX hk hb hs; have KAT := nA_; have HBX := nX_; clear nA_ nX_) | ((with_reducible refine gate_store (t := 3) (p := 17) (v := .const (.int .i64 0)) rfl ?_); refine wpList_store_box rfl 3 (.tmp 17) (.const (.int .i64 0)) rfl _ 3 rfl (.int .i64 0) _ rfl rfl rfl KAT.out info3s ?_; intro wc hk ho; have nO_ := Aside0.mk ((ho.block _ (fun h => blk_ne KAT.out KOK.out (by decide) h.symm)).trans KOK.out); have nX_ := Aside0.mk (HBX.out.trans (ho.below (Nat.le_refl _))); clear KAT KOK HBX ho; have KAT := Aside0.mk hk; have KOK := nO_; have HBX := nX_; clear nO_ nX_ hk) | ((with_reducible refine gate_store (t := 4) (p := 18) (v := .const (.bool true)) rfl ?_); refine wpList_store_box rfl 4 (.tmp 18) (.const (.bool true)) rfl _ 4 rfl (.bool true) _ rfl rfl rfl KOK.out info4s ?_; intro wd hk ho; have nA_ := Aside0.mk ((ho.block _ (blk_ne KAT.out KOK.out (by decide))).trans KAT.out); have nX_ := Aside0.mk (HBX.out.trans (ho.below (by rw [HSA.out]; exact Nat.le_succ _))); clear KAT KOK HBX ho; have KOK := Aside0.mk hk; have KAT := nA_; have HBX := nX_; clear nA_ nX_ hk; have JC := Aside0.mk (J.out.new HBX.out)) | ((with_reducible refine gate_dst (N := 68) rfl ?_); refine load_en rfl (.tmp 5) rfl w.heap.size rfl JC.out.e ?_) | (go_at_call 17; (with_reducible refine (gather_law J.out HBX.out (by rw [HSA.out]; exact Nat.le_succ _) (Nat.le_refl _) KOK.out KAT.out HFW.out HPP.out HW0.out).mono ?_); rintro e we ⟨V', jn, rfl, hv, hjn, hS, hb⟩; obtain ⟨Ag, cg, rfl⟩ := Kd.R_slice hv; have HV := Aside0.mk hv; have HJN := Aside0.mk hjn; have SJ := Aside0.mk hS; have HBE := Aside0.mk (J.out.hb.trans (hb.mono J.out.hb.size)); have zok := (blk_cell hS.1 0).trans rfl; have zat := (blk_cell hS.2.1 0).trans rfl; have z11 := (blk_cell ((hS.2.2 g11 (blk_lt JC.out.k11) (fun h => blk_ne JC.out.k11 KOK.out (by decide) h) (fun h => blk_ne JC.out.k11 KAT.out (by decide) h)).trans JC.out.k11) 0).trans rfl; have HAL := Aside0.mk (Kd.R_mono (Kd.R_step (Kd.R_types (Kd.R_types JC.out.ho KOK.out (by decide)) KAT.out (by decide)) (fun k hk hlt => hS.2.2 k hlt hk.1.2 hk.2)) (fun _ _ => trivial : ∀ k, _ → True)); clear hv hjn hS hb) | (go_at_call 8; with_reducible refine (awake_calls _).mono ?_; rintro e w9 ⟨rfl, hb⟩; have HB9 := Aside0.mk (below_step HBE.out hb); clear hb))
          go_ret
          exact ⟨rfl, HB9.out⟩
      · have b1 : ((k : Int) == bad) = false := beq_eq_false_iff_ne.mpr hb
        rw [if_neg hb, Int.toNat_natCast] at hst
        have hkn := HFI.out.2.2.1 _ (rdPc_mem hk1)
        unfold okN at hkn
        obtain ⟨n, hn⟩ : ∃ n : Nat, (rdPc x.ps k).n = n := ⟨_, (Int.toNat_of_nonneg (by omega)).symm⟩
        rw [hn, Int.toNat_natCast] at hst
        rw [hn] at hk5 hkn
        have hpl := pieceB_len k n
        have HPC := Aside0.mk (fun (W : World) (h : EnAt W w.heap.size x A c) => piece_calls h.K k n hk1 HXL.out.2 hn (by omega))
        have HMID := Aside0.mk (fun (A4 : Option Addr) (c4 : Nat) (hc4 : (pieceB k n).length ≤ c4) => mid_piece A4 c4 (pieceB k n) yb yn hk3 hk4 (by rw [hpl]; exact hk5) hc4)
        have hsl : (((pieceB k n).take (yb + yn).toNat).drop yb.toNat).length ≤ n := by rw [List.length_drop, List.length_take, hpl]; omega
        have hac := HAC.out
        generalize ((pieceB k n).take (yb + yn).toNat).drop yb.toNat = sl at *
        have HLA := Aside0.mk (show (acc.length + sl.length) * 1 ≤ 140737488355328 by omega)
        have HAC2 := Aside0.mk (show (acc ++ sl).length ≤ 4096 * (i + 1) by rw [List.length_append]; omega)
        have hwb : wrap64 (yb + yn) = yb + yn := n64 (by omega) (by omega)
        have HWN := Aside0.mk hst
        clear hst hk1 hk3 hk4 hk5 hb hkn hn hpl hsl hac
        go_wp2_with (first | ((with_reducible refine gate_dst (N := 16) rfl ?_); refine wpList_new_row rfl rfl 51 rfl (.agg #[.int .i64 0, .int .i64 0, .int .i64 0]) info51z (.tmp 16) (.tmp 43) rfl rfl [.int .i64 (k : Int), .int .i64 yb, .int .i64 yn] rfl info51s rfl three51 ?_; intro w8 hkp hb hsz; have KP := Aside0.mk hkp; have nJ_ := Aside0.mk (J.out.new hb); clear J hkp hb hsz hx0 hx1 hx2; have J := nJ_; clear nJ_; have y0 := (blk_cell KP.out 0).trans rfl; have y1 := (blk_cell KP.out 1).trans rfl; have y2 := (blk_cell KP.out 2).trans rfl; have z8 := (blk_cell J.out.k8 0).trans rfl; have z9 := (blk_cell J.out.k9 0).trans rfl))
        refine start_ (n := 18) (S := fun w' => EnAt w' w.heap.size x A c ∧ w'.cell? ⟨wr.heap.size, 0, none⟩ = some (.int .i64 (k : Int)) ∧ w'.cell? ⟨wr.heap.size, 1, none⟩ = some (.int .i64 yb) ∧ w'.cell? ⟨wr.heap.size, 2, none⟩ = some (.int .i64 yn)) (ds := []) #[false, false, false, false, false, false, false, false, false, false, false, false, false, false, false, false, false, false] (by kernel_rfl) rfl rfl ⟨J.out.e.below (below_drew1 (Below.refl _ _)), y0, y1, y2⟩ (fun hHeld => ?_)
        refine pure_ (i := 0) (N := some 49) (v := ?_) (a' := ?_) #[true, false, false, false, false, false, false, false, false, false, false, false, false, false, false, false, false, false] rfl rfl (by kernel_rfl) (fun _ _ _ h => h) (Or.inl ⟨by rfl, ?_⟩) ?_ ?_
        rotate_left
        · intro w'
          go_simp
          with_reducible rfl
        rotate_left
        · simp only [Act.put, List.setIfInBounds_toArray, List.set_cons_zero, List.set_cons_succ, i64_w, i32_w]
          rfl
        refine pure_ (i := 2) (N := some 51) (v := ?_) (a' := ?_) #[true, false, true, false, false, false, false, false, false, false, false, false, false, false, false, false, false, false] rfl rfl (by kernel_rfl) (fun _ _ _ h => h) (Or.inl ⟨by rfl, ?_⟩) ?_ ?_
        rotate_left
        · intro w'
          go_simp
          with_reducible rfl
        rotate_left
        · simp only [Act.put, List.setIfInBounds_toArray, List.set_cons_zero, List.set_cons_succ, i64_w, i32_w]
          rfl
        refine pure_ (i := 5) (N := some 54) (v := ?_) (a' := ?_) #[true, false, true, false, false, true, false, false, false, false, false, false, false, false, false, false, false, false] rfl rfl (by kernel_rfl) (fun _ _ _ h => h) (Or.inl ⟨by rfl, ?_⟩) ?_ ?_
        rotate_left
        · intro w'
          go_simp
          with_reducible rfl
        rotate_left
        · simp only [Act.put, List.setIfInBounds_toArray, List.set_cons_zero, List.set_cons_succ, i64_w, i32_w]
          rfl
        refine pure_ (i := 6) (N := some 55) (v := ?_) (a' := ?_) #[true, false, true, false, false, true, true, false, false, false, false, false, false, false, false, false, false, false] rfl rfl (by kernel_rfl) (fun _ _ _ h => h) (Or.inl ⟨by rfl, ?_⟩) ?_ ?_
        rotate_left
        · intro w'
          go_simp
          with_reducible rfl
        rotate_left
        · simp only [Act.put, List.setIfInBounds_toArray, List.set_cons_zero, List.set_cons_succ, i64_w, i32_w]
          rfl
        refine pure_ (i := 8) (N := some 57) (v := ?_) (a' := ?_) #[true, false, true, false, false, true, true, false, true, false, false, false, false, false, false, false, false, false] rfl rfl (by kernel_rfl) (fun _ _ _ h => h) (Or.inl ⟨by rfl, ?_⟩) ?_ ?_
        rotate_left
        · intro w'
          go_simp
          with_reducible rfl
        rotate_left
        · simp only [Act.put, List.setIfInBounds_toArray, List.set_cons_zero, List.set_cons_succ, i64_w, i32_w]
          rfl
        refine pure_ (i := 9) (N := some 58) (v := ?_) (a' := ?_) #[true, false, true, false, false, true, true, false, true, true, false, false, false, false, false, false, false, false] rfl rfl (by kernel_rfl) (fun _ _ _ h => h) (Or.inl ⟨by rfl, ?_⟩) ?_ ?_
        rotate_left
        · intro w'
          go_simp
          with_reducible rfl
        rotate_left
        · simp only [Act.put, List.setIfInBounds_toArray, List.set_cons_zero, List.set_cons_succ, i64_w, i32_w]
          rfl
        refine pure_ (i := 11) (N := some 60) (v := ?_) (a' := ?_) #[true, false, true, false, false, true, true, false, true, true, false, true, false, false, false, false, false, false] rfl rfl (by kernel_rfl) (fun _ _ _ h => h) (Or.inl ⟨by rfl, ?_⟩) ?_ ?_
        rotate_left
        · intro w'
          go_simp
          with_reducible rfl
        rotate_left
        · simp only [Act.put, List.setIfInBounds_toArray, List.set_cons_zero, List.set_cons_succ, i64_w, i32_w]
          rfl
        refine pure_ (i := 12) (N := some 61) (v := ?_) (a' := ?_) #[true, false, true, false, false, true, true, false, true, true, false, true, true, false, false, false, false, false] rfl rfl (by kernel_rfl) (fun _ _ _ h => h) (Or.inl ⟨by rfl, ?_⟩) ?_ ?_
        rotate_left
        · intro w'
          go_simp
          with_reducible rfl
        rotate_left
        · simp only [Act.put, List.setIfInBounds_toArray, List.set_cons_zero, List.set_cons_succ, i64_w, i32_w]
          rfl
        refine take_ (i := 1) (N := some 50) (v := ?_) (a' := ?_) #[true, true, true, false, false, true, true, false, true, true, false, true, true, false, false, false, false, false] rfl rfl (by kernel_rfl) (fun _ _ _ h => h) (Or.inl ⟨by rfl, ?_⟩) hHeld ?_ ?_
        rotate_left
        · rintro w' ⟨s0, s1, s2, s3⟩
          refine Eq.trans (run_load_en (y := x) (A := A) (c := c) (.tmp 5) ?_ w.heap.size ?_ s0) ?_
          · rfl
          · rfl
          · with_reducible rfl
        rotate_left
        · simp only [Act.put, List.setIfInBounds_toArray, List.set_cons_zero, List.set_cons_succ, i64_w, i32_w]
          rfl
        refine take_ (i := 3) (N := some 52) (v := ?_) (a' := ?_) #[true, true, true, true, false, true, true, false, true, true, false, true, true, false, false, false, false, false] rfl rfl (by kernel_rfl) (fun _ _ _ h => h) (Or.inl ⟨by rfl, ?_⟩) hHeld ?_ ?_
        rotate_left
        · rintro w' ⟨s0, s1, s2, s3⟩
          go_simp
          with_reducible rfl
        rotate_left
        · simp only [Act.put, List.setIfInBounds_toArray, List.set_cons_zero, List.set_cons_succ, i64_w, i32_w]
          rfl
        refine take_ (i := 7) (N := some 56) (v := ?_) (a' := ?_) #[true, true, true, true, false, true, true, true, true, true, false, true, true, false, false, false, false, false] rfl rfl (by kernel_rfl) (fun _ _ _ h => h) (Or.inl ⟨by rfl, ?_⟩) hHeld ?_ ?_
        rotate_left
        · rintro w' ⟨s0, s1, s2, s3⟩
          go_simp
          with_reducible rfl
        rotate_left
        · simp only [Act.put, List.setIfInBounds_toArray, List.set_cons_zero, List.set_cons_succ, i64_w, i32_w]
          rfl
        refine take_ (i := 10) (N := some 59) (v := ?_) (a' := ?_) #[true, true, true, true, false, true, true, true, true, true, true, true, true, false, false, false, false, false] rfl rfl (by kernel_rfl) (fun _ _ _ h => h) (Or.inl ⟨by rfl, ?_⟩) hHeld ?_ ?_
        rotate_left
        · rintro w' ⟨s0, s1, s2, s3⟩
          go_simp
          with_reducible rfl
        rotate_left
        · simp only [Act.put, List.setIfInBounds_toArray, List.set_cons_zero, List.set_cons_succ, i64_w, i32_w]
          rfl
        refine take_ (i := 13) (N := some 62) (v := ?_) (a' := ?_) #[true, true, true, true, false, true, true, true, true, true, true, true, true, true, false, false, false, false] rfl rfl (by kernel_rfl) (fun _ _ _ h => h) (Or.inl ⟨by rfl, ?_⟩) hHeld ?_ ?_
        rotate_left
        · rintro w' ⟨s0, s1, s2, s3⟩
          go_simp
          with_reducible rfl
        rotate_left
        · simp only [Act.put, List.setIfInBounds_toArray, List.set_cons_zero, List.set_cons_succ, i64_w, i32_w]
          rfl
        refine pure_ (i := 14) (N := some 63) (v := ?_) (a' := ?_) #[true, true, true, true, false, true, true, true, true, true, true, true, true, true, true, false, false, false] rfl rfl (by kernel_rfl) (fun _ _ _ h => h) (Or.inl ⟨by rfl, ?_⟩) ?_ ?_
        rotate_left
        · intro w'
          go_simp
          with_reducible rfl
        rotate_left
        · simp only [Act.put, List.setIfInBounds_toArray, List.set_cons_zero, List.set_cons_succ, i64_w, i32_w]
          rfl
        refine one_ (i := 4) (N := some 53) #[true, true, true, true, true, true, true, true, true, true, true, true, true, true, true, false, false, false] rfl rfl (by kernel_rfl) (by decide) (fun K hK => ?_)
        refine goes_ Try.func16 (by kernel_rfl) rfl #[.agg (enV x A c).toArray, .int .i64 (k : Int)] (by rfl) rfl rfl (by simp only [List.map_toArray, List.map_cons, List.map_nil]; rfl) ?_
        with_reducible refine (HPC.out _ (J.out.e.below (below_drew1 (Below.refl _ _)))).mono ?_
        rintro e w9 ⟨V9, rfl, hv, hb⟩
        refine ⟨_, rfl, ?_⟩
        obtain ⟨A9, c9, rfl⟩ := Kd.R_slice hv
        obtain ⟨A2, hs1, hs2⟩ := HMID.out A9 c9 (Kd.R_reads' hv).2.1
        have HSL := Aside0.mk (hs2 _ (Kd.R_reads' hv).2.2)
        have nJ_ := Aside0.mk (J.out.new (below_step (below_drew1 (Below.refl _ _)) hb))
        have nK_ := Aside0.mk (blk_below KP.out (below_step (below_drew1 (Below.refl _ _)) hb))
        clear J KP hv hb hs2
        have J := nJ_
        have KP := nK_
        clear nJ_ nK_
        refine hK.out _ _ ⟨J.out.e, (blk_cell KP.out 0).trans rfl, (blk_cell KP.out 1).trans rfl, (blk_cell KP.out 2).trans rfl⟩ (fun hHeld => ?_)
        clear hK K
        refine norm_ (a' := ?_) ?_ ?_
        rotate_left
        · show Act.put _ (some 53) _ = _
          simp only [Act.put, List.setIfInBounds_toArray, List.set_cons_zero, List.set_cons_succ, i64_w, i32_w]
          rfl
        refine pure_ (i := 15) (N := some 64) (v := ?_) (a' := ?_) #[true, true, true, true, true, true, true, true, true, true, true, true, true, true, true, true, false, false] rfl rfl (by kernel_rfl) (fun _ _ _ h => h) (Or.inl ⟨by rfl, ?_⟩) ?_ ?_
        rotate_left
        · intro w'
          go_simp
          with_reducible rfl
        rotate_left
        · simp only [Act.put, List.setIfInBounds_toArray, List.set_cons_zero, List.set_cons_succ, i64_w, i32_w]
          rfl
        refine one_ (i := 16) (N := some 65) #[true, true, true, true, true, true, true, true, true, true, true, true, true, true, true, true, true, false] rfl rfl (by kernel_rfl) (by decide) (fun K hK => ?_)
        refine Kd.R_append_rows_step (Kd.int .u8) (w0 := w) w.heap.size (by rfl) (.tmp 49) (.tmp 64) 53 5 (.int .u8 0) 1 rfl Try.underlying53 info5 rfl Nat.zero_lt_one Nat.zero_lt_one Vo acc sl _ _ _ (fun _ => True) (fun _ => False) rfl rfl ?aO ?aR (fun _ _ h => h) (fun _ h => h.elim) ?aF ?aB ?aS ?aL ?_
        case aR => exact HSL.out
        case aB => exact J.out.hb
        case aF => exact (fun _ _ => trivial)
        case aO => exact J.out.ho
        case aS => exact J.out.hb.size
        case aL => exact HLA.out
        intro V10 w10 ho hb9 hg hat
        have nK_ := Aside0.mk (blk_grown KP.out hg (Kd.R_ne J.out.ho KP.out (by decide)))
        have nJ_ := Aside0.mk (J.out.app HR.out hg hb9 ho)
        clear J KP ho hb9 hg hat
        have J := nJ_
        have KP := nK_
        clear nJ_ nK_
        refine hK.out _ _ ⟨J.out.e, (blk_cell KP.out 0).trans rfl, (blk_cell KP.out 1).trans rfl, (blk_cell KP.out 2).trans rfl⟩ (fun hHeld => ?_)
        clear hK K
        refine norm_ (a' := ?_) ?_ ?_
        rotate_left
        · show Act.put _ (some 65) _ = _
          simp only [Act.put, List.setIfInBounds_toArray, List.set_cons_zero, List.set_cons_succ, i64_w, i32_w]
          rfl
        refine pure_ (i := 17) (N := some 13) (v := ?_) (a' := ?_) #[true, true, true, true, true, true, true, true, true, true, true, true, true, true, true, true, true, true] rfl rfl (by kernel_rfl) (fun _ _ _ h => h) (Or.inl ⟨by rfl, ?_⟩) ?_ ?_
        rotate_left
        · intro w'
          go_simp
          with_reducible rfl
        rotate_left
        · simp only [Act.put, List.setIfInBounds_toArray, List.set_cons_zero, List.set_cons_succ, i64_w, i32_w]
          rfl
        refine done_ (by kernel_rfl) ?_
        go_wp2
        go_roundw
        case rel => exact ⟨i + 1, acc ++ sl, hlt, rfl, by go_num, HAC2, HWN, J⟩
        case measure => simp [intOf]; exact left_less hlt
    · obtain rfl : i = parts.length := by omega
      have hltb : decide ((parts.length : Int) < (parts.length : Int)) = false := decide_eq_false (Int.lt_irrefl _)
      have hst := HWI.out
      rw [List.drop_length, wantG] at hst
      obtain ⟨hs1, hs2⟩ := Prod.mk.injEq .. ▸ hst
      subst hs1 hs2
      clear hst
      go_wp2_with (first | ((with_reducible refine gate_dst (N := 17) rfl ?_); refine wpList_new_var rfl 3 rfl _ info3z ?_; intro wa hk hb hs; have KAT := Aside0.mk hk; have HBX := Aside0.mk hb; have HSA := Aside0.mk hs; clear hk hb hs) | ((with_reducible refine gate_dst (N := 18) rfl ?_); refine wpList_new_var rfl 4 rfl _ info4z ?_; intro wb hk hb hs; have KOK := Aside0.mk hk; have nA_ := Aside0.mk (blk_below KAT.out hb); have nX_ := Aside0.mk (below_step HBX.out hb); clear KAT HBX hk hb hs; have KAT := nA_; have HBX := nX_; clear nA_ nX_) | ((with_reducible refine gate_store (t := 3) (p := 17) (v := .const (.int .i64 0)) rfl ?_); refine wpList_store_box rfl 3 (.tmp 17) (.const (.int .i64 0)) rfl _ 3 rfl (.int .i64 0) _ rfl rfl rfl KAT.out info3s ?_; intro wc hk ho; have nO_ := Aside0.mk ((ho.block _ (fun h => blk_ne KAT.out KOK.out (by decide) h.symm)).trans KOK.out); have nX_ := Aside0.mk (HBX.out.trans (ho.below (Nat.le_refl _))); clear KAT KOK HBX ho; have KAT := Aside0.mk hk; have KOK := nO_; have HBX := nX_; clear nO_ nX_ hk) | ((with_reducible refine gate_store (t := 4) (p := 18) (v := .const (.bool true)) rfl ?_); refine wpList_store_box rfl 4 (.tmp 18) (.const (.bool true)) rfl _ 4 rfl (.bool true) _ rfl rfl rfl KOK.out info4s ?_; intro wd hk ho; have nA_ := Aside0.mk ((ho.block _ (blk_ne KAT.out KOK.out (by decide))).trans KAT.out); have nX_ := Aside0.mk (HBX.out.trans (ho.below (by rw [HSA.out]; exact Nat.le_succ _))); clear KAT KOK HBX ho; have KOK := Aside0.mk hk; have KAT := nA_; have HBX := nX_; clear nA_ nX_ hk; have JC := Aside0.mk (J.out.new HBX.out)) | ((with_reducible refine gate_dst (N := 68) rfl ?_); refine load_en rfl (.tmp 5) rfl w.heap.size rfl JC.out.e ?_) | (go_at_call 17; (with_reducible refine (gather_law J.out HBX.out (by rw [HSA.out]; exact Nat.le_succ _) (Nat.le_refl _) KOK.out KAT.out HFW.out HPP.out HW0.out).mono ?_); rintro e we ⟨V', jn, rfl, hv, hjn, hS, hb⟩; rw [if_pos rfl] at hv; obtain ⟨Ag, cg, rfl⟩ := Kd.R_slice hv; have HV := Aside0.mk hv; have hjn_ := hjn; have SJ := Aside0.mk hS; have HBE := Aside0.mk (J.out.hb.trans (hb.mono J.out.hb.size)); have zok := (blk_cell hS.1 0).trans rfl; have zat := (blk_cell hS.2.1 0).trans rfl; have z11 := (blk_cell ((hS.2.2 g11 (blk_lt JC.out.k11) (fun h => blk_ne JC.out.k11 KOK.out (by decide) h) (fun h => blk_ne JC.out.k11 KAT.out (by decide) h)).trans JC.out.k11) 0).trans rfl; have HAL := Aside0.mk (Kd.R_mono (Kd.R_step (Kd.R_types (Kd.R_types JC.out.ho KOK.out (by decide)) KAT.out (by decide)) (fun k hk hlt => hS.2.2 k hlt hk.1.2 hk.2)) (fun _ _ => trivial : ∀ k, _ → True)); clear hv hjn hS hb; have hjp := hjn_ rfl; subst hjp; have cv1 := conv_strU (Rd.own HV.out); have cv2 := conv_strU (Rd.own HAL.out)) | (go_at_call 8; with_reducible refine (awake_calls _).mono ?_; rintro e w9 ⟨rfl, hb⟩; have HB9 := Aside0.mk (below_step HBE.out hb); clear hb))
      go_ret
      exact ⟨rfl, HB9.out⟩
theorem gathers_walk (x : En) (cs : List Value) (c0 m bad : Int) (sh : Bool) (w : World) (h : kEn.K w x cs) (_ : (Lit.int .i64 c0).wf = true) (_ : (Lit.int .i64 m).wf = true) (_ : (Lit.int .i64 bad).wf = true) : Calls Try.prog 5 #[.agg cs.toArray, .int .i64 c0, .int .i64 m, .int .i64 bad, .bool sh] w fun e w' => e = .returned (.bool true) ∧ Below w.heap.size w w' := by
  cases hf : fewB x with
  | false => exact gathers_many h hf c0 m bad sh
  | true =>
    obtain ⟨parts, er, hp⟩ : ∃ parts er, pickP x c0 m = (parts, er) := ⟨_, _, rfl⟩
    by_cases he : er = 0
    · subst he; exact gathers_ok h hf c0 m bad sh parts hp
    · exact gathers_err h hf c0 m bad sh parts er hp he
end Go.Proofs.Ytphpinfingaffaa.Law
