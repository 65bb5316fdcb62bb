/- The closure that Pieces hands back, called with a closure that may leave early. -/
import Derived.Test.YtkaabkoadoomjaaOp
namespace Go.Proofs.Ytkaabkoadoomjaa.Law
open Go.RowKit Go.Proofs.Ytkaabkoadoomjaa Go.Proofs.Ytkaabkoadoomjaa.D Go.Proofs.Ytkaabkoadoomjaa.Roll Go.Proofs.YtkaabkoadoomjaaW.PrintWords Go.Proofs.YtkaabkoadoomjaaW.PrintLast Go.Proofs.YtkaabkoadoomjaaW.PrintMore
set_option linter.unusedSimpArgs false
set_option linter.unusedVariables false
set_option maxHeartbeats 4000000 in
set_option maxRecDepth 100000 in
theorem pieces2 (m k : Nat) (mn mx : Int) (ok : OkC m mn mx) (hk : U k) (A : Option Addr) (cap : Nat) (b : List Int) (g0 g1 lv q0 q1 q2 q3 q4 q5 : Nat) (w : World) (hb : Bytes b) (hr : Kd.C (Kd.int .u8) w A b.length b) (hc : b.length ≤ cap) (hlen : b.length ≤ 140737488351232)
    (h0 : w.heap[g0]? = some (.cells #[.int .u64 (m : Int), .int .u64 (k : Int), .int .i64 mn, .int .i64 mx] 24 (0, 0))) (h1 : w.heap[g1]? = some (.cells #[.slice A b.length cap] 25 (0, 0)))
    (J : Nat → Nat → List Int → World → Prop)
    (hstart : ∀ kb rb w', w.heap.size ≤ kb → w.heap.size ≤ rb → Below w.heap.size w w' → J kb rb [] w')
    (hstep : ∀ kb rb pre W W', J kb rb pre W → Only2 kb rb W W' → J kb rb pre W')
    (hnew : ∀ kb rb pre W W', J kb rb pre W → Below W.heap.size W W' → J kb rb pre W')
    (hY : ∀ kb rb pre (fr n : Nat) rest g9 cells W, J kb rb pre W → lens m k mn mx [] b = pre ++ (n : Int) :: rest → (fr : Int) = pre.sum → 0 < n → fr + n ≤ b.length → W.heap[g9]? = some (.cells cells 5 (0, 0)) → Kd.C (Kd.int .u8) W (some ⟨g9, 0, none⟩) n ((b.drop fr).take n) → w.heap.size ≤ g9 → g9 ≠ kb → g9 ≠ rb → pre.length ≤ lv → kb < W.heap.size → rb < W.heap.size → w.heap.size ≤ kb → w.heap.size ≤ rb →
      Calls Try.prog 16 #[.int .i64 (fr : Int), .slice (some ⟨g9, 0, none⟩) n n, .pointer (some ⟨q0, 0, none⟩), .pointer (some ⟨q1, 0, none⟩), .pointer (some ⟨q2, 0, none⟩), .pointer (some ⟨q3, 0, none⟩), .pointer (some ⟨q4, 0, none⟩), .pointer (some ⟨q5, 0, none⟩)] W fun e W' => e = .returned (.bool (decide (pre.length + 1 ≤ lv))) ∧ J kb rb (pre ++ [(n : Int)]) W' ∧ W'.heap[g1]? = W.heap[g1]? ∧ W'.heap[kb]? = W.heap[kb]? ∧ W'.heap[rb]? = W.heap[rb]? ∧ (Kd.C (Kd.int .u8) W A b.length b → Kd.C (Kd.int .u8) W' A b.length b)) :
    Calls Try.prog 23 #[.func (.func 16) #[] #[.pointer (some ⟨q0, 0, none⟩), .pointer (some ⟨q1, 0, none⟩), .pointer (some ⟨q2, 0, none⟩), .pointer (some ⟨q3, 0, none⟩), .pointer (some ⟨q4, 0, none⟩), .pointer (some ⟨q5, 0, none⟩)], .pointer (some ⟨g0, 0, none⟩), .pointer (some ⟨g1, 0, none⟩)] w fun e w' => (∃ v, e = .returned v) ∧ ∃ kb rb pre rest, J kb rb pre w' ∧ lens m k mn mx [] b = pre ++ rest ∧ (pre.length = lv + 1 ∨ rest = [] ∧ pre.length ≤ lv) := by
  have z0 := (blk_cell h0 0).trans rfl
  have z1 := (blk_cell h0 1).trans rfl
  have z2 := (blk_cell h0 2).trans rfl
  have z3 := (blk_cell h0 3).trans rfl
  have K1 := Aside0.mk h1
  have HR := Aside0.mk hr
  have HBY := Aside0.mk hb
  have HR0 := Aside0.mk hr
  have HOK := Aside0.mk ok
  have HU := Aside0.mk hk
  have HST := Aside0.mk hstart
  have HSP := Aside0.mk hstep
  have HNW := Aside0.mk hnew
  have HY := Aside0.mk hY
  have HLT := Aside0.mk (blk_lt h1)
  have HLEN := Aside0.mk hlen
  clear hlen
  clear h0 h1 hr hb hk hstart hstep hnew hY
  go_enter Try.func23, Try.ntmps23
  go_wp2_with (first | (go_at_call 17; with_reducible refine (cnew HOK.out _).mono ?_; rintro e w1 ⟨kb, rb, rfl, hs, hkb, hrb, hbe⟩; have HJ := Aside0.mk (HST.out kb rb w1 hkb hrb hbe); have HS := Aside0.mk hs; have nR_ := Aside0.mk (Kd.C_below HR.out hbe); have n1_ := Aside0.mk (blk_below K1.out hbe); have HG := Aside0.mk (Nat.lt_of_lt_of_le HLT.out hbe.size); clear hs hbe HR K1; have HR := nR_; have K1 := n1_; have y1 := (blk_cell K1.out 0).trans rfl; clear nR_ n1_))
  have HCC := Aside0.mk hc
  clear z0 z1 z2 z3 hc
  go_loopw [6, 19] (fun v6 v19 wr => ∃ (i fr : Nat) (os pre : List Int), fr ≤ i ∧ i ≤ b.length ∧ v6 = .int .i64 fr ∧ v19 = .int .i64 i ∧ os = (b.drop fr).take (i - fr) ∧ (i < b.length ∨ os = []) ∧ Aside0 ((os.length : Int) < mx) ∧ Aside0 (J kb rb pre wr) ∧ Aside0 (i < b.length → CutS wr kb rb m k mn mx (pushed zeroWin (nat os)) os.length) ∧ Aside0 (lens m k mn mx [] b = pre ++ lens m k mn mx os (b.drop i)) ∧ Aside0 (wr.heap[g1]? = some (.cells #[.slice A b.length cap] 25 (0, 0))) ∧ Aside0 (Kd.C (Kd.int .u8) wr A b.length b) ∧ Aside0 (pre.length ≤ lv) ∧ Aside0 ((fr : Int) = pre.sum)) (fun _ v19 _ => b.length - (intOf v19).toNat)
  case atStart =>
    refine ⟨0, 0, [], [], Nat.le_refl _, Nat.zero_le _, rfl, rfl, by rw [Nat.sub_self, List.take_zero], .inr rfl, ⟨?_⟩, HJ, ⟨fun _ => HS.out⟩, ⟨by rw [List.drop_zero]; rfl⟩, K1, HR, ⟨Nat.zero_le _⟩, ⟨rfl⟩⟩
    have := HOK.out.lo; have := HOK.out.mid
    show (0 : Int) < mx
    omega
  case round =>
    obtain ⟨i, fr, os, pre, hfi, hi, rfl, rfl, hos, hend, HMX, HJr, HSr, HL, K1r, HRr, HLV, HSU⟩ := hrel
    clear HJ HS K1 HR
    have HJ := HJr
    have K1 := K1r
    have HR := HRr
    clear HJr K1r HRr
    by_cases hlt : i < b.length
    · have HS := Aside0.mk (HSr.out hlt)
      clear HSr
      have hltb : decide ((i : Int) < (b.length : Int)) = true := decide_eq_true (lt_lt hlt)
      have hby := HBY.out _ (rd_in hlt)
      have hgr := grow hfi hlt
      have hst := HL.out
      rw [drop_rd hlt, lens] at hst
      obtain ⟨ad, rfl, hx0⟩ := Kd.at_int HR.out (i : Int) (Int.natCast_nonneg _) (lt_lt hlt)
      rw [Int.toNat_natCast] at hx0
      have HAD := Aside0.mk (show ad.block < w.heap.size by
        obtain ⟨ad', e', hx1⟩ := Kd.at_int HR0.out (i : Int) (Int.natCast_nonneg _) (lt_lt hlt)
        cases e'
        have := World.block_lt_of_cell? w _ hx1
        have hbl : (ad.add (i : Int).toNat).block = ad.block := by unfold Addr.add; split <;> rfl
        rwa [hbl] at this)
      have p1 : (0 ≤ (i : Int)) = True := eq_true (Int.natCast_nonneg _)
      have p2 : ((i : Int) < (b.length : Int)) = True := eq_true (lt_lt hlt)
      generalize rd b (i : Int) = xi at *
      obtain ⟨x, rfl⟩ : ∃ n : Nat, xi = (n : Int) := ⟨xi.toNat, by omega⟩
      have HX := Aside0.mk (show x < 256 by omega)
      have y1 := (blk_cell K1.out 0).trans rfl
      obtain ⟨X, hX⟩ : ∃ X, fp m (pushed zeroWin (nat (os ++ [(x : Int)]))) = X := ⟨_, rfl⟩
      have hX2 := hX
      rw [pushed_one] at hX2
      have HX2 := Aside0.mk hX2
      rw [← hos] at hgr
      have HOL := Aside0.mk (show os.length + 1 = i + 1 - fr by rw [hos, List.length_take, List.length_drop]; omega)
      clear hos
      have HN := Aside0.mk (show os.length < 1000000 by have := HMX.out; have := HOK.out.hi; omega)
      have hel : ends m k mn mx (os ++ [(x : Int)]) = endsAt k mn mx (os.length + 1) X := by unfold ends; rw [hX, List.length_append]; rfl
      rw [hel] at hst
      have hwi := wi hlt HLEN.out
      cases hE : endsAt k mn mx (os.length + 1) X with
      | false =>
        have HE := Aside0.mk hE
        rw [hE, if_neg (by decide)] at hst
        by_cases hnx : i + 1 < b.length
        · have hnb := nx_true hnx
          have HMX2 := Aside0.mk (show (((os ++ [(x : Int)]).length : Nat) : Int) < mx by
            have h1 := HMX.out
            have h2 : ¬ ((os.length + 1 : Nat) : Int) = mx := fun h => by unfold endsAt at hE; rw [decide_eq_true h] at hE; cases hE
            rw [List.length_append, List.length_singleton]; omega)
          have HL2 := Aside0.mk hst
          clear hst hE hby hX hX2 hel hend HL
          go_wp2_with ((go_at_call 18; with_reducible refine (cpush X HS.out HOK.out.may HU.out HN.out HX.out HX2.out).mono ?_; rw [HE.out]; rintro e w2 ⟨rfl, hs_, ho_⟩; rw [if_neg (by decide)] at hs_; have n0_ := Aside0.mk hs_; have n1_ := Aside0.mk (HSP.out _ _ _ _ _ HJ.out ho_); have n2_ := Aside0.mk (show w2.heap[g1]? = some (.cells #[.slice (some ad) b.length cap] 25 (0, 0)) from (ho_.block g1 (by have := HLT.out; omega) (by have := HLT.out; omega)).trans K1.out); have n3_ := Aside0.mk (C_block HR.out (fun ad' e' => by cases e'; exact ho_.block _ (by have := HAD.out; omega) (by have := HAD.out; omega))); clear HS HJ K1 HR hs_ ho_; have HS := n0_; have HJ := n1_; have K1 := n2_; have HR := n3_; have y1b := (blk_cell K1.out 0).trans rfl; have HB := Aside0.mk (Below.refl w2.heap.size w2); (try have HRS := Aside0.mk (HGR.out ▸ C_sub HR.out HFM.out)); clear n0_ n1_ n2_ n3_))
          (try simp only [hwi])
          go_roundw
          case rel =>
            refine ⟨i + 1, fr, os ++ [(x : Int)], pre, Nat.le_succ_of_le hfi, hlt, rfl, by go_num, hgr.symm, .inl hnx, HMX2, HJ, ⟨fun _ => ?_⟩, HL2, K1, HR, HLV, HSU⟩
            have := HS.out
            rw [pushed_one, List.length_append, List.length_singleton]
            exact this
          case measure => simp [intOf]; exact left_less hlt
        · skip
          have hdn : b.drop (i + 1) = [] := List.drop_eq_nil_of_le (Nat.le_of_not_lt hnx)
          rw [hdn, lens, if_neg (by simp), List.length_append, List.length_singleton] at hst
          have HL2 := Aside0.mk hst
          have HDN := Aside0.mk hdn
          have HNX := Aside0.mk hnx
          have hnb := nx_false hnx
          clear hdn hnx
          clear hst hE hby hX hX2 hel hend HL
          generalize hc8 : Code.region 8 _ _ = c8
          obtain ⟨s1, s2, s3, s4, s5, s6, s7, s8, s9⟩ := slice_ok hfi hlt HCC.out
          have hln : (os ++ [(x : Int)]).length ≤ 140737488351232 := by rw [List.length_append, List.length_singleton]; have := HN.out; omega
          have hlm : (i + 1 - fr) * 1 ≤ 140737488351232 := sub_le hlt HLEN.out
          have hfm : fr + (i + 1 - fr) ≤ b.length := sub_in hfi hlt
          have HLM := Aside0.mk hlm
          have HFM := Aside0.mk hfm
          have HGR := Aside0.mk hgr
          clear hln hlm hfm hgr
          go_wp2_with (first | (go_at_call 18; with_reducible refine (cpush X HS.out HOK.out.may HU.out HN.out HX.out HX2.out).mono ?_; rw [HE.out]; rintro e w2 ⟨rfl, hs_, ho_⟩; rw [if_neg (by decide)] at hs_; have n0_ := Aside0.mk hs_; have n1_ := Aside0.mk (HSP.out _ _ _ _ _ HJ.out ho_); have n2_ := Aside0.mk (show w2.heap[g1]? = some (.cells #[.slice (some ad) b.length cap] 25 (0, 0)) from (ho_.block g1 (by have := HLT.out; omega) (by have := HLT.out; omega)).trans K1.out); have n3_ := Aside0.mk (C_block HR.out (fun ad' e' => by cases e'; exact ho_.block _ (by have := HAD.out; omega) (by have := HAD.out; omega))); clear HS HJ K1 HR hs_ ho_; have HS := n0_; have HJ := n1_; have K1 := n2_; have HR := n3_; have y1b := (blk_cell K1.out 0).trans rfl; have HB := Aside0.mk (Below.refl w2.heap.size w2); (try have HRS := Aside0.mk (HGR.out ▸ C_sub HR.out HFM.out)); clear n0_ n1_ n2_ n3_) | ((with_reducible refine gate_dst (N := 35) rfl ?_); (try (refine gate_guard (by rfl) ?_; dsimp only)); refine Kd.R_lit (Kd.int .u8) _ 5 ?hg (N := 35) ?hd (xs := ([] : List Int)) (inner := []) (ok := fun _ => True) (okp := fun _ => True) ?hr ?hp (fun _ hk => hk) trivial (Below.refl _ _) (Nat.le_refl _) (by simp) ?_; (case hd => rfl); (case hg => rfl); (case hr => first | (go_simp; done) | (go_simp; rfl)); (case hp => exact (Reps.none _ _)); intro vHO wHO ho hb hg_ hnew_; clear hg_ hnew_; have n0_ := Aside0.mk (Kd.R_lower ho (below_size (by repeat (first | (with_reducible first | exact HB.out | apply below_alloc | apply pw_below_drewN | apply below_drew1) | exact HB.out)))); have n1_ := Aside0.mk (below_step (by repeat (first | (with_reducible first | exact HB.out | apply below_alloc | apply pw_below_drewN | apply below_drew1) | exact HB.out)) hb); clear HB; have HO := n0_; have HB := n1_; clear n0_ n1_; clear hb ho; have nK_ := Aside0.mk (blk_below K1.out HB.out); clear y1b; have y1b := (blk_cell nK_.out 0).trans rfl) | ((with_reducible refine gate_builtin (b := .append) (xs := #[.tmp 35, .tmp 40]) rfl ?_); (try (refine gate_guard (by rfl) ?_; dsimp only)); at_builtin; refine Kd.R_append_rows (Kd.int .u8) (w0 := w2) w2.heap.size rfl (.tmp 35) (.tmp 40) 25 5 (.int .u8 0) 1 rfl Try.underlying25 info5 rfl (by decide) (by omega) vHO [] (os ++ [(x : Int)]) _ _ _ (fun _ => True) (fun _ => False) rfl rfl ?aO ?aR (fun _ _ h => h) (fun _ h => h.elim) ?aF ?aB ?aS ?aL ?_; (case aR => repeat (first | exact (Kd.C_below HRS.out HB.out) | (with_reducible refine Kd.C_alloc ?_ _) | (with_reducible refine Kd.C_drewN ?_ _) | (with_reducible refine Kd.C_drew ?_))); (case aB => exact (by repeat (first | (with_reducible first | exact HB.out | apply below_alloc | apply pw_below_drewN | apply below_drew1) | exact HB.out))); (case aF => exact (fun _ _ => trivial)); (case aO => exact (by (with_reducible repeat (first | apply Kd.R_alloc | apply Kd.R_drewN | apply Kd.R_drew)); exact HO.out)); (case aS => exact (below_size (by repeat (first | (with_reducible first | exact HB.out | apply below_alloc | apply pw_below_drewN | apply below_drew1) | exact HB.out)))); (case aL => exact app_le HLM.out); intro vHO wHO ho hb hg hat; (try rw [List.nil_append] at ho); have n0_ := Aside0.mk (hb); have n1_ := Aside0.mk (ho); clear HB; clear HO; have HB := n0_; have HO := n1_; clear n0_ n1_; clear ho hb hg hat; obtain ⟨g9, c9, e9, hg9a, hg9b, hce9⟩ := Kd.R_form HO.out (by simp); subst e9; have HCE := Aside0.mk hce9; clear hce9))
          have hl9 := (Kd.R_reads' HO.out).2.1
          rw [List.length_append, List.length_singleton] at hl9
          have r1 := le_true hl9
          have HV := Aside0.mk (HNW.out _ _ _ _ _ HJ.out HB.out)
          have HS9 := Aside0.mk (HS.out.below HB.out HS.out.lt.1 HS.out.lt.2)
          have HK9 := Aside0.mk (blk_below K1.out HB.out)
          have HR9 := Aside0.mk (Kd.C_below HR.out HB.out)
          obtain ⟨cells, hcells⟩ := HCE.out
          have hC9 := (Kd.R_reads' HO.out).2.2
          have hlw := HS.out.lt
          have hy9 := HY.out kb rb pre fr (os.length + 1) [] g9 cells wHO HV.out (by exact HL2.out) HSU.out (Nat.succ_pos _) (by have := HFM.out; have := HOL.out; omega) hcells (by rw [HOL.out, HGR.out, ← HOL.out]; rw [List.length_append, List.length_singleton] at hC9; exact hC9) (by omega) (by omega) (by omega) HLV.out HS9.out.lt.1 HS9.out.lt.2 hkb hrb
          have HFR := Aside0.mk (show ((i + 1 : Nat) : Int) = (pre ++ [((os.length + 1 : Nat) : Int)]).sum by rw [List.sum_append, List.sum_singleton, ← HSU.out]; have := HOL.out; omega)
          have HI := Aside0.mk hlt
          clear hlw hC9 hcells HCE
          subst hc8
          by_cases hlv : pre.length + 1 ≤ lv
          · rw [decide_eq_true hlv] at hy9
            have HY9 := Aside0.mk hy9
            have HLV2 := Aside0.mk hlv
            clear hy9 hlv HO HB
            go_wp2_with (go_at_call 16; with_reducible refine HY9.out.mono ?_; rintro e W3 ⟨rfl, hJ3, hg3, hk3, hr3, hC3⟩; have HJ3 := Aside0.mk hJ3; have HK3 := Aside0.mk (hg3.trans HK9.out); have HS3 := Aside0.mk (HS9.out.blocks hk3 hr3); have HR3 := Aside0.mk (hC3 HR9.out); clear hJ3 hg3 hk3 hr3 hC3 HY9)
            (try simp only [hwi])
            go_roundw
            case rel =>
              have := HOK.out.lo
              have := HOK.out.mid
              exact ⟨i + 1, i + 1, [], pre ++ [((os.length + 1 : Nat) : Int)], Nat.le_refl _, hlt, by go_num, by go_num, by rw [Nat.sub_self, List.take_zero], .inr rfl, ⟨by show (0 : Int) < mx; omega⟩, HJ3, ⟨fun h => absurd h HNX.out⟩, ⟨by rw [HL2.out, HDN.out, lens, if_pos rfl, List.append_nil]⟩, HK3, HR3, ⟨by rw [List.length_append, List.length_singleton]; exact HLV2.out⟩, HFR⟩
            case measure => simp [intOf]; exact left_less hlt
          · rw [decide_eq_false hlv] at hy9
            have HY9 := Aside0.mk hy9
            have HLV2 := Aside0.mk hlv
            clear hy9 hlv HO HB
            go_wp2_with (go_at_call 16; with_reducible refine HY9.out.mono ?_; rintro e W3 ⟨rfl, hJ3, _, _, _, _⟩; have HJ3 := Aside0.mk hJ3; clear hJ3 HY9)
            refine bodyPost_ret (results_none rfl _ _ _) rfl ?_
            exact ⟨⟨_, rfl⟩, kb, rb, _, [], HJ3.out, by rw [List.append_assoc, List.singleton_append]; exact HL2.out, .inl (by rw [List.length_append, List.length_singleton]; have := HLV.out; have := HLV2.out; omega)⟩
      | true =>
        have HE := Aside0.mk hE
        rw [hE, if_pos rfl] at hst
        have HL2 := Aside0.mk hst
        clear hst hE hby hX hX2 hel hend HL
        generalize hc8 : Code.region 8 _ _ = c8
        obtain ⟨s1, s2, s3, s4, s5, s6, s7, s8, s9⟩ := slice_ok hfi hlt HCC.out
        have hln : (os ++ [(x : Int)]).length ≤ 140737488351232 := by rw [List.length_append, List.length_singleton]; have := HN.out; omega
        have hlm : (i + 1 - fr) * 1 ≤ 140737488351232 := sub_le hlt HLEN.out
        have hfm : fr + (i + 1 - fr) ≤ b.length := sub_in hfi hlt
        have HLM := Aside0.mk hlm
        have HFM := Aside0.mk hfm
        have HGR := Aside0.mk hgr
        clear hln hlm hfm hgr
        go_wp2_with (first | (go_at_call 18; with_reducible refine (cpush X HS.out HOK.out.may HU.out HN.out HX.out HX2.out).mono ?_; rw [HE.out]; rintro e w2 ⟨rfl, hs_, ho_⟩; rw [if_pos rfl] at hs_; have n0_ := Aside0.mk hs_; have n1_ := Aside0.mk (HSP.out _ _ _ _ _ HJ.out ho_); have n2_ := Aside0.mk (show w2.heap[g1]? = some (.cells #[.slice (some ad) b.length cap] 25 (0, 0)) from (ho_.block g1 (by have := HLT.out; omega) (by have := HLT.out; omega)).trans K1.out); have n3_ := Aside0.mk (C_block HR.out (fun ad' e' => by cases e'; exact ho_.block _ (by have := HAD.out; omega) (by have := HAD.out; omega))); clear HS HJ K1 HR hs_ ho_; have HS := n0_; have HJ := n1_; have K1 := n2_; have HR := n3_; have y1b := (blk_cell K1.out 0).trans rfl; have HB := Aside0.mk (Below.refl w2.heap.size w2); (try have HRS := Aside0.mk (HGR.out ▸ C_sub HR.out HFM.out)); clear n0_ n1_ n2_ n3_) | ((with_reducible refine gate_dst (N := 35) rfl ?_); (try (refine gate_guard (by rfl) ?_; dsimp only)); refine Kd.R_lit (Kd.int .u8) _ 5 ?hg (N := 35) ?hd (xs := ([] : List Int)) (inner := []) (ok := fun _ => True) (okp := fun _ => True) ?hr ?hp (fun _ hk => hk) trivial (Below.refl _ _) (Nat.le_refl _) (by simp) ?_; (case hd => rfl); (case hg => rfl); (case hr => first | (go_simp; done) | (go_simp; rfl)); (case hp => exact (Reps.none _ _)); intro vHO wHO ho hb hg_ hnew_; clear hg_ hnew_; have n0_ := Aside0.mk (Kd.R_lower ho (below_size (by repeat (first | (with_reducible first | exact HB.out | apply below_alloc | apply pw_below_drewN | apply below_drew1) | exact HB.out)))); have n1_ := Aside0.mk (below_step (by repeat (first | (with_reducible first | exact HB.out | apply below_alloc | apply pw_below_drewN | apply below_drew1) | exact HB.out)) hb); clear HB; have HO := n0_; have HB := n1_; clear n0_ n1_; clear hb ho; have nK_ := Aside0.mk (blk_below K1.out HB.out); clear y1b; have y1b := (blk_cell nK_.out 0).trans rfl) | ((with_reducible refine gate_builtin (b := .append) (xs := #[.tmp 35, .tmp 40]) rfl ?_); (try (refine gate_guard (by rfl) ?_; dsimp only)); at_builtin; refine Kd.R_append_rows (Kd.int .u8) (w0 := w2) w2.heap.size rfl (.tmp 35) (.tmp 40) 25 5 (.int .u8 0) 1 rfl Try.underlying25 info5 rfl (by decide) (by omega) vHO [] (os ++ [(x : Int)]) _ _ _ (fun _ => True) (fun _ => False) rfl rfl ?aO ?aR (fun _ _ h => h) (fun _ h => h.elim) ?aF ?aB ?aS ?aL ?_; (case aR => repeat (first | exact (Kd.C_below HRS.out HB.out) | (with_reducible refine Kd.C_alloc ?_ _) | (with_reducible refine Kd.C_drewN ?_ _) | (with_reducible refine Kd.C_drew ?_))); (case aB => exact (by repeat (first | (with_reducible first | exact HB.out | apply below_alloc | apply pw_below_drewN | apply below_drew1) | exact HB.out))); (case aF => exact (fun _ _ => trivial)); (case aO => exact (by (with_reducible repeat (first | apply Kd.R_alloc | apply Kd.R_drewN | apply Kd.R_drew)); exact HO.out)); (case aS => exact (below_size (by repeat (first | (with_reducible first | exact HB.out | apply below_alloc | apply pw_below_drewN | apply below_drew1) | exact HB.out)))); (case aL => exact app_le HLM.out); intro vHO wHO ho hb hg hat; (try rw [List.nil_append] at ho); have n0_ := Aside0.mk (hb); have n1_ := Aside0.mk (ho); clear HB; clear HO; have HB := n0_; have HO := n1_; clear n0_ n1_; clear ho hb hg hat; obtain ⟨g9, c9, e9, hg9a, hg9b, hce9⟩ := Kd.R_form HO.out (by simp); subst e9; have HCE := Aside0.mk hce9; clear hce9))
        have hl9 := (Kd.R_reads' HO.out).2.1
        rw [List.length_append, List.length_singleton] at hl9
        have r1 := le_true hl9
        have HV := Aside0.mk (HNW.out _ _ _ _ _ HJ.out HB.out)
        have HS9 := Aside0.mk (HS.out.below HB.out HS.out.lt.1 HS.out.lt.2)
        have HK9 := Aside0.mk (blk_below K1.out HB.out)
        have HR9 := Aside0.mk (Kd.C_below HR.out HB.out)
        obtain ⟨cells, hcells⟩ := HCE.out
        have hC9 := (Kd.R_reads' HO.out).2.2
        have hlw := HS.out.lt
        have hy9 := HY.out kb rb pre fr (os.length + 1) (lens m k mn mx [] (b.drop (i + 1))) g9 cells wHO HV.out (by exact HL2.out) HSU.out (Nat.succ_pos _) (by have := HFM.out; have := HOL.out; omega) hcells (by rw [HOL.out, HGR.out, ← HOL.out]; rw [List.length_append, List.length_singleton] at hC9; exact hC9) (by omega) (by omega) (by omega) HLV.out HS9.out.lt.1 HS9.out.lt.2 hkb hrb
        have HFR := Aside0.mk (show ((i + 1 : Nat) : Int) = (pre ++ [((os.length + 1 : Nat) : Int)]).sum by rw [List.sum_append, List.sum_singleton, ← HSU.out]; have := HOL.out; omega)
        have HI := Aside0.mk hlt
        clear hlw hC9 hcells HCE
        subst hc8
        by_cases hlv : pre.length + 1 ≤ lv
        · rw [decide_eq_true hlv] at hy9
          have HY9 := Aside0.mk hy9
          have HLV2 := Aside0.mk hlv
          clear hy9 hlv HO HB
          go_wp2_with (go_at_call 16; with_reducible refine HY9.out.mono ?_; rintro e W3 ⟨rfl, hJ3, hg3, hk3, hr3, hC3⟩; have HJ3 := Aside0.mk hJ3; have HK3 := Aside0.mk (hg3.trans HK9.out); have HS3 := Aside0.mk (HS9.out.blocks hk3 hr3); have HR3 := Aside0.mk (hC3 HR9.out); clear hJ3 hg3 hk3 hr3 hC3 HY9)
          (try simp only [hwi])
          go_roundw
          case rel =>
            have := HOK.out.lo
            have := HOK.out.mid
            exact ⟨i + 1, i + 1, [], pre ++ [((os.length + 1 : Nat) : Int)], Nat.le_refl _, hlt, by go_num, by go_num, by rw [Nat.sub_self, List.take_zero], .inr rfl, ⟨by show (0 : Int) < mx; omega⟩, HJ3, ⟨fun _ => HS3.out⟩, ⟨by rw [HL2.out, List.append_assoc, List.singleton_append]⟩, HK3, HR3, ⟨by rw [List.length_append, List.length_singleton]; exact HLV2.out⟩, HFR⟩
          case measure => simp [intOf]; exact left_less hlt
        · rw [decide_eq_false hlv] at hy9
          have HY9 := Aside0.mk hy9
          have HLV2 := Aside0.mk hlv
          clear hy9 hlv HO HB
          go_wp2_with (go_at_call 16; with_reducible refine HY9.out.mono ?_; rintro e W3 ⟨rfl, hJ3, _, _, _, _⟩; have HJ3 := Aside0.mk hJ3; clear hJ3 HY9)
          refine bodyPost_ret (results_none rfl _ _ _) rfl ?_
          exact ⟨⟨_, rfl⟩, kb, rb, _, (lens m k mn mx [] (b.drop (i + 1))), HJ3.out, by rw [List.append_assoc, List.singleton_append]; exact HL2.out, .inl (by rw [List.length_append, List.length_singleton]; have := HLV.out; have := HLV2.out; omega)⟩
    · obtain rfl : i = b.length := Nat.le_antisymm hi (Nat.le_of_not_lt hlt)
      have hltb : decide ((b.length : Int) < (b.length : Int)) = false := decide_eq_false (Int.lt_irrefl _)
      have hos0 : os = [] := by
        rcases hend with h | h
        · exact absurd h hlt
        · exact h
      have hst := HL.out
      rw [List.drop_length, hos0, lens, if_pos rfl, List.append_nil] at hst
      have HST2 := Aside0.mk hst
      clear hst hos0 hend hos HL
      go_wp2
      go_end0
      exact ⟨⟨_, rfl⟩, kb, rb, pre, [], HJ.out, by rw [HST2.out, List.append_nil], .inr ⟨rfl, HLV.out⟩⟩
end Go.Proofs.Ytkaabkoadoomjaa.Law
