/- The closure that Pieces hands back, ranged over by a loop: each chunk is given once. -/
import Derived.Test.YtkaabkoadoomjaaCu
import Derived.RangeFuncNested
import Derived.RangeFuncBound
import Derived.RangeFuncCalls
import Derived.RangeFuncLeaves
import Derived.Shelf.Abstract
import Derived.WalkKit
import Derived.OwnWalkIn
import Derived.TacticsInMore
import Derived.LoopNIn
import Derived.LoopIn
namespace Go.Proofs.Ytkaabkoadoomjaa.Law
open Go.RowKit Go.Proofs.Ytkaabkoadoomjaa Go.Proofs.Ytkaabkoadoomjaa.D Go.Proofs.Ytkaabkoadoomjaa.Roll Go.Proofs.YtkaabkoadoomjaaW.PrintWords Go.Proofs.YtkaabkoadoomjaaW.PrintLast Go.Proofs.YtkaabkoadoomjaaW.PrintMore
set_option linter.unusedSimpArgs false
set_option linter.unusedVariables false
attribute [local go_sem] Oper.semAt_some
/-- does a chunk end behind these bytes? -/
def ends (m k : Nat) (mn mx : Int) (os : List Int) : Bool := endsAt k mn mx os.length (fp m (pushed zeroWin (nat os)))
/-- the lengths of the chunks, some bytes being open -/
def lens (m k : Nat) (mn mx : Int) : List Int → List Int → List Int
  | os, [] => if os = [] then [] else [(os.length : Int)]
  | os, x :: l => if ends m k mn mx (os ++ [x]) then ((os.length + 1 : Nat) : Int) :: lens m k mn mx [] l else lens m k mn mx (os ++ [x]) l
theorem drop_rd {l : List Int} {i : Nat} (h : i < l.length) : l.drop i = rd l (i : Int) :: l.drop (i + 1) := by
  rw [List.drop_eq_getElem_cons h]
  congr 1
  unfold rd
  rw [Int.toNat_natCast, List.getD_eq_getElem?_getD, List.getElem?_eq_getElem h]; rfl
theorem rd_in {l : List Int} {i : Nat} (h : i < l.length) : rd l (i : Int) ∈ l := by
  unfold rd
  rw [Int.toNat_natCast, List.getD_eq_getElem?_getD, List.getElem?_eq_getElem h]
  exact List.getElem_mem h
theorem info5 : (Try.prog.info? 5).map (fun i => (i.zero, i.size, i.bytes)) = some (some (.int .u8 0), 1, 1) := by kernel_rfl
theorem wi {i n : Nat} (h : i < n) (h' : n ≤ 140737488351232) : wrap64 ((i : Int) + 1) = (i : Int) + 1 := w64 (by omega) (by omega)
theorem C_block {W W' : World} {A : Option Addr} {n : Nat} {l : List Int} (h : Kd.C (Kd.int .u8) W A n l) (hb : ∀ ad, A = some ad → W'.heap[ad.block]? = W.heap[ad.block]?) : Kd.C (Kd.int .u8) W' A n l := by
  have hr := Kd.reads_of_C (enc := Value.int .u8) (d := (0 : Int)) (h1 := fun _ => rfl) h
  refine Kd.C_of_reads (enc := Value.int .u8) (d := (0 : Int)) (h1 := fun _ => rfl) ⟨hr.1, hr.2.1, fun hn => ?_⟩
  obtain ⟨ad, e, hc⟩ := hr.2.2 hn
  refine ⟨ad, e, fun j hj => ?_⟩
  rw [← hc j hj]
  have hbl : (ad.add j).block = ad.block := by unfold Addr.add; split <;> rfl
  simp only [World.cell?, hbl, hb ad e]
theorem pushed_one (os : List Int) (x : Nat) : pushed zeroWin (nat (os ++ [(x : Int)])) = (pushed zeroWin (nat os)).tail ++ [x] := by
  have e : nat (os ++ [(x : Int)]) = nat os ++ [x] := by simp [nat]
  rw [e, pushed_snoc]
theorem grow {b : List Int} {fr i : Nat} (h : fr ≤ i) (hi : i < b.length) : (b.drop fr).take (i + 1 - fr) = (b.drop fr).take (i - fr) ++ [rd b (i : Int)] := by
  rw [show i + 1 - fr = (i - fr) + 1 by omega, List.take_succ_eq_append_getElem (by rw [List.length_drop]; omega)]
  congr 2
  unfold rd
  rw [Int.toNat_natCast, List.getD_eq_getElem?_getD, List.getElem?_eq_getElem hi, List.getElem_drop]
  simp only [Option.getD_some]
  congr 1
  omega
theorem nx_true {i n : Nat} (h : i + 1 < n) : decide ((i : Int) + 1 < (n : Int)) = true := decide_eq_true (by omega)
theorem nx_false {i n : Nat} (h : ¬ i + 1 < n) : decide ((i : Int) + 1 < (n : Int)) = false := decide_eq_false (by omega)
theorem slice_ok {fr i n cap : Nat} (h : fr ≤ i) (h1 : i < n) (h2 : n ≤ cap) : ((fr : Int) ≤ (i : Int) + 1) = True ∧ ((i : Int) + 1 ≤ (cap : Int)) = True ∧ (cap ≤ fr) = False ∧ (cap - fr = 0) = False ∧ (cap - fr == 0) = false ∧ (cap = fr) = False ∧ (fr = cap) = False ∧ ((cap : Int) = (fr : Int)) = False ∧ ((fr : Int) = (cap : Int)) = False := ⟨eq_true (by omega), eq_true (by omega), eq_false (by omega), eq_false (by omega), beq_eq_false_iff_ne.mpr (by omega), eq_false (by omega), eq_false (by omega), eq_false (by omega), eq_false (by omega)⟩
theorem C_sub {W : World} {ad : Addr} {n : Nat} {l : List Int} (h : Kd.C (Kd.int .u8) W (some ad) n l) {fr m : Nat} (hm : fr + m ≤ n) : Kd.C (Kd.int .u8) W (some (ad.add fr)) m ((l.drop fr).take m) := by
  have hr := Kd.reads_of_C (enc := Value.int .u8) (d := (0 : Int)) (h1 := fun _ => rfl) h
  have hl := hr.1
  refine Kd.C_of_reads (enc := Value.int .u8) (d := (0 : Int)) (h1 := fun _ => rfl) ⟨by rw [List.length_take, List.length_drop]; omega, by have := hr.2.1; omega, fun hn => ⟨_, rfl, fun j hj => ?_⟩⟩
  obtain ⟨ad', e, hc⟩ := hr.2.2 (by omega)
  cases e
  have := hc (fr + j) (by omega)
  have hadd : (ad.add fr).add j = ad.add (fr + j) := by
    by_cases h1 : fr = 0 <;> by_cases h2 : j = 0 <;> simp [Addr.add, h1, h2, Nat.add_assoc]
  rw [hadd, this]
  congr 2
  simp only [List.getD_eq_getElem?_getD, List.getElem?_take, List.getElem?_drop, if_pos hj]
theorem sub_le {fr i n : Nat} (h : i < n) (h' : n ≤ 140737488351232) : (i + 1 - fr) * 1 ≤ 140737488351232 := by omega
theorem sub_in {fr i n : Nat} (h : fr ≤ i) (h' : i < n) : fr + (i + 1 - fr) ≤ n := by omega
theorem app_le {m : Nat} (h : m * 1 ≤ 140737488351232) : (([] : List Int).length + m) * 1 ≤ 140737488355328 := by rw [List.length_nil]; omega
theorem le_true {i n : Nat} (h : i + 1 ≤ n) : ((i : Int) + 1 ≤ (n : Int)) = True := eq_true (by omega)
theorem lt_lt {i n : Nat} (h : i < n) : (i : Int) < (n : Int) := by omega
theorem left_less {i n : Nat} (h : i < n) : n - (i + 1) < n - i := by omega
set_option maxHeartbeats 4000000 in
set_option maxRecDepth 100000 in
theorem pieces1 (m k : Nat) (mn mx : Int) (ok : OkC m mn mx) (hk : U k) (A : Option Addr) (cap : Nat) (b : List Int) (g0 g1 l : Nat) (w : World) (hb : Bytes b) (hr : Kd.C (Kd.int .u8) w A b.length b) (hc : b.length ≤ cap) (hlen : b.length ≤ 140737488351232)
    (h0 : w.heap[g0]? = some (.cells #[.int .u64 (m : Int), .int .u64 (k : Int), .int .i64 mn, .int .i64 mx] 24 (0, 0))) (h1 : w.heap[g1]? = some (.cells #[.slice A b.length cap] 25 (0, 0)))
    (J : Nat → Nat → List Int → World → Prop)
    (hstart : ∀ kb rb w', w.heap.size ≤ kb → w.heap.size ≤ rb → Below w.heap.size w w' → J kb rb [] w')
    (hstep : ∀ kb rb pre W W', J kb rb pre W → Only2 kb rb W W' → J kb rb pre W')
    (hnew : ∀ kb rb pre W W', J kb rb pre W → Below W.heap.size W W' → J kb rb pre W')
    (hY : ∀ kb rb pre (fr : Int) (n : Nat) A' W, J kb rb pre W → pre.length < (lens m k mn mx [] b).length → kb < W.heap.size → rb < W.heap.size → w.heap.size ≤ kb → w.heap.size ≤ rb → YieldAt Fence.wide 2 Try.prog l #[.int .i64 fr, .slice A' n n] W fun e W' => e = .returned (.bool true) ∧ J kb rb (pre ++ [(n : Int)]) W' ∧ W'.heap[g1]? = W.heap[g1]? ∧ W'.heap[kb]? = W.heap[kb]? ∧ W'.heap[rb]? = W.heap[rb]? ∧ (Kd.C (Kd.int .u8) W A b.length b → Kd.C (Kd.int .u8) W' A b.length b)) :
    Calls Try.prog 23 #[.func (.yield l) #[] #[], .pointer (some ⟨g0, 0, none⟩), .pointer (some ⟨g1, 0, none⟩)] w fun e w' => (∃ v, e = .returned v) ∧ ∃ kb rb, J kb rb (lens m k mn mx [] b) w' := by
  have z0 := (blk_cell h0 0).trans rfl
  have z1 := (blk_cell h0 1).trans rfl
  have z2 := (blk_cell h0 2).trans rfl
  have z3 := (blk_cell h0 3).trans rfl
  have K1 := Aside0.mk h1
  have HR := Aside0.mk hr
  have HBY := Aside0.mk hb
  have HR0 := Aside0.mk hr
  have HOK := Aside0.mk ok
  have HU := Aside0.mk hk
  have HST := Aside0.mk hstart
  have HSP := Aside0.mk hstep
  have HNW := Aside0.mk hnew
  have HY := Aside0.mk hY
  have HLT := Aside0.mk (blk_lt h1)
  have HLEN := Aside0.mk hlen
  clear hlen
  clear h0 h1 hr hb hk hstart hstep hnew hY
  go_enter Try.func23, Try.ntmps23
  go_wp2_with (first | (go_at_call 17; with_reducible refine (cnew HOK.out _).mono ?_; rintro e w1 ⟨kb, rb, rfl, hs, hkb, hrb, hbe⟩; have HJ := Aside0.mk (HST.out kb rb w1 hkb hrb hbe); have HS := Aside0.mk hs; have nR_ := Aside0.mk (Kd.C_below HR.out hbe); have n1_ := Aside0.mk (blk_below K1.out hbe); have HG := Aside0.mk (Nat.lt_of_lt_of_le HLT.out hbe.size); clear hs hbe HR K1; have HR := nR_; have K1 := n1_; have y1 := (blk_cell K1.out 0).trans rfl; clear nR_ n1_))
  have HCC := Aside0.mk hc
  clear z0 z1 z2 z3 hc
  go_loopw [6, 19] (fun v6 v19 wr => ∃ (i fr : Nat) (os pre : List Int), fr ≤ i ∧ i ≤ b.length ∧ v6 = .int .i64 fr ∧ v19 = .int .i64 i ∧ os = (b.drop fr).take (i - fr) ∧ (i < b.length ∨ os = []) ∧ Aside0 ((os.length : Int) < mx) ∧ Aside0 (J kb rb pre wr) ∧ Aside0 (i < b.length → CutS wr kb rb m k mn mx (pushed zeroWin (nat os)) os.length) ∧ Aside0 (lens m k mn mx [] b = pre ++ lens m k mn mx os (b.drop i)) ∧ Aside0 (wr.heap[g1]? = some (.cells #[.slice A b.length cap] 25 (0, 0))) ∧ Aside0 (Kd.C (Kd.int .u8) wr A b.length b)) (fun _ v19 _ => b.length - (intOf v19).toNat)
  case atStart =>
    refine ⟨0, 0, [], [], Nat.le_refl _, Nat.zero_le _, rfl, rfl, by rw [Nat.sub_self, List.take_zero], .inr rfl, ⟨?_⟩, HJ, ⟨fun _ => HS.out⟩, ⟨by rw [List.drop_zero]; rfl⟩, K1, HR⟩
    have := HOK.out.lo; have := HOK.out.mid
    show (0 : Int) < mx
    omega
  case round =>
    obtain ⟨i, fr, os, pre, hfi, hi, rfl, rfl, hos, hend, HMX, HJr, HSr, HL, K1r, HRr⟩ := hrel
    clear HJ HS K1 HR
    have HJ := HJr
    have K1 := K1r
    have HR := HRr
    clear HJr K1r HRr
    by_cases hlt : i < b.length
    · have HS := Aside0.mk (HSr.out hlt)
      clear HSr
      have hltb : decide ((i : Int) < (b.length : Int)) = true := decide_eq_true (lt_lt hlt)
      have hby := HBY.out _ (rd_in hlt)
      have hgr := grow hfi hlt
      have hst := HL.out
      rw [drop_rd hlt, lens] at hst
      obtain ⟨ad, rfl, hx0⟩ := Kd.at_int HR.out (i : Int) (Int.natCast_nonneg _) (lt_lt hlt)
      rw [Int.toNat_natCast] at hx0
      have HAD := Aside0.mk (show ad.block < w.heap.size by
        obtain ⟨ad', e', hx1⟩ := Kd.at_int HR0.out (i : Int) (Int.natCast_nonneg _) (lt_lt hlt)
        cases e'
        have := World.block_lt_of_cell? w _ hx1
        have hbl : (ad.add (i : Int).toNat).block = ad.block := by unfold Addr.add; split <;> rfl
        rwa [hbl] at this)
      have p1 : (0 ≤ (i : Int)) = True := eq_true (Int.natCast_nonneg _)
      have p2 : ((i : Int) < (b.length : Int)) = True := eq_true (lt_lt hlt)
      generalize rd b (i : Int) = xi at *
      obtain ⟨x, rfl⟩ : ∃ n : Nat, xi = (n : Int) := ⟨xi.toNat, by omega⟩
      have HX := Aside0.mk (show x < 256 by omega)
      have y1 := (blk_cell K1.out 0).trans rfl
      obtain ⟨X, hX⟩ : ∃ X, fp m (pushed zeroWin (nat (os ++ [(x : Int)]))) = X := ⟨_, rfl⟩
      have hX2 := hX
      rw [pushed_one] at hX2
      have HX2 := Aside0.mk hX2
      rw [← hos] at hgr
      clear hos
      have HN := Aside0.mk (show os.length < 1000000 by have := HMX.out; have := HOK.out.hi; omega)
      have hel : ends m k mn mx (os ++ [(x : Int)]) = endsAt k mn mx (os.length + 1) X := by unfold ends; rw [hX, List.length_append]; rfl
      rw [hel] at hst
      have hwi := wi hlt HLEN.out
      cases hE : endsAt k mn mx (os.length + 1) X with
      | false =>
        have HE := Aside0.mk hE
        rw [hE, if_neg (by decide)] at hst
        by_cases hnx : i + 1 < b.length
        · have hnb := nx_true hnx
          have HMX2 := Aside0.mk (show (((os ++ [(x : Int)]).length : Nat) : Int) < mx by
            have h1 := HMX.out
            have h2 : ¬ ((os.length + 1 : Nat) : Int) = mx := fun h => by unfold endsAt at hE; rw [decide_eq_true h] at hE; cases hE
            rw [List.length_append, List.length_singleton]; omega)
          have HL2 := Aside0.mk hst
          clear hst hE hby hX hX2 hel hend HL
          go_wp2_with ((go_at_call 18; with_reducible refine (cpush X HS.out HOK.out.may HU.out HN.out HX.out HX2.out).mono ?_; rw [HE.out]; rintro e w2 ⟨rfl, hs_, ho_⟩; rw [if_neg (by decide)] at hs_; have n0_ := Aside0.mk hs_; have n1_ := Aside0.mk (HSP.out _ _ _ _ _ HJ.out ho_); have n2_ := Aside0.mk (show w2.heap[g1]? = some (.cells #[.slice (some ad) b.length cap] 25 (0, 0)) from (ho_.block g1 (by have := HLT.out; omega) (by have := HLT.out; omega)).trans K1.out); have n3_ := Aside0.mk (C_block HR.out (fun ad' e' => by cases e'; exact ho_.block _ (by have := HAD.out; omega) (by have := HAD.out; omega))); clear HS HJ K1 HR hs_ ho_; have HS := n0_; have HJ := n1_; have K1 := n2_; have HR := n3_; have y1b := (blk_cell K1.out 0).trans rfl; have HB := Aside0.mk (Below.refl w2.heap.size w2); (try have HRS := Aside0.mk (HGR.out ▸ C_sub HR.out HFM.out)); clear n0_ n1_ n2_ n3_))
          (try simp only [hwi])
          go_roundw
          case rel =>
            refine ⟨i + 1, fr, os ++ [(x : Int)], pre, Nat.le_succ_of_le hfi, hlt, rfl, by go_num, hgr.symm, .inl hnx, HMX2, HJ, ⟨fun _ => ?_⟩, HL2, K1, HR⟩
            have := HS.out
            rw [pushed_one, List.length_append, List.length_singleton]
            exact this
          case measure => simp [intOf]; exact left_less hlt
        · skip
          have hdn : b.drop (i + 1) = [] := List.drop_eq_nil_of_le (Nat.le_of_not_lt hnx)
          rw [hdn, lens, if_neg (by simp), List.length_append, List.length_singleton] at hst
          have HL2 := Aside0.mk hst
          have HDN := Aside0.mk hdn
          have HNX := Aside0.mk hnx
          have hnb := nx_false hnx
          clear hdn hnx
          clear hst hE hby hX hX2 hel hend HL
          generalize hc8 : Code.region 8 _ _ = c8
          obtain ⟨s1, s2, s3, s4, s5, s6, s7, s8, s9⟩ := slice_ok hfi hlt HCC.out
          have hln : (os ++ [(x : Int)]).length ≤ 140737488351232 := by rw [List.length_append, List.length_singleton]; have := HN.out; omega
          have hlm : (i + 1 - fr) * 1 ≤ 140737488351232 := sub_le hlt HLEN.out
          have hfm : fr + (i + 1 - fr) ≤ b.length := sub_in hfi hlt
          have HLM := Aside0.mk hlm
          have HFM := Aside0.mk hfm
          have HGR := Aside0.mk hgr
          clear hln hlm hfm hgr
          go_wp2_with (first | (go_at_call 18; with_reducible refine (cpush X HS.out HOK.out.may HU.out HN.out HX.out HX2.out).mono ?_; rw [HE.out]; rintro e w2 ⟨rfl, hs_, ho_⟩; rw [if_neg (by decide)] at hs_; have n0_ := Aside0.mk hs_; have n1_ := Aside0.mk (HSP.out _ _ _ _ _ HJ.out ho_); have n2_ := Aside0.mk (show w2.heap[g1]? = some (.cells #[.slice (some ad) b.length cap] 25 (0, 0)) from (ho_.block g1 (by have := HLT.out; omega) (by have := HLT.out; omega)).trans K1.out); have n3_ := Aside0.mk (C_block HR.out (fun ad' e' => by cases e'; exact ho_.block _ (by have := HAD.out; omega) (by have := HAD.out; omega))); clear HS HJ K1 HR hs_ ho_; have HS := n0_; have HJ := n1_; have K1 := n2_; have HR := n3_; have y1b := (blk_cell K1.out 0).trans rfl; have HB := Aside0.mk (Below.refl w2.heap.size w2); (try have HRS := Aside0.mk (HGR.out ▸ C_sub HR.out HFM.out)); clear n0_ n1_ n2_ n3_) | ((with_reducible refine gate_dst (N := 35) rfl ?_); (try (refine gate_guard (by rfl) ?_; dsimp only)); refine Kd.R_lit (Kd.int .u8) _ 5 ?hg (N := 35) ?hd (xs := ([] : List Int)) (inner := []) (ok := fun _ => True) (okp := fun _ => True) ?hr ?hp (fun _ hk => hk) trivial (Below.refl _ _) (Nat.le_refl _) (by simp) ?_; (case hd => rfl); (case hg => rfl); (case hr => first | (go_simp; done) | (go_simp; rfl)); (case hp => exact (Reps.none _ _)); intro vHO wHO ho hb hg_ hnew_; clear hg_ hnew_; have n0_ := Aside0.mk (Kd.R_lower ho (below_size (by repeat (first | (with_reducible first | exact HB.out | apply below_alloc | apply pw_below_drewN | apply below_drew1) | exact HB.out)))); have n1_ := Aside0.mk (below_step (by repeat (first | (with_reducible first | exact HB.out | apply below_alloc | apply pw_below_drewN | apply below_drew1) | exact HB.out)) hb); clear HB; have HO := n0_; have HB := n1_; clear n0_ n1_; clear hb ho; have nK_ := Aside0.mk (blk_below K1.out HB.out); clear y1b; have y1b := (blk_cell nK_.out 0).trans rfl) | ((with_reducible refine gate_builtin (b := .append) (xs := #[.tmp 35, .tmp 40]) rfl ?_); (try (refine gate_guard (by rfl) ?_; dsimp only)); at_builtin; refine Kd.R_append_rows (Kd.int .u8) (w0 := w2) w2.heap.size rfl (.tmp 35) (.tmp 40) 25 5 (.int .u8 0) 1 rfl Try.underlying25 info5 rfl (by decide) (by omega) vHO [] (os ++ [(x : Int)]) _ _ _ (fun _ => True) (fun _ => False) rfl rfl ?aO ?aR (fun _ _ h => h) (fun _ h => h.elim) ?aF ?aB ?aS ?aL ?_; (case aR => repeat (first | exact (Kd.C_below HRS.out HB.out) | (with_reducible refine Kd.C_alloc ?_ _) | (with_reducible refine Kd.C_drewN ?_ _) | (with_reducible refine Kd.C_drew ?_))); (case aB => exact (by repeat (first | (with_reducible first | exact HB.out | apply below_alloc | apply pw_below_drewN | apply below_drew1) | exact HB.out))); (case aF => exact (fun _ _ => trivial)); (case aO => exact (by (with_reducible repeat (first | apply Kd.R_alloc | apply Kd.R_drewN | apply Kd.R_drew)); exact HO.out)); (case aS => exact (below_size (by repeat (first | (with_reducible first | exact HB.out | apply below_alloc | apply pw_below_drewN | apply below_drew1) | exact HB.out)))); (case aL => exact app_le HLM.out); intro vHO wHO ho hb hg hat; (try rw [List.nil_append] at ho); have n0_ := Aside0.mk (hb); have n1_ := Aside0.mk (ho); clear HB; clear HO; have HB := n0_; have HO := n1_; clear n0_ n1_; clear ho hb hg hat; obtain ⟨g9, c9, e9, hg9a, hg9b, _⟩ := Kd.R_form HO.out (by simp); subst e9))
          have hl9 := (Kd.R_reads' HO.out).2.1
          rw [List.length_append, List.length_singleton] at hl9
          have r1 := le_true hl9
          have HV := Aside0.mk (HNW.out _ _ _ _ _ HJ.out HB.out)
          have HS9 := Aside0.mk (HS.out.below HB.out HS.out.lt.1 HS.out.lt.2)
          have HK9 := Aside0.mk (blk_below K1.out HB.out)
          have HR9 := Aside0.mk (Kd.C_below HR.out HB.out)
          obtain ⟨fn, tmps, assign, body, hy, hR⟩ := HY.out kb rb pre (fr : Int) (os.length + 1) (some ⟨g9, 0, none⟩) wHO HV.out (by have := congrArg List.length HL2.out; rw [List.length_append] at this; simp only [List.length_cons] at this; omega) HS9.out.lt.1 HS9.out.lt.2 hkb hrb
          have HRR := Aside0.mk hR
          clear hR HO HB
          subst hc8
          refine (wpIn_wide (n := 3)).1 ?_
          gi_wp2
          refine HRR.out.mono ?_
          rintro e W3 ⟨rfl, hJ3, hg3, hk3, hr3, hC3⟩
          have HJ3 := Aside0.mk hJ3
          have HK3 := Aside0.mk (hg3.trans HK9.out)
          have HS3 := Aside0.mk (HS9.out.blocks hk3 hr3)
          have HR3 := Aside0.mk (hC3 HR9.out)
          clear hJ3 hg3 hk3 hr3 hC3 HRR hy
          gi_wp2
          (try go_wp2)
          (try simp only [hwi])
          go_roundw
          case rel =>
            have := HOK.out.lo
            have := HOK.out.mid
            exact ⟨i + 1, i + 1, [], pre ++ [((os.length + 1 : Nat) : Int)], Nat.le_refl _, hlt, by go_num, by go_num, by rw [Nat.sub_self, List.take_zero], .inr rfl, ⟨by show (0 : Int) < mx; omega⟩, HJ3, ⟨fun h => absurd h HNX.out⟩, ⟨by rw [HL2.out, HDN.out, lens, if_pos rfl, List.append_nil]⟩, HK3, HR3⟩
          case measure => simp [intOf]; exact left_less hlt
      | true =>
        have HE := Aside0.mk hE
        rw [hE, if_pos rfl] at hst
        have HL2 := Aside0.mk hst
        clear hst hE hby hX hX2 hel hend HL
        generalize hc8 : Code.region 8 _ _ = c8
        obtain ⟨s1, s2, s3, s4, s5, s6, s7, s8, s9⟩ := slice_ok hfi hlt HCC.out
        have hln : (os ++ [(x : Int)]).length ≤ 140737488351232 := by rw [List.length_append, List.length_singleton]; have := HN.out; omega
        have hlm : (i + 1 - fr) * 1 ≤ 140737488351232 := sub_le hlt HLEN.out
        have hfm : fr + (i + 1 - fr) ≤ b.length := sub_in hfi hlt
        have HLM := Aside0.mk hlm
        have HFM := Aside0.mk hfm
        have HGR := Aside0.mk hgr
        clear hln hlm hfm hgr
        go_wp2_with (first | (go_at_call 18; with_reducible refine (cpush X HS.out HOK.out.may HU.out HN.out HX.out HX2.out).mono ?_; rw [HE.out]; rintro e w2 ⟨rfl, hs_, ho_⟩; rw [if_pos rfl] at hs_; have n0_ := Aside0.mk hs_; have n1_ := Aside0.mk (HSP.out _ _ _ _ _ HJ.out ho_); have n2_ := Aside0.mk (show w2.heap[g1]? = some (.cells #[.slice (some ad) b.length cap] 25 (0, 0)) from (ho_.block g1 (by have := HLT.out; omega) (by have := HLT.out; omega)).trans K1.out); have n3_ := Aside0.mk (C_block HR.out (fun ad' e' => by cases e'; exact ho_.block _ (by have := HAD.out; omega) (by have := HAD.out; omega))); clear HS HJ K1 HR hs_ ho_; have HS := n0_; have HJ := n1_; have K1 := n2_; have HR := n3_; have y1b := (blk_cell K1.out 0).trans rfl; have HB := Aside0.mk (Below.refl w2.heap.size w2); (try have HRS := Aside0.mk (HGR.out ▸ C_sub HR.out HFM.out)); clear n0_ n1_ n2_ n3_) | ((with_reducible refine gate_dst (N := 35) rfl ?_); (try (refine gate_guard (by rfl) ?_; dsimp only)); refine Kd.R_lit (Kd.int .u8) _ 5 ?hg (N := 35) ?hd (xs := ([] : List Int)) (inner := []) (ok := fun _ => True) (okp := fun _ => True) ?hr ?hp (fun _ hk => hk) trivial (Below.refl _ _) (Nat.le_refl _) (by simp) ?_; (case hd => rfl); (case hg => rfl); (case hr => first | (go_simp; done) | (go_simp; rfl)); (case hp => exact (Reps.none _ _)); intro vHO wHO ho hb hg_ hnew_; clear hg_ hnew_; have n0_ := Aside0.mk (Kd.R_lower ho (below_size (by repeat (first | (with_reducible first | exact HB.out | apply below_alloc | apply pw_below_drewN | apply below_drew1) | exact HB.out)))); have n1_ := Aside0.mk (below_step (by repeat (first | (with_reducible first | exact HB.out | apply below_alloc | apply pw_below_drewN | apply below_drew1) | exact HB.out)) hb); clear HB; have HO := n0_; have HB := n1_; clear n0_ n1_; clear hb ho; have nK_ := Aside0.mk (blk_below K1.out HB.out); clear y1b; have y1b := (blk_cell nK_.out 0).trans rfl) | ((with_reducible refine gate_builtin (b := .append) (xs := #[.tmp 35, .tmp 40]) rfl ?_); (try (refine gate_guard (by rfl) ?_; dsimp only)); at_builtin; refine Kd.R_append_rows (Kd.int .u8) (w0 := w2) w2.heap.size rfl (.tmp 35) (.tmp 40) 25 5 (.int .u8 0) 1 rfl Try.underlying25 info5 rfl (by decide) (by omega) vHO [] (os ++ [(x : Int)]) _ _ _ (fun _ => True) (fun _ => False) rfl rfl ?aO ?aR (fun _ _ h => h) (fun _ h => h.elim) ?aF ?aB ?aS ?aL ?_; (case aR => repeat (first | exact (Kd.C_below HRS.out HB.out) | (with_reducible refine Kd.C_alloc ?_ _) | (with_reducible refine Kd.C_drewN ?_ _) | (with_reducible refine Kd.C_drew ?_))); (case aB => exact (by repeat (first | (with_reducible first | exact HB.out | apply below_alloc | apply pw_below_drewN | apply below_drew1) | exact HB.out))); (case aF => exact (fun _ _ => trivial)); (case aO => exact (by (with_reducible repeat (first | apply Kd.R_alloc | apply Kd.R_drewN | apply Kd.R_drew)); exact HO.out)); (case aS => exact (below_size (by repeat (first | (with_reducible first | exact HB.out | apply below_alloc | apply pw_below_drewN | apply below_drew1) | exact HB.out)))); (case aL => exact app_le HLM.out); intro vHO wHO ho hb hg hat; (try rw [List.nil_append] at ho); have n0_ := Aside0.mk (hb); have n1_ := Aside0.mk (ho); clear HB; clear HO; have HB := n0_; have HO := n1_; clear n0_ n1_; clear ho hb hg hat; obtain ⟨g9, c9, e9, hg9a, hg9b, _⟩ := Kd.R_form HO.out (by simp); subst e9))
        have hl9 := (Kd.R_reads' HO.out).2.1
        rw [List.length_append, List.length_singleton] at hl9
        have r1 := le_true hl9
        have HV := Aside0.mk (HNW.out _ _ _ _ _ HJ.out HB.out)
        have HS9 := Aside0.mk (HS.out.below HB.out HS.out.lt.1 HS.out.lt.2)
        have HK9 := Aside0.mk (blk_below K1.out HB.out)
        have HR9 := Aside0.mk (Kd.C_below HR.out HB.out)
        obtain ⟨fn, tmps, assign, body, hy, hR⟩ := HY.out kb rb pre (fr : Int) (os.length + 1) (some ⟨g9, 0, none⟩) wHO HV.out (by have := congrArg List.length HL2.out; rw [List.length_append] at this; simp only [List.length_cons] at this; omega) HS9.out.lt.1 HS9.out.lt.2 hkb hrb
        have HRR := Aside0.mk hR
        clear hR HO HB
        subst hc8
        refine (wpIn_wide (n := 3)).1 ?_
        gi_wp2
        refine HRR.out.mono ?_
        rintro e W3 ⟨rfl, hJ3, hg3, hk3, hr3, hC3⟩
        have HJ3 := Aside0.mk hJ3
        have HK3 := Aside0.mk (hg3.trans HK9.out)
        have HS3 := Aside0.mk (HS9.out.blocks hk3 hr3)
        have HR3 := Aside0.mk (hC3 HR9.out)
        clear hJ3 hg3 hk3 hr3 hC3 HRR hy
        gi_wp2
        (try go_wp2)
        (try simp only [hwi])
        go_roundw
        case rel =>
          have := HOK.out.lo
          have := HOK.out.mid
          exact ⟨i + 1, i + 1, [], pre ++ [((os.length + 1 : Nat) : Int)], Nat.le_refl _, hlt, by go_num, by go_num, by rw [Nat.sub_self, List.take_zero], .inr rfl, ⟨by show (0 : Int) < mx; omega⟩, HJ3, ⟨fun _ => HS3.out⟩, ⟨by rw [HL2.out, List.append_assoc, List.singleton_append]⟩, HK3, HR3⟩
        case measure => simp [intOf]; exact left_less hlt
    · obtain rfl : i = b.length := Nat.le_antisymm hi (Nat.le_of_not_lt hlt)
      have hltb : decide ((b.length : Int) < (b.length : Int)) = false := decide_eq_false (Int.lt_irrefl _)
      have hos0 : os = [] := by
        rcases hend with h | h
        · exact absurd h hlt
        · exact h
      have hst := HL.out
      rw [List.drop_length, hos0, lens, if_pos rfl, List.append_nil] at hst
      have HST2 := Aside0.mk hst
      clear hst hos0 hend hos HL
      go_wp2
      go_end0
      exact ⟨⟨_, rfl⟩, kb, rb, by rw [HST2.out]; exact HJ.out⟩
end Go.Proofs.Ytkaabkoadoomjaa.Law
