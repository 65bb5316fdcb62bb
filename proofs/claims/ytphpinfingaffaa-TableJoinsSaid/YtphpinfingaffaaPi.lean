/- Pick: which parts of which spans any span's bytes are: the walk. -/
import Derived.Test.YtphpinfingaffaaPt
namespace Go.Proofs.Ytphpinfingaffaa.Law
open Go.RowKit Go.Proofs.Ytphpinfingaffaa Go.Proofs.YtphpinfingaffaaW.PrintWords Go.Proofs.YtphpinfingaffaaW.PrintLast Go.Proofs.YtphpinfingaffaaW.PrintMore Go.Proofs.Ytphpinfingaffaa.D Go.Proofs.Ytphpinfingaffaa.Fl
set_option linter.unusedSimpArgs false
set_option linter.unusedVariables false
/-- the parts, from the i-th span on -/
def partsL (c m : Int) : Int → List S34 → List P42
  | _, [] => []
  | i, x :: l => if min (x.f0 + x.f1) (c + m) ≤ max x.f0 c then partsL c m (i + 1) l else ⟨i, max x.f0 c - x.f0, min (x.f0 + x.f1) (c + m) - max x.f0 c⟩ :: partsL c m (i + 1) l
theorem rowOk_mem : ∀ {l : List S34} {b : Int}, rowOk b l → ∀ x ∈ l, In x.f0 ∧ In x.f1
  | [], _, _, x, hx => by cases hx
  | y :: l, b, h, x, hx => by
    rcases List.mem_cons.mp hx with rfl | hx
    · exact ⟨h.1 ▸ h.2.1, h.2.2.1⟩
    · exact rowOk_mem h.2.2.2 x hx
theorem rd_mem {l : List S34} {i : Nat} (h : i < l.length) : rd_T34 l (i : Int) ∈ l := by
  unfold rd_T34
  rw [Int.toNat_natCast, List.getD_eq_getElem?_getD, List.getElem?_eq_getElem h]
  exact List.getElem_mem h
theorem wi {i n : Nat} (h : i < n) (h' : n ≤ 1000) : wrap64 ((i : Int) + 1) = (i : Int) + 1 := w64 (by omega) (by omega)
theorem meet_facts {x0 x1 c m : Int} (hx0 : In x0) (hx1 : In x1) (hc : In c) (hm : In m) (h : ¬ min (x0 + x1) (c + m) ≤ max x0 c) :
    max x0 c < min (x0 + x1) (c + m) ∧ x0 ≤ max x0 c ∧ max x0 c < 9007199254740992 ∧ 0 ≤ min (x0 + x1) (c + m) - max x0 c ∧ min (x0 + x1) (c + m) - max x0 c < 9007199254740992 := by
  unfold In at hx0 hx1 hc hm
  omega
theorem left_less {i n : Nat} (h : i < n) : n - (i + 1) < n - i := by omega
theorem lt_lt {i n : Nat} (h : i < n) : (i : Int) < (n : Int) := by omega
set_option maxHeartbeats 4000000 in
set_option maxRecDepth 100000 in
theorem pick_none (A : Option Addr) (cap : Nat) (c m : Int) (w : World) : Calls Try.prog 25 #[.slice A 0 cap, Cx c m] w fun e w' => e = .returned (.tuple #[.slice none 0 0, .int .i64 1]) ∧ Below w.heap.size w w' := by
  have HB := Aside0.mk (below_alloc (Below.refl w.heap.size w) (.cells #[.slice A 0 cap] 32))
  have K0 := Aside0.mk (heap_alloc_new w (.cells #[.slice A 0 cap] 32))
  have z0 := (blk_cell K0.out 0).trans rfl
  go_enter Try.func25, Try.ntmps25
  go_wp2_with (go_at_call 33; with_reducible refine (whole_none A cap _).mono ?_; rintro e w1 ⟨rfl, h⟩; have nB_ := Aside0.mk (below_step HB.out h); have nK_ := Aside0.mk (blk_below K0.out h); clear HB K0 h z0; have HB := nB_; have K0 := nK_; have z0 := (blk_cell K0.out 0).trans rfl; clear nB_ nK_)
  go_ret2
  exact ⟨rfl, HB.out⟩
set_option maxHeartbeats 4000000 in
set_option maxRecDepth 100000 in
theorem pick_out (A : Option Addr) (cap : Nat) (l : List S34) (b c m : Int) (w : World) (hr : Kd.C kC w A l.length l) (hc : l.length ≤ cap) (hm : l.length ≤ 1000) (hl : 0 < l.length) (ho : rowOk b l) (hcI : In c) (hmI : In m) (hout : c < b ∨ rowE b l < c + m) :
    Calls Try.prog 25 #[.slice A l.length cap, Cx c m] w fun e w' => e = .returned (.tuple #[.slice none 0 0, .int .i64 6]) ∧ Below w.heap.size w w' := by
  have HR := Aside0.mk hr
  have HOk := Aside0.mk ho
  have HB := Aside0.mk (below_alloc (Below.refl w.heap.size w) (.cells #[.slice A l.length cap] 32))
  have K0 := Aside0.mk (heap_alloc_new w (.cells #[.slice A l.length cap] 32))
  have z0 := (blk_cell K0.out 0).trans rfl
  have hbI := rowOk_in ho
  have hE := rowE_in ho
  generalize hEe : rowE b l = E at *
  have HEE := Aside0.mk hEe
  have hnI : In (E - b) := by unfold In at hbI ⊢; omega
  clear hr ho hEe
  by_cases h1 : c < b
  · have q1 := o_lt h1 hcI.1 (by unfold In at hbI; omega : b < 9007199254740992)
    clear hout hE
    go_enter Try.func25, Try.ntmps25
    go_wp2_with (first | (go_at_call 33; with_reducible refine (whole_ok A cap l b _ (Kd.C_below HR.out HB.out) hc hm hl HOk.out).mono ?_; rw [HEE.out]; rintro e w1 ⟨rfl, h⟩; have nB_ := Aside0.mk (below_step HB.out h); have nK_ := Aside0.mk (blk_below K0.out h); clear HB K0 h z0; have HB := nB_; have K0 := nK_; have z0 := (blk_cell K0.out 0).trans rfl; clear nB_ nK_) | (go_at_call 34; with_reducible refine (right_calls hcI hmI _).mono ?_; rintro e w2 ⟨rfl, h⟩; have nB_ := Aside0.mk (below_step HB.out h); have nK_ := Aside0.mk (blk_below K0.out h); clear HB K0 h z0; have HB := nB_; have K0 := nK_; have z0 := (blk_cell K0.out 0).trans rfl; clear nB_ nK_) | (go_at_call 35; first | (with_reducible refine (turned_calls hcI hmI _).mono ?_; rintro e w3 ⟨rfl, h⟩; have nB_ := Aside0.mk (below_step HB.out h); have nK_ := Aside0.mk (blk_below K0.out h); clear HB K0 h z0; have HB := nB_; have K0 := nK_; have z0 := (blk_cell K0.out 0).trans rfl; clear nB_ nK_) | (with_reducible refine (turned_calls hbI hnI _).mono ?_; rintro e w4 ⟨rfl, h⟩; have nB_ := Aside0.mk (below_step HB.out h); have nK_ := Aside0.mk (blk_below K0.out h); clear HB K0 h z0; have HB := nB_; have K0 := nK_; have z0 := (blk_cell K0.out 0).trans rfl; clear nB_ nK_)))
    go_ret2
    exact ⟨rfl, HB.out⟩
  · have q1 := o_nlt (show b ≤ c by omega) hbI.1 (by unfold In at hcI; omega : c < 9007199254740992)
    have q2 := o_gt (n := c + m) (m := b + (E - b)) (by omega) (by unfold In at hbI hnI; omega) (by unfold In at hcI hmI; omega)
    clear hout hE h1
    go_enter Try.func25, Try.ntmps25
    go_wp2_with (first | (go_at_call 33; with_reducible refine (whole_ok A cap l b _ (Kd.C_below HR.out HB.out) hc hm hl HOk.out).mono ?_; rw [HEE.out]; rintro e w1 ⟨rfl, h⟩; have nB_ := Aside0.mk (below_step HB.out h); have nK_ := Aside0.mk (blk_below K0.out h); clear HB K0 h z0; have HB := nB_; have K0 := nK_; have z0 := (blk_cell K0.out 0).trans rfl; clear nB_ nK_) | (go_at_call 34; with_reducible refine (right_calls hcI hmI _).mono ?_; rintro e w2 ⟨rfl, h⟩; have nB_ := Aside0.mk (below_step HB.out h); have nK_ := Aside0.mk (blk_below K0.out h); clear HB K0 h z0; have HB := nB_; have K0 := nK_; have z0 := (blk_cell K0.out 0).trans rfl; clear nB_ nK_) | (go_at_call 35; first | (with_reducible refine (turned_calls hcI hmI _).mono ?_; rintro e w3 ⟨rfl, h⟩; have nB_ := Aside0.mk (below_step HB.out h); have nK_ := Aside0.mk (blk_below K0.out h); clear HB K0 h z0; have HB := nB_; have K0 := nK_; have z0 := (blk_cell K0.out 0).trans rfl; clear nB_ nK_) | (with_reducible refine (turned_calls hbI hnI _).mono ?_; rintro e w4 ⟨rfl, h⟩; have nB_ := Aside0.mk (below_step HB.out h); have nK_ := Aside0.mk (blk_below K0.out h); clear HB K0 h z0; have HB := nB_; have K0 := nK_; have z0 := (blk_cell K0.out 0).trans rfl; clear nB_ nK_)))
    go_ret2
    exact ⟨rfl, HB.out⟩
set_option maxHeartbeats 4000000 in
set_option maxRecDepth 100000 in
theorem pick_in (A : Option Addr) (cap : Nat) (l : List S34) (b c m : Int) (w : World) (hr : Kd.C kC w A l.length l) (hc : l.length ≤ cap) (hm : l.length ≤ 1000) (hl : 0 < l.length) (ho : rowOk b l) (hcI : In c) (hmI : In m) (hb0 : b ≤ c) (hb1 : c + m ≤ rowE b l) :
    Calls Try.prog 25 #[.slice A l.length cap, Cx c m] w fun e w' => ∃ V, e = .returned (.tuple #[V, .int .i64 0]) ∧ Kd.R k42 49 w' w.heap.size (fun _ => True) V (partsL c m 0 l) ∧ Below w.heap.size w w' := by
  have HR := Aside0.mk hr
  have HOk := Aside0.mk ho
  have HB := Aside0.mk (below_alloc (Below.refl w.heap.size w) (.cells #[.slice A l.length cap] 32))
  have K0 := Aside0.mk (heap_alloc_new w (.cells #[.slice A l.length cap] 32))
  have z0 := (blk_cell K0.out 0).trans rfl
  have hbI := rowOk_in ho
  have hE := rowE_in ho
  generalize hEe : rowE b l = E at *
  have HEE := Aside0.mk hEe
  have hnI : In (E - b) := by unfold In at hbI ⊢; omega
  have q1 := o_nlt (show b ≤ c by omega) hbI.1 (by unfold In at hcI; omega : c < 9007199254740992)
  have q2 := o_ngt (n := c + m) (m := b + (E - b)) (by omega) (by unfold In at hcI hmI; omega) (by unfold In at hbI hnI; omega)
  clear hr ho hEe
  go_enter Try.func25, Try.ntmps25
  go_wp2_with (first | (go_at_call 33; with_reducible refine (whole_ok A cap l b _ (Kd.C_below HR.out HB.out) hc hm hl HOk.out).mono ?_; rw [HEE.out]; rintro e w1 ⟨rfl, h⟩; have nB_ := Aside0.mk (below_step HB.out h); have nK_ := Aside0.mk (blk_below K0.out h); clear HB K0 h z0; have HB := nB_; have K0 := nK_; have z0 := (blk_cell K0.out 0).trans rfl; clear nB_ nK_) | (go_at_call 34; with_reducible refine (right_calls hcI hmI _).mono ?_; rintro e w2 ⟨rfl, h⟩; have nB_ := Aside0.mk (below_step HB.out h); have nK_ := Aside0.mk (blk_below K0.out h); clear HB K0 h z0; have HB := nB_; have K0 := nK_; have z0 := (blk_cell K0.out 0).trans rfl; clear nB_ nK_) | (go_at_call 35; first | (with_reducible refine (turned_calls hcI hmI _).mono ?_; rintro e w3 ⟨rfl, h⟩; have nB_ := Aside0.mk (below_step HB.out h); have nK_ := Aside0.mk (blk_below K0.out h); clear HB K0 h z0; have HB := nB_; have K0 := nK_; have z0 := (blk_cell K0.out 0).trans rfl; clear nB_ nK_) | (with_reducible refine (turned_calls hbI hnI _).mono ?_; rintro e w4 ⟨rfl, h⟩; have nB_ := Aside0.mk (below_step HB.out h); have nK_ := Aside0.mk (blk_below K0.out h); clear HB K0 h z0; have HB := nB_; have K0 := nK_; have z0 := (blk_cell K0.out 0).trans rfl; clear nB_ nK_; have z0a := (blk_cell (blk_below K0.out (below_alloc (Below.refl _ _) (.cells #[.slice none 0 0] 42))) 0).trans rfl)))
  have K1 := Aside0.mk (heap_alloc_new w4 (.cells #[.slice none 0 0] 42))
  have nK_ := Aside0.mk (blk_below K0.out (below_alloc (Below.refl _ _) (.cells #[.slice none 0 0] 42)))
  have nB_ := Aside0.mk (below_alloc HB.out (.cells #[.slice none 0 0] 42))
  have hge := HB.out.size
  have hlt := blk_lt K0.out
  clear HB K0 z0 z0a q1 q2
  have HB := nB_
  have K0 := nK_
  clear nB_ nK_
  generalize w4.alloc (.cells #[.slice none 0 0] 42) = wq at *
  generalize w4.heap.size = g1 at *
  go_loopw [46] (fun v46 wr => ∃ (i : Nat) (ps : List P42) (V : Value), i ≤ l.length ∧ v46 = .int .i64 i ∧ ps.length ≤ i ∧ Aside0 (wr.heap[w.heap.size]? = some (.cells #[.slice A l.length cap] 32 (0, 0))) ∧ Aside0 (wr.heap[g1]? = some (.cells #[V] 42 (0, 0))) ∧ Aside0 (Kd.R k42 49 wr w.heap.size (fun k => k ≠ w.heap.size ∧ k ≠ g1) V ps) ∧ Aside0 (Below w.heap.size w wr) ∧ Aside0 (partsL c m 0 l = ps ++ partsL c m i (l.drop i))) (fun v46 _ => l.length - (intOf v46).toNat)
  case atStart => exact ⟨0, [], _, by omega, rfl, by simp only [List.length_nil]; omega, K0, K1, ⟨Kd.R_nil _ _ _ _ _⟩, HB, ⟨by rw [List.drop_zero]; rfl⟩⟩
  case round =>
    obtain ⟨i, ps, V, hi, rfl, hps, K0n, K1n, HO, HBn, HP⟩ := hrel
    clear HB K0 K1
    have HB := HBn
    have K0 := K0n
    have K1 := K1n
    clear HBn K0n K1n
    by_cases hlt2 : i < l.length
    · have hltb : decide ((i : Int) < (l.length : Int)) = true := decide_eq_true (lt_lt hlt2)
      have hxI := rowOk_mem HOk.out _ (rd_mem hlt2)
      obtain ⟨ad, rfl, hx0⟩ := at_C HR.out (i : Int) (Int.natCast_nonneg _) (lt_lt hlt2)
      rw [Int.toNat_natCast] at hx0
      have hx := (HB.out.cell (World.block_lt_of_cell? w _ hx0)).trans hx0
      have p1 : (0 ≤ (i : Int)) = True := eq_true (Int.natCast_nonneg _)
      have p2 : ((i : Int) < (l.length : Int)) = True := eq_true (lt_lt hlt2)
      have z0 := (blk_cell K0.out 0).trans rfl
      have hst := HP.out
      rw [drop_S34 hlt2, partsL] at hst
      generalize hxe : rd_T34 l (i : Int) = x at *
      have HXE := Aside0.mk hxe
      clear hx0 HP hxe
      by_cases hme : min (x.f0 + x.f1) (c + m) ≤ max x.f0 c
      · rw [if_pos hme] at hst
        have HP := Aside0.mk hst
        clear hst
        have hwi := wi hlt2 hm
        have HM := Aside0.mk (meet_no hxI.1 hxI.2 hcI hmI hme)
        clear hme hxI hE hb1 hb0 hnI hbI
        go_wp2_with (go_at_call 37; with_reducible refine (HM.out _).mono ?_; rintro e w5 ⟨rfl, h⟩; have nB_ := Aside0.mk (below_step HB.out h); have nK_ := Aside0.mk (blk_below K0.out h); have nL_ := Aside0.mk (blk_below K1.out h); have nO_ := Aside0.mk (Kd.R_below HO.out h); clear HB K0 K1 HO h z0; have HB := nB_; have K0 := nK_; have K1 := nL_; have HO := nO_; clear nB_ nK_ nL_ nO_)
        go_roundw
        case rel => exact ⟨i + 1, ps, V, hlt2, by go_num, Nat.le_succ_of_le hps, K0, K1, HO, HB, HP⟩
        case measure => simp [intOf]; exact left_less hlt2
      · rw [if_neg hme] at hst
        have HP := Aside0.mk (show partsL c m 0 l = (ps ++ [⟨i, max x.f0 c - x.f0, min (x.f0 + x.f1) (c + m) - max x.f0 c⟩]) ++ partsL c m (i + 1) (l.drop (i + 1)) by rw [hst]; simp only [List.append_assoc, List.singleton_append])
        clear hst
        have HF := Aside0.mk (meet_facts hxI.1 hxI.2 hcI hmI hme)
        have HM := Aside0.mk (meet_yes hxI.1 hxI.2 hcI hmI HF.out.1)
        have HZq := Aside0.mk hxI.1.1
        clear hme hxI hE hb1 hb0 hnI hbI
        have hwi := wi hlt2 hm
        go_wp2_with (first | (go_at_call 37; with_reducible refine (HM.out _).mono ?_; rintro e w5 ⟨rfl, h⟩; have nB_ := Aside0.mk (below_step HB.out h); have nK_ := Aside0.mk (blk_below K0.out h); have nL_ := Aside0.mk (blk_below K1.out h); have nO_ := Aside0.mk (Kd.R_below HO.out h); clear HB K0 K1 HO h z0; have HB := nB_; have K0 := nK_; have K1 := nL_; have HO := nO_; clear nB_ nK_ nL_ nO_) | (go_at_call 36; with_reducible refine (put_calls (some ad) cap w.heap.size g1 l i x _ _ ps V w _ HR.out hc hm hlt2 HXE.out K0.out K1.out (Nat.ne_of_lt hlt) hge HO.out (Nat.le_trans hps (Nat.le_trans hi hm)) HB.out HZq.out HF.out.2.1 HF.out.2.2.1 HF.out.2.2.2.1 HF.out.2.2.2.2).mono ?_; rintro e w6 ⟨rfl, V6, h0, h1, h2, h3⟩; clear K0 K1 HO HB; have K0 := Aside0.mk h0; have K1 := Aside0.mk h1; have HO := Aside0.mk h2; have HB := Aside0.mk h3; clear h0 h1 h2 h3))
        go_roundw
        case rel => exact ⟨i + 1, _, V6, hlt2, by go_num, by rw [List.length_append, List.length_singleton]; exact Nat.succ_le_succ hps, K0, K1, HO, HB, HP⟩
        case measure => simp [intOf]; exact left_less hlt2
    · obtain rfl : i = l.length := Nat.le_antisymm hi (Nat.le_of_not_lt hlt2)
      have hltb : decide ((l.length : Int) < (l.length : Int)) = false := decide_eq_false (Int.lt_irrefl _)
      have z1 := (blk_cell K1.out 0).trans rfl
      have hst := HP.out
      rw [List.drop_length, partsL, List.append_nil] at hst
      have HP2 := Aside0.mk hst
      clear HP hst
      go_wp2
      go_ret2
      exact ⟨_, rfl, by rw [HP2.out]; exact Kd.R_mono HO.out (fun _ _ => trivial), HB.out⟩
end Go.Proofs.Ytphpinfingaffaa.Law
