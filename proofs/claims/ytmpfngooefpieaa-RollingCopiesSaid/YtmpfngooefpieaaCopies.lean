/- RollingCopies: the walk. -/
import Derived.Test.YtmpfngooefpieaaCon
namespace Go.Proofs.Ytmpfngooefpieaa.Law
open Go.RowKit Go.Proofs.Ytmpfngooefpieaa Go.Proofs.Ytmpfngooefpieaa.A Go.Proofs.Ytmpfngooefpieaa.Roll Go.Proofs.YtmpfngooefpieaaW.PrintWords Go.Proofs.YtmpfngooefpieaaW.PrintLast Go.Proofs.YtmpfngooefpieaaW.PrintMore
set_option maxRecDepth 100000 in
theorem copies_long (a0 : Int) (A1 A2 A3 : Option Addr) (n1 c1 n2 c2 n3 c3 : Nat) (w : World) (h : 200 < n1 ∨ 200 < n2 ∨ 200 < n3) :
    Calls Try.prog 7 #[.int .u64 a0, .slice A1 n1 c1, .slice A2 n2 c2, .slice A3 n3 c3] w fun e w' => e = .returned (.bool true) ∧ Below w.heap.size w w' := by
  by_cases h1 : 200 < (n1 : Int)
  · have b1 := decide_eq_true h1
    clear h h1
    go_enter Try.func7, Try.ntmps7
    go_wp2_with (first | (go_at_call 9; refine (awake_calls _).mono ?_; rintro e w' ⟨rfl, hb⟩))
    go_ret
    exact ⟨rfl, hb⟩
  · have b1 := decide_eq_false h1
    by_cases h2 : 200 < (n2 : Int)
    · have b2 := decide_eq_true h2
      clear h h1 h2
      go_enter Try.func7, Try.ntmps7
      go_wp2_with (first | (go_at_call 9; refine (awake_calls _).mono ?_; rintro e w' ⟨rfl, hb⟩))
      go_ret
      exact ⟨rfl, hb⟩
    · have b2 := decide_eq_false h2
      have b3 := decide_eq_true (show 200 < (n3 : Int) by omega)
      clear h h1 h2
      go_enter Try.func7, Try.ntmps7
      go_wp2_with (first | (go_at_call 9; refine (awake_calls _).mono ?_; rintro e w' ⟨rfl, hb⟩))
      go_ret
      exact ⟨rfl, hb⟩
set_option maxRecDepth 100000 in
theorem copies_bad (m : Nat) (hu : U m) (hm : ¬ May m) (A1 A2 A3 : Option Addr) (n1 c1 n2 c2 n3 c3 : Nat) (w : World) (h : ¬ (200 < n1 ∨ 200 < n2 ∨ 200 < n3)) :
    Calls Try.prog 7 #[.int .u64 (m : Int), .slice A1 n1 c1, .slice A2 n2 c2, .slice A3 n3 c3] w fun e w' => e = .returned (.bool true) ∧ Below w.heap.size w w' := by
  have b1 : decide (200 < (n1 : Int)) = false := decide_eq_false (by omega)
  have b2 : decide (200 < (n2 : Int)) = false := decide_eq_false (by omega)
  have b3 : decide (200 < (n3 : Int)) = false := decide_eq_false (by omega)
  have HM := Aside0.mk hm
  have HU := Aside0.mk hu
  clear h
  go_enter Try.func7, Try.ntmps7
  go_wp2_with (first | (go_at_call 9; refine (awake_calls _).mono ?_; rintro e w' ⟨rfl, hb⟩) | (go_at_call 13; refine (inv_bad HU.out HM.out _).mono ?_; rintro e w' ⟨rfl, ⟨n, rfl⟩⟩) | (go_at_call 11; refine (right_no HU.out HM.out _).mono ?_; rintro e w' ⟨rfl, ⟨n, rfl⟩⟩) | (go_at_call 17; refine (copy_nil _).mono ?_; rintro e w' ⟨rfl, rfl⟩))
  go_ret
  exact ⟨rfl, (pw_below_drewN (Below.refl w.heap.size w) _).trans hb⟩
set_option maxHeartbeats 2000000 in
set_option maxRecDepth 100000 in
theorem copies_good (m : Nat) (hm : May m) (A1 A2 A3 : Option Addr) (c1 c2 c3 : Nat) (l1 l2 l3 : List Int) (w : World) (h : ¬ (200 < l1.length ∨ 200 < l2.length ∨ 200 < l3.length))
    (hr1 : Kd.C (Kd.int .u8) w A1 l1.length l1) (hr2 : Kd.C (Kd.int .u8) w A2 l2.length l2) (hr3 : Kd.C (Kd.int .u8) w A3 l3.length l3) (hc1 : l1.length ≤ c1) (hc2 : l2.length ≤ c2) (hc3 : l3.length ≤ c3) (hb1 : Bytes l1) (hb2 : Bytes l2) (hb3 : Bytes l3) :
    Calls Try.prog 7 #[.int .u64 (m : Int), .slice A1 l1.length c1, .slice A2 l2.length c2, .slice A3 l3.length c3] w fun e w' => e = .returned (.bool true) ∧ Below w.heap.size w w' := by
  have b1 : decide (200 < (l1.length : Int)) = false := decide_eq_false (by omega)
  have b2 : decide (200 < (l2.length : Int)) = false := decide_eq_false (by omega)
  have b3 : decide (200 < (l3.length : Int)) = false := decide_eq_false (by omega)
  have HM := Aside0.mk hm
  have HR1 := Aside0.mk hr1
  have HR2 := Aside0.mk hr2
  have HR3 := Aside0.mk hr3
  have HC1 := Aside0.mk hc1
  have HC2 := Aside0.mk hc2
  have HC3 := Aside0.mk hc3
  have HX1 := Aside0.mk hb1
  have HX2 := Aside0.mk hb2
  have HX3 := Aside0.mk hb3
  have hn1 : l1.length ≤ 200 := by omega
  have hn2 : l2.length ≤ 200 := by omega
  have hn3 : l3.length ≤ 200 := by omega
  clear hm hr1 hr2 hr3 hc1 hc2 hc3 hb1 hb2 hb3 h
  go_enter Try.func7, Try.ntmps7
  go_wp2_with (first | (go_at_call 13; refine (inv_new HM.out _).mono ?_; rintro e w' ⟨g, hg, rfl, hi, hbe⟩; have HI := Aside0.mk hi; have HL := Aside0.mk hbe; clear hi hbe) | (go_at_call 11; refine (right_yes HM.out _).mono ?_; rintro e w2 ⟨rfl, ⟨nd, rfl⟩⟩))
  have HL2 := Aside0.mk (pw_below_drewN HL.out nd)
  have HI2 := Aside0.mk (HI.out.drewN nd)
  clear HL HI
  generalize w'.drewN nd = wn at *
  have HW := Aside0.mk (Only.refl g wn)
  go_loopw [56] (fun v wr => ∃ (i : Nat), i ≤ l1.length ∧ v = .int .i64 i ∧ Aside0 (Inv wr g m (pushed zeroWin ((nat l1).take i))) ∧ Aside0 (Only g wn wr)) (fun v _ => l1.length - (intOf v).toNat)
  case atStart => exact ⟨0, by omega, rfl, HI2, HW⟩
  case round =>
    obtain ⟨i, hi, rfl, HBr, HWr⟩ := hrel
    obtain ⟨wo, rfl⟩ : ∃ wo : World, wo = wr := ⟨_, rfl⟩
    by_cases hlt : i < l1.length
    · have hltb : decide ((i : Int) < (l1.length : Int)) = true := decide_eq_true (by omega)
      obtain ⟨ad, hA2, hcell⟩ := Kd.at_int (Kd.C_below HR1.out (HL2.out.trans (HWr.out.below hg))) (i : Int) (by omega) (by omega)
      obtain rfl := hA2
      obtain ⟨hbb, hst⟩ := rd_push HX1.out (L := zeroWin) hlt
      obtain ⟨b, hb⟩ : ∃ b : Nat, rd l1 (i : Int) = b := ⟨_, (Int.toNat_of_nonneg hbb.1).symm⟩
      rw [hb] at hbb hst
      replace hcell : wo.cell? (ad.add i) = some (.int .u8 (b : Int)) := by rw [hb] at hcell; exact hcell
      have HS := Aside0.mk hst
      clear hb hst
      go_wp2_with (first | (go_at_call 15; refine (inv_push HM.out HBr.out (b := b) (by omega)).mono ?_; rintro e w'' ⟨rfl, hi2, ho2⟩))
      go_roundw
      case rel =>
        refine ⟨i + 1, by omega, by go_num, ⟨?_⟩, ⟨HWr.out.trans ho2⟩⟩
        rw [HS.out]; exact hi2
      case measure => simp [intOf]; omega
    · have hlt2 : i = l1.length := by omega
      have hltb : decide ((i : Int) < (l1.length : Int)) = false := decide_eq_false (by omega)
      have hi1 : Inv wo g m (pushed zeroWin (nat l1)) := by have := HBr.out; rw [hlt2, ← nat_len l1, List.take_length] at this; exact this
      have HI1 := Aside0.mk hi1
      have HL3 := Aside0.mk (HL2.out.trans (HWr.out.below hg))
      clear hi1 HBr
      go_wp2_with (first | (go_at_call 17; refine (inv_copy HI1.out).mono ?_; rintro e w'' ⟨g2, hg2, rfl, hi2, hbe⟩; have HIc := Aside0.mk hi2; have HLc := Aside0.mk hbe; clear hi2 hbe))
      have hgl := HI1.out.lt
      have hg2w : w.heap.size ≤ g2 := by have := HL3.out.size; omega
      have HL4 := Aside0.mk (HL3.out.trans (HLc.out.mono HL3.out.size))
      have HIg := Aside0.mk (HI1.out.below HLc.out hgl)
      have hne : g2 ≠ g := by omega
      clear HI1 HLc HL3
      obtain ⟨wc, rfl⟩ : ∃ wc : World, wc = w'' := ⟨_, rfl⟩
      have HW5 := Aside0.mk (Only.refl g wc)
      go_loopw [68] (fun v wr => ∃ (i : Nat), i ≤ l2.length ∧ v = .int .i64 i ∧ Aside0 (Inv wr g m (pushed (pushed zeroWin (nat l1)) ((nat l2).take i))) ∧ Aside0 (Only g wc wr)) (fun v _ => l2.length - (intOf v).toNat)
      case atStart => exact ⟨0, by omega, rfl, HIg, HW5⟩
      case round =>
        obtain ⟨i5, hi5, rfl, HBr5, HWr5⟩ := hrel
        obtain ⟨wo5, rfl⟩ : ∃ wo : World, wo = wr := ⟨_, rfl⟩
        by_cases hlt5 : i5 < l2.length
        · have hltb : decide ((i5 : Int) < (l2.length : Int)) = true := decide_eq_true (by omega)
          obtain ⟨ad, hA2, hcell⟩ := Kd.at_int (Kd.C_below HR2.out (HL4.out.trans (HWr5.out.below (by omega)))) (i5 : Int) (by omega) (by omega)
          obtain rfl := hA2
          obtain ⟨hbb, hst⟩ := rd_push HX2.out (L := (pushed zeroWin (nat l1))) hlt5
          obtain ⟨b, hb⟩ : ∃ b : Nat, rd l2 (i5 : Int) = b := ⟨_, (Int.toNat_of_nonneg hbb.1).symm⟩
          rw [hb] at hbb hst
          replace hcell : wo5.cell? (ad.add i5) = some (.int .u8 (b : Int)) := by rw [hb] at hcell; exact hcell
          have HS := Aside0.mk hst
          clear hb hst
          go_wp2_with (first | (go_at_call 15; refine (inv_push HM.out HBr5.out (b := b) (by omega)).mono ?_; rintro e w'' ⟨rfl, hi2, ho2⟩))
          go_roundw
          case rel =>
            refine ⟨i5 + 1, by omega, by go_num, ⟨?_⟩, ⟨HWr5.out.trans ho2⟩⟩
            rw [HS.out]; exact hi2
          case measure => simp [intOf]; omega
        · have hlt2 : i5 = l2.length := by omega
          have hltb : decide ((i5 : Int) < (l2.length : Int)) = false := decide_eq_false (by omega)
          have hi1 : Inv wo5 g m (pushed (pushed zeroWin (nat l1)) (nat l2)) := by have := HBr5.out; rw [hlt2, ← nat_len l2, List.take_length] at this; exact this
          have HI5 := Aside0.mk hi1
          have HL5 := Aside0.mk (HL4.out.trans (HWr5.out.below (by omega)))
          clear hi1 HBr5 hlt2
          have HIc5 := Aside0.mk (HIc.out.only HWr5.out hne)
          clear HIc HWr5
          go_wp2
          have HW6 := Aside0.mk (Only.refl g2 wo5)
          go_loopw [78] (fun v wr => ∃ (i : Nat), i ≤ l3.length ∧ v = .int .i64 i ∧ Aside0 (Inv wr g2 m (pushed (pushed zeroWin (nat l1)) ((nat l3).take i))) ∧ Aside0 (Only g2 wo5 wr)) (fun v _ => l3.length - (intOf v).toNat)
          case atStart => exact ⟨0, by omega, rfl, HIc5, HW6⟩
          case round =>
            obtain ⟨i6, hi6, rfl, HBr6, HWr6⟩ := hrel
            obtain ⟨wo6, rfl⟩ : ∃ wo : World, wo = wr := ⟨_, rfl⟩
            by_cases hlt6 : i6 < l3.length
            · have hltb : decide ((i6 : Int) < (l3.length : Int)) = true := decide_eq_true (by omega)
              obtain ⟨ad, hA2, hcell⟩ := Kd.at_int (Kd.C_below HR3.out (HL5.out.trans (HWr6.out.below (by omega)))) (i6 : Int) (by omega) (by omega)
              obtain rfl := hA2
              obtain ⟨hbb, hst⟩ := rd_push HX3.out (L := (pushed zeroWin (nat l1))) hlt6
              obtain ⟨b, hb⟩ : ∃ b : Nat, rd l3 (i6 : Int) = b := ⟨_, (Int.toNat_of_nonneg hbb.1).symm⟩
              rw [hb] at hbb hst
              replace hcell : wo6.cell? (ad.add i6) = some (.int .u8 (b : Int)) := by rw [hb] at hcell; exact hcell
              have HS := Aside0.mk hst
              clear hb hst
              go_wp2_with (first | (go_at_call 15; refine (inv_push HM.out HBr6.out (b := b) (by omega)).mono ?_; rintro e w'' ⟨rfl, hi2, ho2⟩))
              go_roundw
              case rel =>
                refine ⟨i6 + 1, by omega, by go_num, ⟨?_⟩, ⟨HWr6.out.trans ho2⟩⟩
                rw [HS.out]; exact hi2
              case measure => simp [intOf]; omega
            · have hlt2 : i6 = l3.length := by omega
              have hltb : decide ((i6 : Int) < (l3.length : Int)) = false := decide_eq_false (by omega)
              have hi1 : Inv wo6 g2 m (pushed (pushed zeroWin (nat l1)) (nat l3)) := by have := HBr6.out; rw [hlt2, ← nat_len l3, List.take_length] at this; exact this
              have HI6 := Aside0.mk hi1
              have HL6 := Aside0.mk (HL5.out.trans (HWr6.out.below (by omega)))
              clear hi1 HBr6 hlt2
              have HIg6 := Aside0.mk (HI5.out.only HWr6.out (Ne.symm hne))
              clear HIc5 HWr6 HI5
              obtain ⟨wq, rfl⟩ : ∃ wq : World, wq = wo6 := ⟨_, rfl⟩
              have HB := Aside0.mk (Below.refl wq.heap.size wq)
              obtain ⟨y12, hy⟩ : ∃ y : List Int, y = l1 ++ l2 := ⟨_, rfl⟩
              have HVa : Aside0 (∀ W, Below wq.heap.size wq W → Calls Try.prog 14 #[.pointer (some ⟨g, 0, none⟩)] W fun e w' => e = .returned (.int .u64 (fpo m y12 : Int)) ∧ W = w') := ⟨fun W hW => by
                rw [hy, fpo_append]; exact inv_value (HIg6.out.below hW HIg6.out.lt)⟩
              have HYa := Aside0.mk (show Bytes y12 by rw [hy]; exact HX1.out.app HX2.out)
              have hly12 : y12.length ≤ 400 := by rw [hy, List.length_append]; omega
              have Ny12 := Aside0.mk hy
              clear hy
              obtain ⟨y13, hy⟩ : ∃ y : List Int, y = l1 ++ l3 := ⟨_, rfl⟩
              have HVb : Aside0 (∀ W, Below wq.heap.size wq W → Calls Try.prog 14 #[.pointer (some ⟨g2, 0, none⟩)] W fun e w' => e = .returned (.int .u64 (fpo m y13 : Int)) ∧ W = w') := ⟨fun W hW => by
                rw [hy, fpo_append]; exact inv_value (HI6.out.below hW HI6.out.lt)⟩
              have HYb := Aside0.mk (show Bytes y13 by rw [hy]; exact HX1.out.app HX3.out)
              have hly13 : y13.length ≤ 400 := by rw [hy, List.length_append]; omega
              have Ny13 := Aside0.mk hy
              clear hy
              have HRq1 := Aside0.mk (Kd.C_below HR1.out HL6.out)
              have HRq2 := Aside0.mk (Kd.C_below HR2.out HL6.out)
              have HRq3 := Aside0.mk (Kd.C_below HR3.out HL6.out)
              go_wp2_with (first | (go_at_call 14; refine (HVa.out _ (by repeat (first | (with_reducible first | exact HB.out | apply below_alloc | apply pw_below_drewN | apply below_drew1) | exact HB.out))).mono ?_; rintro e w' ⟨rfl, rfl⟩) | (go_at_call 14; refine (HVb.out _ (by repeat (first | (with_reducible first | exact HB.out | apply below_alloc | apply pw_below_drewN | apply below_drew1) | exact HB.out))).mono ?_; rintro e w' ⟨rfl, rfl⟩) | ((with_reducible refine gate_dst (N := 89) rfl ?_); (try (refine gate_guard (by rfl) ?_; dsimp only)); refine Kd.R_lit (Kd.int .u8) _ 5 ?hg (N := 89) ?hd (xs := ([] : List Int)) (inner := []) (ok := fun _ => True) (okp := fun _ => True) ?hr ?hp (fun _ hk => hk) trivial (Below.refl _ _) (Nat.le_refl _) (by simp) ?_; (case hd => rfl); (case hg => rfl); (case hr => first | (go_simp; done) | (go_simp; rfl)); (case hp => exact (Reps.none _ _)); intro vHOa wHOa ho hb hg_ hnew_; clear hg_ hnew_; have n0_ := Aside0.mk (Kd.R_lower ho (below_size (by repeat (first | (with_reducible first | exact HB.out | apply below_alloc | apply pw_below_drewN | apply below_drew1) | exact HB.out)))); have n1_ := Aside0.mk (below_step (by repeat (first | (with_reducible first | exact HB.out | apply below_alloc | apply pw_below_drewN | apply below_drew1) | exact HB.out)) hb); clear HB; have HOa := n0_; have HB := n1_; clear n0_ n1_; clear hb ho) | ((with_reducible refine gate_builtin (b := .append) (xs := #[.tmp 89, .tmp 90]) rfl ?_); (try (refine gate_guard (by rfl) ?_; dsimp only)); at_builtin; refine Kd.R_append_rows (Kd.int .u8) (w0 := wq) wq.heap.size rfl (.tmp 89) (.tmp 90) 23 5 (.int .u8 0) 1 rfl Try.underlying23 info5 rfl (by decide) (by omega) vHOa [] l1 _ _ _ (fun _ => True) (fun _ => False) rfl rfl ?aO ?aR (fun _ _ h => h) (fun _ h => h.elim) ?aF ?aB ?aS ?aL ?_; (case aR => repeat (first | exact (Kd.C_below HRq1.out HB.out) | (with_reducible refine Kd.C_alloc ?_ _) | (with_reducible refine Kd.C_drewN ?_ _) | (with_reducible refine Kd.C_drew ?_))); (case aB => exact (by repeat (first | (with_reducible first | exact HB.out | apply below_alloc | apply pw_below_drewN | apply below_drew1) | exact HB.out))); (case aF => exact (fun _ _ => trivial)); (case aO => exact (by (with_reducible repeat (first | apply Kd.R_alloc | apply Kd.R_drewN | apply Kd.R_drew)); exact HOa.out)); (case aS => exact (below_size (by repeat (first | (with_reducible first | exact HB.out | apply below_alloc | apply pw_below_drewN | apply below_drew1) | exact HB.out)))); (case aL => simp only [List.length_nil]; omega); intro vHOb wHOb ho hb hg hat; (try rw [List.nil_append] at ho); have n0_ := Aside0.mk (hb); have n1_ := Aside0.mk (ho); clear HB; clear HOa; have HB := n0_; have HOb := n1_; clear n0_ n1_; clear ho hb hg hat) | ((with_reducible refine gate_builtin (b := .append) (xs := #[.tmp 91, .tmp 92]) rfl ?_); (try (refine gate_guard (by rfl) ?_; dsimp only)); at_builtin; refine Kd.R_append_rows (Kd.int .u8) (w0 := wq) wq.heap.size rfl (.tmp 91) (.tmp 92) 23 5 (.int .u8 0) 1 rfl Try.underlying23 info5 rfl (by decide) (by omega) vHOb l1 l2 _ _ _ (fun _ => True) (fun _ => False) rfl rfl ?aO ?aR (fun _ _ h => h) (fun _ h => h.elim) ?aF ?aB ?aS ?aL ?_; (case aR => repeat (first | exact (Kd.C_below HRq2.out HB.out) | (with_reducible refine Kd.C_alloc ?_ _) | (with_reducible refine Kd.C_drewN ?_ _) | (with_reducible refine Kd.C_drew ?_))); (case aB => exact (by repeat (first | (with_reducible first | exact HB.out | apply below_alloc | apply pw_below_drewN | apply below_drew1) | exact HB.out))); (case aF => exact (fun _ _ => trivial)); (case aO => exact (by (with_reducible repeat (first | apply Kd.R_alloc | apply Kd.R_drewN | apply Kd.R_drew)); exact HOb.out)); (case aS => exact (below_size (by repeat (first | (with_reducible first | exact HB.out | apply below_alloc | apply pw_below_drewN | apply below_drew1) | exact HB.out)))); (case aL => omega); intro vHOc wHOc ho hb hg hat; (try rw [List.nil_append] at ho); rw [← Ny12.out] at ho; have n0_ := Aside0.mk (hb); have n1_ := Aside0.mk (ho); clear HB; clear HOb; have HB := n0_; have HOc := n1_; clear n0_ n1_; clear ho hb hg hat; obtain ⟨Ap, cp, ep⟩ := Kd.R_slice HOc.out; subst ep) | (go_at_call 12; with_reducible refine (rof_calls HM.out _ _ y12 _ ?side1 ?side2 HYa.out (by omega)).mono ?_; (case side1 => repeat (first | exact (Kd.R_reads' HOc.out).2.2 | (with_reducible refine Kd.C_alloc ?_ _) | (with_reducible refine Kd.C_drewN ?_ _) | (with_reducible refine Kd.C_drew ?_))); (case side2 => exact (Kd.R_reads' HOc.out).2.1); rintro e w' ⟨rfl, hb⟩; have n1_ := Aside0.mk (below_step (by repeat (first | (with_reducible first | exact HB.out | apply below_alloc | apply pw_below_drewN | apply below_drew1) | exact HB.out)) hb); clear HB; have HB := n1_; clear n1_ hb) | ((with_reducible refine gate_dst (N := 100) rfl ?_); (try (refine gate_guard (by rfl) ?_; dsimp only)); refine Kd.R_lit (Kd.int .u8) _ 5 ?hg (N := 100) ?hd (xs := ([] : List Int)) (inner := []) (ok := fun _ => True) (okp := fun _ => True) ?hr ?hp (fun _ hk => hk) trivial (Below.refl _ _) (Nat.le_refl _) (by simp) ?_; (case hd => rfl); (case hg => rfl); (case hr => first | (go_simp; done) | (go_simp; rfl)); (case hp => exact (Reps.none _ _)); intro vHOd wHOd ho hb hg_ hnew_; clear hg_ hnew_; have n0_ := Aside0.mk (Kd.R_lower ho (below_size (by repeat (first | (with_reducible first | exact HB.out | apply below_alloc | apply pw_below_drewN | apply below_drew1) | exact HB.out)))); have n1_ := Aside0.mk (below_step (by repeat (first | (with_reducible first | exact HB.out | apply below_alloc | apply pw_below_drewN | apply below_drew1) | exact HB.out)) hb); clear HB; have HOd := n0_; have HB := n1_; clear n0_ n1_; clear hb ho) | ((with_reducible refine gate_builtin (b := .append) (xs := #[.tmp 100, .tmp 101]) rfl ?_); (try (refine gate_guard (by rfl) ?_; dsimp only)); at_builtin; refine Kd.R_append_rows (Kd.int .u8) (w0 := wq) wq.heap.size rfl (.tmp 100) (.tmp 101) 23 5 (.int .u8 0) 1 rfl Try.underlying23 info5 rfl (by decide) (by omega) vHOd [] l1 _ _ _ (fun _ => True) (fun _ => False) rfl rfl ?aO ?aR (fun _ _ h => h) (fun _ h => h.elim) ?aF ?aB ?aS ?aL ?_; (case aR => repeat (first | exact (Kd.C_below HRq1.out HB.out) | (with_reducible refine Kd.C_alloc ?_ _) | (with_reducible refine Kd.C_drewN ?_ _) | (with_reducible refine Kd.C_drew ?_))); (case aB => exact (by repeat (first | (with_reducible first | exact HB.out | apply below_alloc | apply pw_below_drewN | apply below_drew1) | exact HB.out))); (case aF => exact (fun _ _ => trivial)); (case aO => exact (by (with_reducible repeat (first | apply Kd.R_alloc | apply Kd.R_drewN | apply Kd.R_drew)); exact HOd.out)); (case aS => exact (below_size (by repeat (first | (with_reducible first | exact HB.out | apply below_alloc | apply pw_below_drewN | apply below_drew1) | exact HB.out)))); (case aL => simp only [List.length_nil]; omega); intro vHOe wHOe ho hb hg hat; (try rw [List.nil_append] at ho); have n0_ := Aside0.mk (hb); have n1_ := Aside0.mk (ho); clear HB; clear HOd; have HB := n0_; have HOe := n1_; clear n0_ n1_; clear ho hb hg hat) | ((with_reducible refine gate_builtin (b := .append) (xs := #[.tmp 102, .tmp 103]) rfl ?_); (try (refine gate_guard (by rfl) ?_; dsimp only)); at_builtin; refine Kd.R_append_rows (Kd.int .u8) (w0 := wq) wq.heap.size rfl (.tmp 102) (.tmp 103) 23 5 (.int .u8 0) 1 rfl Try.underlying23 info5 rfl (by decide) (by omega) vHOe l1 l3 _ _ _ (fun _ => True) (fun _ => False) rfl rfl ?aO ?aR (fun _ _ h => h) (fun _ h => h.elim) ?aF ?aB ?aS ?aL ?_; (case aR => repeat (first | exact (Kd.C_below HRq3.out HB.out) | (with_reducible refine Kd.C_alloc ?_ _) | (with_reducible refine Kd.C_drewN ?_ _) | (with_reducible refine Kd.C_drew ?_))); (case aB => exact (by repeat (first | (with_reducible first | exact HB.out | apply below_alloc | apply pw_below_drewN | apply below_drew1) | exact HB.out))); (case aF => exact (fun _ _ => trivial)); (case aO => exact (by (with_reducible repeat (first | apply Kd.R_alloc | apply Kd.R_drewN | apply Kd.R_drew)); exact HOe.out)); (case aS => exact (below_size (by repeat (first | (with_reducible first | exact HB.out | apply below_alloc | apply pw_below_drewN | apply below_drew1) | exact HB.out)))); (case aL => omega); intro vHOf wHOf ho hb hg hat; (try rw [List.nil_append] at ho); rw [← Ny13.out] at ho; have n0_ := Aside0.mk (hb); have n1_ := Aside0.mk (ho); clear HB; clear HOe; have HB := n0_; have HOf := n1_; clear n0_ n1_; clear ho hb hg hat; obtain ⟨Aq, cq, eq⟩ := Kd.R_slice HOf.out; subst eq) | (go_at_call 12; with_reducible refine (rof_calls HM.out _ _ y13 _ ?side1 ?side2 HYb.out (by omega)).mono ?_; (case side1 => repeat (first | exact (Kd.R_reads' HOf.out).2.2 | (with_reducible refine Kd.C_alloc ?_ _) | (with_reducible refine Kd.C_drewN ?_ _) | (with_reducible refine Kd.C_drew ?_))); (case side2 => exact (Kd.R_reads' HOf.out).2.1); rintro e w' ⟨rfl, hb⟩; have n1_ := Aside0.mk (below_step (by repeat (first | (with_reducible first | exact HB.out | apply below_alloc | apply pw_below_drewN | apply below_drew1) | exact HB.out)) hb); clear HB; have HB := n1_; clear n1_ hb) | (go_at_call 9; refine (awake_calls _).mono ?_; rintro e w' ⟨rfl, hb⟩; have n1_ := Aside0.mk (below_step (by repeat (first | (with_reducible first | exact HB.out | apply below_alloc | apply pw_below_drewN | apply below_drew1) | exact HB.out)) hb); clear HB; have HB := n1_; clear n1_ hb))
              go_ret
              exact ⟨rfl, HL6.out.trans (HB.out.mono HL6.out.size)⟩
theorem copies_walk (a0 : Int) (a1 : Option Addr) (len1 cap1 : Nat) (z1 : List Int) (a2 : Option Addr) (len2 cap2 : Nat) (z2 : List Int) (a3 : Option Addr) (len3 cap3 : Nat) (z3 : List Int) (w : World) (w0 : (Lit.int .u64 a0).wf = true)
    (w1 : IsRow .u8 w a1 len1 cap1 z1) (_ : len1 * 1 ≤ 140737488351232) (w2 : IsRow .u8 w a2 len2 cap2 z2) (_ : len2 * 1 ≤ 140737488351232) (w3 : IsRow .u8 w a3 len3 cap3 z3) (_ : len3 * 1 ≤ 140737488351232) :
    Calls Try.prog 7 #[.int .u64 a0, .slice a1 len1 cap1, .slice a2 len2 cap2, .slice a3 len3 cap3] w fun e w' => e = .returned (.bool true) ∧ Below w.heap.size w w' := by
  obtain ⟨m, rfl, hu⟩ := of_wf w0
  obtain ⟨l1, rfl, hr1, hb1, hc1⟩ := w1.opened
  obtain ⟨l2, rfl, hr2, hb2, hc2⟩ := w2.opened
  obtain ⟨l3, rfl, hr3, hb3, hc3⟩ := w3.opened
  by_cases h : 200 < l1.length ∨ 200 < l2.length ∨ 200 < l3.length
  · exact copies_long _ a1 a2 a3 _ cap1 _ cap2 _ cap3 w h
  · by_cases hm : May m
    · exact copies_good m hm a1 a2 a3 cap1 cap2 cap3 l1 l2 l3 w h hr1 hr2 hr3 hc1 hc2 hc3 hb1 hb2 hb3
    · exact copies_bad m hu hm a1 a2 a3 _ cap1 _ cap2 _ cap3 w h
end Go.Proofs.Ytmpfngooefpieaa.Law
