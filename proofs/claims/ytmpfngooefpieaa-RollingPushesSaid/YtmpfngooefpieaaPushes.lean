/- RollingPushes: the walk. -/
import Derived.Test.YtmpfngooefpieaaCon
import Derived.Deep.RegionHeld3
namespace Go.Proofs.Ytmpfngooefpieaa.Law
open Go.RowKit Go.Proofs.Ytmpfngooefpieaa Go.Proofs.Ytmpfngooefpieaa.A Go.Proofs.Ytmpfngooefpieaa.Roll Go.Proofs.YtmpfngooefpieaaW.PrintWords Go.Proofs.YtmpfngooefpieaaW.PrintLast Go.Proofs.YtmpfngooefpieaaW.PrintMore
set_option maxRecDepth 100000 in
theorem pushes_long (a0 : Int) (A1 A2 : Option Addr) (n1 c1 n2 c2 : Nat) (w : World) (h : 200 < n1 ∨ 200 < n2) :
    Calls Try.prog 6 #[.int .u64 a0, .slice A1 n1 c1, .slice A2 n2 c2] w fun e w' => e = .returned (.bool true) ∧ Below w.heap.size w w' := by
  by_cases h1 : 200 < (n1 : Int)
  · have b1 := decide_eq_true h1
    clear h h1
    go_enter Try.func6, Try.ntmps6
    go_wp2_with (first | (go_at_call 9; refine (awake_calls _).mono ?_; rintro e w' ⟨rfl, hb⟩))
    go_ret
    exact ⟨rfl, hb⟩
  · have b1 := decide_eq_false h1
    have b2 := decide_eq_true (show 200 < (n2 : Int) by omega)
    clear h h1
    go_enter Try.func6, Try.ntmps6
    go_wp2_with (first | (go_at_call 9; refine (awake_calls _).mono ?_; rintro e w' ⟨rfl, hb⟩))
    go_ret
    exact ⟨rfl, hb⟩
set_option maxRecDepth 100000 in
theorem pushes_bad (m : Nat) (hu : U m) (hm : ¬ May m) (A1 A2 : Option Addr) (n1 c1 n2 c2 : Nat) (w : World) (h : ¬ (200 < n1 ∨ 200 < n2)) :
    Calls Try.prog 6 #[.int .u64 (m : Int), .slice A1 n1 c1, .slice A2 n2 c2] w fun e w' => e = .returned (.bool true) ∧ Below w.heap.size w w' := by
  have b1 : decide (200 < (n1 : Int)) = false := decide_eq_false (by omega)
  have b2 : decide (200 < (n2 : Int)) = false := decide_eq_false (by omega)
  have HM := Aside0.mk hm
  have HU := Aside0.mk hu
  clear h
  go_enter Try.func6, Try.ntmps6
  go_wp2_with (first | (go_at_call 9; refine (awake_calls _).mono ?_; rintro e w' ⟨rfl, hb⟩) | (go_at_call 13; refine (inv_bad HU.out HM.out _).mono ?_; rintro e w' ⟨rfl, ⟨n, rfl⟩⟩) | (go_at_call 11; refine (right_no HU.out HM.out _).mono ?_; rintro e w' ⟨rfl, ⟨n, rfl⟩⟩))
  go_ret
  exact ⟨rfl, (pw_below_drewN (Below.refl w.heap.size w) _).trans hb⟩
theorem index0 (x y : Value) (w : World) : Sem.run Try.prog (Instr.index 38 (Value.agg #[x, y]) (Value.int .i64 0)) w = .ok x w := by kernel_rfl
theorem index1 (x y : Value) (w : World) : Sem.run Try.prog (Instr.index 38 (Value.agg #[x, y]) (Value.int .i64 1)) w = .ok y w := by kernel_rfl
set_option maxHeartbeats 600000 in
set_option maxRecDepth 100000 in
theorem pushes_good (m : Nat) (hm : May m) (A1 A2 : Option Addr) (c1 c2 : Nat) (l1 l2 : List Int) (w : World) (h : ¬ (200 < l1.length ∨ 200 < l2.length))
    (hr1 : Kd.C (Kd.int .u8) w A1 l1.length l1) (hr2 : Kd.C (Kd.int .u8) w A2 l2.length l2) (hc1 : l1.length ≤ c1) (hc2 : l2.length ≤ c2) (hb1 : Bytes l1) (hb2 : Bytes l2) :
    Calls Try.prog 6 #[.int .u64 (m : Int), .slice A1 l1.length c1, .slice A2 l2.length c2] w fun e w' => e = .returned (.bool true) ∧ Below w.heap.size w w' := by
  have b1 : decide (200 < (l1.length : Int)) = false := decide_eq_false (by omega)
  have b2 : decide (200 < (l2.length : Int)) = false := decide_eq_false (by omega)
  have HM := Aside0.mk hm
  have HR1 := Aside0.mk hr1
  have HR2 := Aside0.mk hr2
  have HC1 := Aside0.mk hc1
  have HC2 := Aside0.mk hc2
  have HX1 := Aside0.mk hb1
  have HX2 := Aside0.mk hb2
  have hn1 : l1.length ≤ 200 := by omega
  have hn2 : l2.length ≤ 200 := by omega
  clear hm hr1 hr2 hc1 hc2 hb1 hb2 h
  have FZ : (fp m zeroWin : Int) = 0 := by rw [fp_zero]; rfl
  have kx0 : ∀ w : World, Sem.run Try.prog (Instr.index 38 (Value.agg #[.slice A1 l1.length c1, .slice A2 l2.length c2]) (Value.int .i64 0)) w = .ok (.slice A1 l1.length c1) w := index0 _ _
  have kx1 : ∀ w : World, Sem.run Try.prog (Instr.index 38 (Value.agg #[.slice A1 l1.length c1, .slice A2 l2.length c2]) (Value.int .i64 1)) w = .ok (.slice A2 l2.length c2) w := index1 _ _
  go_enter Try.func6, Try.ntmps6
  go_wp2_with (first | (go_at_call 13; refine (inv_new HM.out _).mono ?_; rintro e w' ⟨g, hg, rfl, hi, hbe⟩; have HI := Aside0.mk hi; have HL := Aside0.mk hbe; clear hi hbe) | (go_at_call 11; refine (right_yes HM.out _).mono ?_; rintro e w2 ⟨rfl, ⟨nd, rfl⟩⟩) | (go_at_call 14; refine (inv_value (HI.out.drewN nd)).mono ?_; rw [FZ]; rintro e w2 ⟨rfl, rfl⟩))
  have HL2 := Aside0.mk (pw_below_drewN HL.out nd)
  have HI2 := Aside0.mk (HI.out.drewN nd)
  clear HL HI
  generalize w'.drewN nd = wn at *
  go_loopw [53] (fun v wr => ∃ (i : Int), (i = 0 ∨ i = 1 ∨ i = 2) ∧ v = .int .i64 i ∧ Aside0 (Inv wr g m zeroWin) ∧ Aside0 (Below w.heap.size w wr)) (fun v _ => 2 - (intOf v).toNat)
  case atStart => exact ⟨0, by omega, rfl, HI2, HL2⟩
  case round =>
    obtain ⟨i, hi, rfl, HBr, HWr⟩ := hrel
    obtain ⟨wo, rfl⟩ : ∃ wo : World, wo = wr := ⟨_, rfl⟩
    clear HI2 HL2
    rcases hi with rfl | rfl | rfl
    · go_wp2
      go_loopw [58] (fun v wr => ∃ (i : Nat), i ≤ l1.length ∧ v = .int .i64 i ∧ Aside0 (Inv wr g m (pushed zeroWin ((nat l1).take i))) ∧ Aside0 (Below w.heap.size w wr)) (fun v _ => l1.length - (intOf v).toNat)
      case atStart => exact ⟨0, by omega, rfl, HBr, HWr⟩
      case round =>
        obtain ⟨i, hi, rfl, HBs, HWs⟩ := hrel
        obtain ⟨ws, rfl⟩ : ∃ ws : World, ws = wr := ⟨_, rfl⟩
        by_cases hlt : i < l1.length
        · have hltb : decide ((i : Int) < (l1.length : Int)) = true := decide_eq_true (by omega)
          obtain ⟨ad, hA2, hcell⟩ := Kd.at_int (Kd.C_below HR1.out HWs.out) (i : Int) (by omega) (by omega)
          obtain rfl := hA2
          obtain ⟨hbb, hst⟩ := rd_push HX1.out (L := zeroWin) hlt
          obtain ⟨b, hb⟩ : ∃ b : Nat, rd l1 (i : Int) = b := ⟨_, (Int.toNat_of_nonneg hbb.1).symm⟩
          rw [hb] at hbb hst
          replace hcell : ws.cell? (ad.add i) = some (.int .u8 (b : Int)) := by rw [hb] at hcell; exact hcell
          have HS := Aside0.mk hst
          clear hb hst
          go_wp2
          have hct := Kd.C_take HR1.out (m := i + 1) (by omega)
          have HCT := Aside0.mk hct
          have hcb : (l1.take (i + 1)).length ≤ c1 := by rw [List.length_take]; have := HC1.out; omega
          have HBT := Aside0.mk (show Bytes (l1.take (i + 1)) from fun x hx => HX1.out x (List.mem_of_mem_take hx))
          have hlt2 : (l1.take (i + 1)).length = i + 1 := by rw [List.length_take]; omega
          have hfpo : fpo m (l1.take (i + 1)) = fp m ((pushed zeroWin ((nat l1).take i)).tail ++ [b]) := by unfold fpo; rw [← nat_take, HS.out]; rfl
          clear hct
          generalize l1.take (i + 1) = lt at *
          have HPush : Aside0 (∀ W, Inv W g m (pushed zeroWin ((nat l1).take i)) → Below w.heap.size w W → Calls Try.prog 15 #[.pointer (some ⟨g, 0, none⟩), .int .u8 (b : Int)] W fun e w' => e = .returned (.int .u64 (fpo m lt : Int)) ∧ Inv w' g m (pushed zeroWin ((nat l1).take (i + 1))) ∧ Below w.heap.size w w') := ⟨fun W hI hB => by
            refine (inv_push HM.out hI (b := b) (by omega)).mono ?_
            rw [hfpo]
            rintro e w' ⟨he, h2, ho⟩
            exact ⟨he, by rw [HS.out]; exact h2, hB.trans (ho.below hg)⟩⟩
          have HOf : Aside0 (∀ W, Below w.heap.size w W → Inv W g m (pushed zeroWin ((nat l1).take (i + 1))) → Calls Try.prog 12 #[.int .u64 (m : Int), .slice (some ad) (i + 1) c1] W fun e w' => e = .returned (.int .u64 (fpo m lt : Int)) ∧ Inv w' g m (pushed zeroWin ((nat l1).take (i + 1))) ∧ Below w.heap.size w w') := ⟨fun W hB hI => by
            have := rof_calls HM.out (some ad) c1 lt W (Kd.C_below HCT.out hB) hcb HBT.out (by omega)
            rw [hlt2] at this
            refine this.mono ?_
            rintro e w' ⟨he, hb⟩
            exact ⟨he, hI.below hb hI.lt, hB.trans (hb.mono hB.size)⟩⟩
          have HVal : Aside0 (∀ W, Inv W g m (pushed zeroWin ((nat l1).take (i + 1))) → Calls Try.prog 14 #[.pointer (some ⟨g, 0, none⟩)] W fun e w' => e = .returned (.int .u64 (fpo m lt : Int)) ∧ W = w') := ⟨fun W hI => by
            have := inv_value hI
            rw [HS.out, show (b : Int).toNat = b from rfl, ← hfpo] at this; exact this⟩
          have HBd : Aside0 (Inv ws.drew g m (pushed zeroWin ((nat l1).take i))) := ⟨HBs.out.drewN 1⟩
          have HWd := Aside0.mk (below_drew HWs.out)
          clear HBs HWs hfpo HS
          have hle : (i : Int) + 1 ≤ (c1 : Int) := by have := HC1.out; omega
          have hge : 0 ≤ (i : Int) + 1 := by omega
          have htn : ((i : Int) + 1).toNat = i + 1 := by omega
          have hw2 : wrap64 ((i : Int) + 1) = (i : Int) + 1 := w64 (by omega) (by omega)
          have hw1 : IntKind.i64.wrap ((i : Int) + 1) = (i : Int) + 1 := (Go.IntWalk.i64_left _).trans hw2
          generalize (fpo m lt : Int) = V at *
          go_region_held3 (fun w' => True) (exact trivial) (first | (go_at_call 15; refine (HPush.out _ HBd.out HWd.out).mono ?_; rintro e w2 ⟨rfl, hi2, ho2⟩; have HI2 := Aside0.mk hi2; have HL2 := Aside0.mk ho2; clear hi2 ho2) | (go_at_call 12; refine (HOf.out _ HL2.out HI2.out).mono ?_; rintro e w3 ⟨rfl, hi2, ho2⟩; have HI3 := Aside0.mk hi2; have HL3 := Aside0.mk ho2; clear hi2 ho2 HI2 HL2; have HI2 := HI3; have HL2 := HL3; clear HI3 HL3) | (go_at_call 14; refine (HVal.out _ HI2.out).mono ?_; rintro e w3 ⟨rfl, rfl⟩))
          clear hw1 hw2 HPush HOf HVal
          go_wp2
          go_roundw
          case rel => exact ⟨i + 1, by omega, by go_num, HI2, HL2⟩
          case measure => simp [intOf]; omega
        · have hlt2 : i = l1.length := by omega
          have hltb : decide ((i : Int) < (l1.length : Int)) = false := decide_eq_false (by omega)
          go_wp2_with (first | (go_at_call 16; refine (inv_reset HBs.out).mono ?_; rintro e w2 ⟨rfl, hi2, ho2⟩; have HI2 := Aside0.mk hi2; have HL2 := Aside0.mk (HWs.out.trans (ho2.below hg)); clear hi2 ho2) | (go_at_call 14; refine (inv_value HI2.out).mono ?_; rw [FZ]; rintro e w3 ⟨rfl, rfl⟩))
          go_roundw
          case rel => exact ⟨1, by omega, by go_num, HI2, HL2⟩
          case measure => simp [intOf]
    · go_wp2
      go_loopw [58] (fun v wr => ∃ (i : Nat), i ≤ l2.length ∧ v = .int .i64 i ∧ Aside0 (Inv wr g m (pushed zeroWin ((nat l2).take i))) ∧ Aside0 (Below w.heap.size w wr)) (fun v _ => l2.length - (intOf v).toNat)
      case atStart => exact ⟨0, by omega, rfl, HBr, HWr⟩
      case round =>
        obtain ⟨i, hi, rfl, HBs, HWs⟩ := hrel
        obtain ⟨ws, rfl⟩ : ∃ ws : World, ws = wr := ⟨_, rfl⟩
        by_cases hlt : i < l2.length
        · have hltb : decide ((i : Int) < (l2.length : Int)) = true := decide_eq_true (by omega)
          obtain ⟨ad, hA2, hcell⟩ := Kd.at_int (Kd.C_below HR2.out HWs.out) (i : Int) (by omega) (by omega)
          obtain rfl := hA2
          obtain ⟨hbb, hst⟩ := rd_push HX2.out (L := zeroWin) hlt
          obtain ⟨b, hb⟩ : ∃ b : Nat, rd l2 (i : Int) = b := ⟨_, (Int.toNat_of_nonneg hbb.1).symm⟩
          rw [hb] at hbb hst
          replace hcell : ws.cell? (ad.add i) = some (.int .u8 (b : Int)) := by rw [hb] at hcell; exact hcell
          have HS := Aside0.mk hst
          clear hb hst
          go_wp2
          have hct := Kd.C_take HR2.out (m := i + 1) (by omega)
          have HCT := Aside0.mk hct
          have hcb : (l2.take (i + 1)).length ≤ c2 := by rw [List.length_take]; have := HC2.out; omega
          have HBT := Aside0.mk (show Bytes (l2.take (i + 1)) from fun x hx => HX2.out x (List.mem_of_mem_take hx))
          have hlt2 : (l2.take (i + 1)).length = i + 1 := by rw [List.length_take]; omega
          have hfpo : fpo m (l2.take (i + 1)) = fp m ((pushed zeroWin ((nat l2).take i)).tail ++ [b]) := by unfold fpo; rw [← nat_take, HS.out]; rfl
          clear hct
          generalize l2.take (i + 1) = lt at *
          have HPush : Aside0 (∀ W, Inv W g m (pushed zeroWin ((nat l2).take i)) → Below w.heap.size w W → Calls Try.prog 15 #[.pointer (some ⟨g, 0, none⟩), .int .u8 (b : Int)] W fun e w' => e = .returned (.int .u64 (fpo m lt : Int)) ∧ Inv w' g m (pushed zeroWin ((nat l2).take (i + 1))) ∧ Below w.heap.size w w') := ⟨fun W hI hB => by
            refine (inv_push HM.out hI (b := b) (by omega)).mono ?_
            rw [hfpo]
            rintro e w' ⟨he, h2, ho⟩
            exact ⟨he, by rw [HS.out]; exact h2, hB.trans (ho.below hg)⟩⟩
          have HOf : Aside0 (∀ W, Below w.heap.size w W → Inv W g m (pushed zeroWin ((nat l2).take (i + 1))) → Calls Try.prog 12 #[.int .u64 (m : Int), .slice (some ad) (i + 1) c2] W fun e w' => e = .returned (.int .u64 (fpo m lt : Int)) ∧ Inv w' g m (pushed zeroWin ((nat l2).take (i + 1))) ∧ Below w.heap.size w w') := ⟨fun W hB hI => by
            have := rof_calls HM.out (some ad) c2 lt W (Kd.C_below HCT.out hB) hcb HBT.out (by omega)
            rw [hlt2] at this
            refine this.mono ?_
            rintro e w' ⟨he, hb⟩
            exact ⟨he, hI.below hb hI.lt, hB.trans (hb.mono hB.size)⟩⟩
          have HVal : Aside0 (∀ W, Inv W g m (pushed zeroWin ((nat l2).take (i + 1))) → Calls Try.prog 14 #[.pointer (some ⟨g, 0, none⟩)] W fun e w' => e = .returned (.int .u64 (fpo m lt : Int)) ∧ W = w') := ⟨fun W hI => by
            have := inv_value hI
            rw [HS.out, show (b : Int).toNat = b from rfl, ← hfpo] at this; exact this⟩
          have HBd : Aside0 (Inv ws.drew g m (pushed zeroWin ((nat l2).take i))) := ⟨HBs.out.drewN 1⟩
          have HWd := Aside0.mk (below_drew HWs.out)
          clear HBs HWs hfpo HS
          have hle : (i : Int) + 1 ≤ (c2 : Int) := by have := HC2.out; omega
          have hge : 0 ≤ (i : Int) + 1 := by omega
          have htn : ((i : Int) + 1).toNat = i + 1 := by omega
          have hw2 : wrap64 ((i : Int) + 1) = (i : Int) + 1 := w64 (by omega) (by omega)
          have hw1 : IntKind.i64.wrap ((i : Int) + 1) = (i : Int) + 1 := (Go.IntWalk.i64_left _).trans hw2
          generalize (fpo m lt : Int) = V at *
          go_region_held3 (fun w' => True) (exact trivial) (first | (go_at_call 15; refine (HPush.out _ HBd.out HWd.out).mono ?_; rintro e w2 ⟨rfl, hi2, ho2⟩; have HI2 := Aside0.mk hi2; have HL2 := Aside0.mk ho2; clear hi2 ho2) | (go_at_call 12; refine (HOf.out _ HL2.out HI2.out).mono ?_; rintro e w3 ⟨rfl, hi2, ho2⟩; have HI3 := Aside0.mk hi2; have HL3 := Aside0.mk ho2; clear hi2 ho2 HI2 HL2; have HI2 := HI3; have HL2 := HL3; clear HI3 HL3) | (go_at_call 14; refine (HVal.out _ HI2.out).mono ?_; rintro e w3 ⟨rfl, rfl⟩))
          clear hw1 hw2 HPush HOf HVal
          go_wp2
          go_roundw
          case rel => exact ⟨i + 1, by omega, by go_num, HI2, HL2⟩
          case measure => simp [intOf]; omega
        · have hlt2 : i = l2.length := by omega
          have hltb : decide ((i : Int) < (l2.length : Int)) = false := decide_eq_false (by omega)
          go_wp2_with (first | (go_at_call 16; refine (inv_reset HBs.out).mono ?_; rintro e w2 ⟨rfl, hi2, ho2⟩; have HI2 := Aside0.mk hi2; have HL2 := Aside0.mk (HWs.out.trans (ho2.below hg)); clear hi2 ho2) | (go_at_call 14; refine (inv_value HI2.out).mono ?_; rw [FZ]; rintro e w3 ⟨rfl, rfl⟩))
          go_roundw
          case rel => exact ⟨2, by omega, by go_num, HI2, HL2⟩
          case measure => simp [intOf]
    · go_wp2_with (first | (go_at_call 9; refine (awake_calls _).mono ?_; rintro e w2 ⟨rfl, hb⟩))
      go_ret
      exact ⟨rfl, HWr.out.trans (hb.mono HWr.out.size)⟩
theorem pushes_walk (a0 : Int) (a1 : Option Addr) (len1 cap1 : Nat) (z1 : List Int) (a2 : Option Addr) (len2 cap2 : Nat) (z2 : List Int) (w : World) (w0 : (Lit.int .u64 a0).wf = true)
    (w1 : IsRow .u8 w a1 len1 cap1 z1) (_ : len1 * 1 ≤ 140737488351232) (w2 : IsRow .u8 w a2 len2 cap2 z2) (_ : len2 * 1 ≤ 140737488351232) :
    Calls Try.prog 6 #[.int .u64 a0, .slice a1 len1 cap1, .slice a2 len2 cap2] w fun e w' => e = .returned (.bool true) ∧ Below w.heap.size w w' := by
  obtain ⟨m, rfl, hu⟩ := of_wf w0
  obtain ⟨l1, rfl, hr1, hb1, hc1⟩ := w1.opened
  obtain ⟨l2, rfl, hr2, hb2, hc2⟩ := w2.opened
  by_cases h : 200 < l1.length ∨ 200 < l2.length
  · exact pushes_long _ a1 a2 _ cap1 _ cap2 w h
  · by_cases hm : May m
    · exact pushes_good m hm a1 a2 cap1 cap2 l1 l2 w h hr1 hr2 hc1 hc2 hb1 hb2
    · exact pushes_bad m hu hm a1 a2 _ cap1 _ cap2 w h
end Go.Proofs.Ytmpfngooefpieaa.Law
