-- Written by this session's own program (wip/tools/printx.py, over the kit's printer), with texts by hand laid in.
import Derived.Test.YthpgbhpnlnpfnaaDoorEx0
namespace Go.Proofs.YthpgbhpnlnpfnaaDoor.E
open Go.RowKit Go.Proofs.YthpgbhpnlnpfnaaDoorW.PrintWords Go.Proofs.YthpgbhpnlnpfnaaDoorW.PrintLast Go.Proofs.YthpgbhpnlnpfnaaDoorW.PrintMore
attribute [local go_sem] max2_int min2_int max_two min_two max_three min_three max_four min_four   -- for this text's walks alone
set_option linter.unusedVariables false
set_option linter.unusedSimpArgs false

/-! ### hypogeumlaw21_few: function 11 -/
def hypogeumlaw21_few.l0 : Nat → List (S56) → Int → Int → Option (Bool)
  | 0, _, _, _ => none
  | k + 1, x0, x3, x4 => if x4 < (x0.length : Int) then (if x4 ≤ 100 then (if 0 ≤ x4 then (hypogeumlaw21_few.l0 k x0 (wrap64 (x3 + ((mn (((rd_T56 x0 x4).f3).length : Int) 20000) + (mn (((rd_T56 x0 x4).f1).size : Int) 20000)))) (wrap64 (x4 + 1))) else (none)) else (if (x0.length : Int) ≤ 100 then (some (decide (x3 ≤ 20000))) else (some false))) else (if (x0.length : Int) ≤ 100 then (some (decide (x3 ≤ 20000))) else (some false))
def hypogeumlaw21_few.f (k : Nat) (l0 : List (S56)) : Option (Bool) := hypogeumlaw21_few.l0 k l0 0 0
theorem hypogeumlaw21_few.mono_l : ∀ k, (∀ y0 y1 y2, LeO (hypogeumlaw21_few.l0 k y0 y1 y2) (hypogeumlaw21_few.l0 (k + 1) y0 y1 y2))
  | 0 => fun _ _ _ r h => by simp [hypogeumlaw21_few.l0] at h
  | k + 1 => by
    have ih0 := hypogeumlaw21_few.mono_l k
    · intro y0 y1 y2
      unfold hypogeumlaw21_few.l0
      repeat' first
      | (with_reducible exact ih0 _ _ _)
      | (with_reducible exact LeO.refl _)
      | (with_reducible exact LeO.none _)
      | (with_reducible refine LeO.ite ?_ ?_)
      | (with_reducible refine LeO.bind ?_ (fun _ => ?_))
      | exact ih0 _ _ _
      | exact LeO.none _
      | refine LeO.ite ?_ ?_
      | refine LeO.bind ?_ (fun _ => ?_)
theorem hypogeumlaw21_few.mono : ∀ a0 k, LeO (hypogeumlaw21_few.f k a0) (hypogeumlaw21_few.f (k + 1) a0) := by
  intro a0 k
  have ih0 := hypogeumlaw21_few.mono_l k
  unfold hypogeumlaw21_few.f
  repeat' first
      | (with_reducible exact ih0 _ _ _)
      | (with_reducible exact LeO.refl _)
      | (with_reducible exact LeO.none _)
      | (with_reducible refine LeO.ite ?_ ?_)
      | (with_reducible refine LeO.bind ?_ (fun _ => ?_))
      | exact ih0 _ _ _
      | exact LeO.none _
      | refine LeO.ite ?_ ?_
      | refine LeO.bind ?_ (fun _ => ?_)
set_option maxHeartbeats 8000000 in
set_option maxRecDepth 100000 in
theorem hypogeumlaw21_few.calls (k : Nat) (A0 : Option Addr) (c0 : Nat) (l0 : List (S56)) (r : Bool) (w : World) (hr0 : Kd.C k56 w A0 l0.length l0) (hc0 : l0.length ≤ c0) (h : hypogeumlaw21_few.f k l0 = some r) :
    Calls Tryd.prog 11 #[.slice A0 l0.length c0] w fun e w' => e = .returned (.bool r) ∧ Below w.heap.size w w' := by
  have HR0 := Aside0.mk hr0
  have HC0 := Aside0.mk hc0
  clear hr0 hc0
  have HB := Aside0.mk (Below.refl w.heap.size w)
  have H : (hypogeumlaw21_few.l0 k l0 0 0) = some r := h
  clear h
  have H' := Aside0.mk H
  clear H
  go_enter Tryd.func11, Tryd.ntmps11
  go_wp2
  repeat (go_quiet (fail); try go_wp2)
  go_loopg [3, 4] k (fun kq v3 v4 w' => ∃ (x3_1 : Int) (x4_1 : Int), v3 = .int .i64 x3_1 ∧ v4 = .int .i64 x4_1 ∧ Aside0 (hypogeumlaw21_few.l0 kq l0 x3_1 x4_1 = some r) ∧ Aside0 (kq ≤ k) ∧ Aside0 (Below w.heap.size w w'))
  case atStart => exact ⟨(0), (0), (by first | rfl | (simp; done) | (simp [*]; done)), (by first | rfl | (simp; done) | (simp [*]; done)), H', ⟨Nat.le_refl _⟩, ⟨by repeat (first | (with_reducible first | exact HB.out | apply below_alloc | apply pw_below_drewN | apply below_drew1) | exact HB.out)⟩⟩
  case round =>
    clear H'
    try clear c1
    obtain ⟨x3_1, x4_1, rfl, rfl, HA, HK1, HB⟩ := hrel
    cases gk with
    | zero => exact absurd HA.out (by simp [hypogeumlaw21_few.l0])
    | succ k1 =>
      have H := HA.out
      clear HA
      simp only [hypogeumlaw21_few.l0] at H
      by_cases c2 : x4_1 < (l0.length : Int)
      · rw [if_pos c2] at H
        have c2b0 : decide (x4_1 < (l0.length : Int)) = true := decide_eq_true c2
        clear c2
        by_cases c3 : x4_1 ≤ 100
        · rw [if_pos c3] at H
          have c3b0 : decide (x4_1 ≤ 100) = true := decide_eq_true c3
          clear c3
          by_cases c4 : 0 ≤ x4_1
          · rw [if_pos c4] at H
            have c4b0 : decide (0 ≤ x4_1) = true := decide_eq_true c4
            clear c4
            obtain ⟨ji5, hji5⟩ : ∃ j_ : Int, (mn (((rd_T56 l0 x4_1).f3).length : Int) 20000) = j_ := ⟨_, rfl⟩
            replace H : (hypogeumlaw21_few.l0 k1 l0 (wrap64 (x3_1 + ((ji5) + (mn (((rd_T56 l0 x4_1).f1).size : Int) 20000)))) (wrap64 (x4_1 + 1))) = some r := by first | (rw [hji5] at H; exact H) | (simp only [hji5] at H ⊢; exact H)
            have hji5_ : (if 20000 < (((rd_T56 l0 x4_1).f3).length : Int) then 20000 else (((rd_T56 l0 x4_1).f3).length : Int)) = ji5 := hji5
            obtain ⟨ji6, hji6⟩ : ∃ j_ : Int, (mn (((rd_T56 l0 x4_1).f1).size : Int) 20000) = j_ := ⟨_, rfl⟩
            replace H : (hypogeumlaw21_few.l0 k1 l0 (wrap64 (x3_1 + ((ji5) + (ji6)))) (wrap64 (x4_1 + 1))) = some r := by first | (rw [hji6] at H; exact H) | (simp only [hji6] at H ⊢; exact H)
            have hji6_ : (if 20000 < (((rd_T56 l0 x4_1).f1).size : Int) then 20000 else (((rd_T56 l0 x4_1).f1).size : Int)) = ji6 := hji6
            have H' := Aside0.mk H
            clear H
            have p101 : 0 ≤ (x4_1 : Int) := of_decide_eq_true (by first | (with_reducible assumption) | assumption)
            have q101 : x4_1 < (l0.length : Int) := of_decide_eq_true (by first | (with_reducible assumption) | assumption)
            obtain ⟨ad101, A101_3, c101_3, e101, hx101_0, hx101_1, hx101_2, hx101_3, hl101_3, hi101_3⟩ := at_T56 HR0.out x4_1 p101 q101
            cases e101
            replace hx101_0 := (HB.out.cell (World.block_lt_of_cell? w _ hx101_0)).trans hx101_0
            replace hx101_1 := (HB.out.cell (World.block_lt_of_cell? w _ hx101_1)).trans hx101_1
            replace hx101_2 := (HB.out.cell (World.block_lt_of_cell? w _ hx101_2)).trans hx101_2
            replace hx101_3 := (HB.out.cell (World.block_lt_of_cell? w _ hx101_3)).trans hx101_3
            have HR101_3 := Aside0.mk hi101_3
            have HC101_3 := Aside0.mk hl101_3
            clear hi101_3 hl101_3
            replace p101 := eq_true p101
            replace q101 := eq_true q101
            have p102 : 0 ≤ (x4_1 : Int) := of_decide_eq_true (by first | (with_reducible assumption) | assumption)
            have q102 : x4_1 < (l0.length : Int) := of_decide_eq_true (by first | (with_reducible assumption) | assumption)
            obtain ⟨ad102, A102_3, c102_3, e102, hx102_0, hx102_1, hx102_2, hx102_3, hl102_3, hi102_3⟩ := at_T56 HR0.out x4_1 p102 q102
            obtain rfl : ad101 = ad102 := (by injection e102)
            replace hx102_0 := (HB.out.cell (World.block_lt_of_cell? w _ hx102_0)).trans hx102_0
            replace hx102_1 := (HB.out.cell (World.block_lt_of_cell? w _ hx102_1)).trans hx102_1
            replace hx102_2 := (HB.out.cell (World.block_lt_of_cell? w _ hx102_2)).trans hx102_2
            replace hx102_3 := (HB.out.cell (World.block_lt_of_cell? w _ hx102_3)).trans hx102_3
            have HR102_3 := Aside0.mk hi102_3
            have HC102_3 := Aside0.mk hl102_3
            clear hi102_3 hl102_3
            replace p102 := eq_true p102
            replace q102 := eq_true q102
            have ea_ := Option.some.inj (hx101_3.symm.trans hx102_3)
            injection ea_ with ea_ en_ ec_
            subst ea_
            subst ec_
            clear en_
            go_wp2
            repeat (go_quiet (fail); try go_wp2)
            go_roundg k1
            case measure => have := HK1.out; omega
            case rel => exact ⟨(wrap64 (x3_1 + ((ji5) + (ji6)))), (wrap64 (x4_1 + 1)), (by first | rfl | (simp; done) | (simp only [← hji5, ← hji6] <;> (first | rfl | simp)) | (simp [*]; done)), (by first | rfl | (simp; done) | (simp [*]; done)), H', ⟨by have := HK1.out; omega⟩, ⟨by repeat (first | (with_reducible first | exact HB.out | apply below_alloc | apply pw_below_drewN | apply below_drew1) | exact HB.out)⟩⟩
          · rw [if_neg c4] at H
            exact absurd H (by simp)
        · rw [if_neg c3] at H
          have c3b0 : decide (x4_1 ≤ 100) = false := decide_eq_false c3
          clear c3
          by_cases c7 : (l0.length : Int) ≤ 100
          · rw [if_pos c7] at H
            have c7b0 : decide ((l0.length : Int) ≤ 100) = true := decide_eq_true c7
            have c7b1 : decide (l0.length ≤ 100) = true := decide_eq_true (by omega)
            clear c7
            obtain rfl := Option.some.inj H
            go_wp2
            repeat (go_quiet (fail); try go_wp2)
            go_ret
            exact ⟨by first | rfl | (simp [errW_none, errW_some] <;> rfl) | (simp [*, errW_none, errW_some] <;> rfl), by repeat (first | (with_reducible first | exact HB.out | apply below_alloc | apply pw_below_drewN | apply below_drew1) | exact HB.out)⟩
          · rw [if_neg c7] at H
            have c7b0 : decide ((l0.length : Int) ≤ 100) = false := decide_eq_false c7
            have c7b1 : decide (l0.length ≤ 100) = false := decide_eq_false (by omega)
            clear c7
            obtain rfl := Option.some.inj H
            go_wp2
            repeat (go_quiet (fail); try go_wp2)
            go_ret
            exact ⟨by first | rfl | (simp [errW_none, errW_some] <;> rfl) | (simp [*, errW_none, errW_some] <;> rfl), by repeat (first | (with_reducible first | exact HB.out | apply below_alloc | apply pw_below_drewN | apply below_drew1) | exact HB.out)⟩
      · rw [if_neg c2] at H
        have c2b0 : decide (x4_1 < (l0.length : Int)) = false := decide_eq_false c2
        clear c2
        by_cases c8 : (l0.length : Int) ≤ 100
        · rw [if_pos c8] at H
          have c8b0 : decide ((l0.length : Int) ≤ 100) = true := decide_eq_true c8
          have c8b1 : decide (l0.length ≤ 100) = true := decide_eq_true (by omega)
          clear c8
          obtain rfl := Option.some.inj H
          go_wp2
          repeat (go_quiet (fail); try go_wp2)
          go_ret
          exact ⟨by first | rfl | (simp [errW_none, errW_some] <;> rfl) | (simp [*, errW_none, errW_some] <;> rfl), by repeat (first | (with_reducible first | exact HB.out | apply below_alloc | apply pw_below_drewN | apply below_drew1) | exact HB.out)⟩
        · rw [if_neg c8] at H
          have c8b0 : decide ((l0.length : Int) ≤ 100) = false := decide_eq_false c8
          have c8b1 : decide (l0.length ≤ 100) = false := decide_eq_false (by omega)
          clear c8
          obtain rfl := Option.some.inj H
          go_wp2
          repeat (go_quiet (fail); try go_wp2)
          go_ret
          exact ⟨by first | rfl | (simp [errW_none, errW_some] <;> rfl) | (simp [*, errW_none, errW_some] <;> rfl), by repeat (first | (with_reducible first | exact HB.out | apply below_alloc | apply pw_below_drewN | apply below_drew1) | exact HB.out)⟩

/-! ### node_Name: function 18 -/
/-- a text that is a name -/
def NameP (s : ByteArray) : Prop := 1 ≤ s.size ∧ s.size ≤ 32 ∧ s.toList ≠ [46] ∧ s.toList ≠ [46, 46] ∧ ∀ i, i < s.size → bt s (i : Int) ≠ 0 ∧ bt s (i : Int) ≠ 47
instance (s : ByteArray) : Decidable (NameP s) := by unfold NameP; infer_instance
def nameB (s : ByteArray) : Bool := decide (NameP s)
theorem n64 {n : Int} (h0 : -9223372036854775808 ≤ n) (h1 : n ≤ 9223372036854775807) : wrap64 n = n := by unfold wrap64; omega
def node_Name.f (s : ByteArray) : Option Bool := some (nameB s)
set_option maxHeartbeats 4000000 in
set_option maxRecDepth 100000 in
theorem node_Name.same (s : ByteArray) (w : World) : Calls Tryd.prog 18 #[.string s] w fun e w' => e = .returned (.bool (nameB s)) ∧ w' = w := by
  by_cases h1 : s.size < 1
  · have b1 : decide ((s.size : Int) < 1) = true := decide_eq_true (by omega)
    have b1n : decide (s.size < 1) = true := decide_eq_true h1
    have HN := Aside0.mk (show nameB s = false from decide_eq_false (fun n => by have := n.1; omega))
    clear h1
    go_enter Tryd.func18, Tryd.ntmps18
    go_wp2_with fail
    refine wp_scope_straight ?_
    go_wp2
    rw [Exit.noGoto_ret]
    go_ret
    exact ⟨by rw [HN.out]; rfl, rfl⟩
  have b1 : decide ((s.size : Int) < 1) = false := decide_eq_false (by omega)
  have b1n : decide (s.size < 1) = false := decide_eq_false h1
  by_cases h2 : 32 < s.size
  · have b2 : decide ((32 : Int) < (s.size : Int)) = true := decide_eq_true (by omega)
    have b2n : decide (32 < s.size) = true := decide_eq_true h2
    have HN := Aside0.mk (show nameB s = false from decide_eq_false (fun n => by have := n.2.1; omega))
    clear h1 h2
    go_enter Tryd.func18, Tryd.ntmps18
    go_wp2_with fail
    refine wp_scope_straight ?_
    go_wp2
    rw [Exit.noGoto_ret]
    go_ret
    exact ⟨by rw [HN.out]; rfl, rfl⟩
  have b2 : decide ((32 : Int) < (s.size : Int)) = false := decide_eq_false (by omega)
  have b2n : decide (32 < s.size) = false := decide_eq_false h2
  by_cases h3 : s.toList = [46]
  · have b3 : (s.toList == ([46] : List UInt8)) = true := beq_iff_eq.mpr h3
    have b3n : (s.toList != ([46] : List UInt8)) = false := bne_eq_false_iff_eq.mpr h3
    have HN := Aside0.mk (show nameB s = false from decide_eq_false (fun n => n.2.2.1 h3))
    clear h1 h2 h3
    go_enter Tryd.func18, Tryd.ntmps18
    go_wp2_with fail
    refine wp_scope_straight ?_
    go_wp2
    rw [Exit.noGoto_ret]
    go_ret
    exact ⟨by rw [HN.out]; rfl, rfl⟩
  have b3 : (s.toList == ([46] : List UInt8)) = false := beq_eq_false_iff_ne.mpr h3
  have b3n : (s.toList != ([46] : List UInt8)) = true := bne_iff_ne.mpr h3
  by_cases h4 : s.toList = [46, 46]
  · have b4 : (s.toList == ([46, 46] : List UInt8)) = true := beq_iff_eq.mpr h4
    have b4n : (s.toList != ([46, 46] : List UInt8)) = false := bne_eq_false_iff_eq.mpr h4
    have HN := Aside0.mk (show nameB s = false from decide_eq_false (fun n => n.2.2.2.1 h4))
    clear h1 h2 h3 h4
    go_enter Tryd.func18, Tryd.ntmps18
    go_wp2_with fail
    refine wp_scope_straight ?_
    go_wp2
    rw [Exit.noGoto_ret]
    go_ret
    exact ⟨by rw [HN.out]; rfl, rfl⟩
  have b4 : (s.toList == ([46, 46] : List UInt8)) = false := beq_eq_false_iff_ne.mpr h4
  have b4n : (s.toList != ([46, 46] : List UInt8)) = true := bne_iff_ne.mpr h4
  have HS := Aside0.mk (⟨by omega, by omega, h3, h4⟩ : 1 ≤ s.size ∧ s.size ≤ 32 ∧ s.toList ≠ [46] ∧ s.toList ≠ [46, 46])
  have hs32 : s.size ≤ 32 := by omega
  clear h1 h3 h4
  go_enter Tryd.func18, Tryd.ntmps18
  go_wp2_with fail
  refine wp_scope_straight ?_
  go_wp2
  clear b1 b1n b2 b2n b3 b3n b4 b4n h2
  go_step3
  go_wp2
  go_loop [3, 4, 23] (fun v3 v4 v23 => ∃ i : Nat, i ≤ s.size ∧ v3 = .bool true ∧ v23 = .int .i64 i ∧ Aside0 (∀ j, j < i → bt s (j : Int) ≠ 0 ∧ bt s (j : Int) ≠ 47)) (fun _ _ v23 => s.size - (intOf v23).toNat)
  case atStart => exact ⟨0, by omega, rfl, rfl, ⟨fun j hj => by omega⟩⟩
  case round =>
    obtain ⟨i, hi, rfl, rfl, HP⟩ := hrel
    by_cases hlt : i < s.size
    · have hltb : decide ((i : Int) < (s.size : Int)) = true := decide_eq_true (by omega)
      have p4 : (0 ≤ (i : Int)) = True := eq_true (by omega)
      have q4 : ((i : Int) < (s.size : Int)) = True := eq_true (by omega)
      have hx4 : ((s[i]'hlt).toNat : Int) = bt s (i : Int) := bt_at s (i : Int) (by rw [Int.toNat_natCast]; exact hlt)
      have hwi : wrap64 ((i : Int) + 1) = (i : Int) + 1 := n64 (by omega) (by omega)
      by_cases c0 : bt s (i : Int) = 0
      · have c0b : (bt s (i : Int) == 0) = true := beq_iff_eq.mpr c0
        have HN := Aside0.mk (show nameB s = false from decide_eq_false (fun n => (n.2.2.2.2 i hlt).1 c0))
        clear c0
        go_wp2
        go_ret
        exact ⟨by rw [HN.out]; rfl, rfl⟩
      · have c0b : (bt s (i : Int) == 0) = false := beq_eq_false_iff_ne.mpr c0
        by_cases c1 : bt s (i : Int) = 47
        · have c1b : (bt s (i : Int) == 47) = true := beq_iff_eq.mpr c1
          have HN := Aside0.mk (show nameB s = false from decide_eq_false (fun n => (n.2.2.2.2 i hlt).2 c1))
          clear c1
          go_wp2
          go_ret
          exact ⟨by rw [HN.out]; rfl, rfl⟩
        · have c1b : (bt s (i : Int) == 47) = false := beq_eq_false_iff_ne.mpr c1
          have HQ := Aside0.mk (show ∀ j, j < i + 1 → bt s (j : Int) ≠ 0 ∧ bt s (j : Int) ≠ 47 from fun j hj => by
            by_cases e : j = i
            · subst e; exact ⟨c0, c1⟩
            · exact HP.out j (by omega))
          clear c0 c1
          go_wp2
          go_round
          case rel => exact ⟨i + 1, by omega, rfl, by go_num, HQ⟩
          case measure => simp [intOf]; omega
    · obtain rfl : i = s.size := by omega
      have hltb : decide ((s.size : Int) < (s.size : Int)) = false := decide_eq_false (by omega)
      have HN := Aside0.mk (show nameB s = true from decide_eq_true ⟨HS.out.1, HS.out.2.1, HS.out.2.2.1, HS.out.2.2.2, HP.out⟩)
      go_wp2
      go_ret
      exact ⟨by rw [HN.out]; rfl, rfl⟩
theorem node_Name.calls (s : ByteArray) (r : Bool) (w : World) (h : node_Name.f s = some r) : Calls Tryd.prog 18 #[.string s] w fun e w' => e = .returned (.bool r) ∧ Drawn0 w w' := by
  obtain rfl : nameB s = r := Option.some.inj h
  refine (node_Name.same s w).mono ?_
  rintro e w' ⟨rfl, rfl⟩
  exact ⟨rfl, Drawn0.refl _⟩

end Go.Proofs.YthpgbhpnlnpfnaaDoor.E
