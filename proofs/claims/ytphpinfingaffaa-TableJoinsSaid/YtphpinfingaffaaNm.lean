/- Name: the program's and the document's: whether a text is a name. -/
import Derived.Test.YtphpinfingaffaaDx1
import Derived.Test.YtphpinfingaffaaEn
namespace Go.Proofs.Ytphpinfingaffaa.Law
open Go.RowKit Go.Proofs.Ytphpinfingaffaa Go.Proofs.YtphpinfingaffaaW.PrintWords Go.Proofs.YtphpinfingaffaaW.PrintLast Go.Proofs.YtphpinfingaffaaW.PrintMore Go.Proofs.Ytphpinfingaffaa.D
set_option linter.unusedSimpArgs false
set_option linter.unusedVariables false
/-- a text that is a name -/
def NameP (s : ByteArray) : Prop := 1 ≤ s.size ∧ s.size ≤ 32 ∧ s.toList ≠ [46] ∧ s.toList ≠ [46, 46] ∧ ∀ i, i < s.size → bt s (i : Int) ≠ 0 ∧ bt s (i : Int) ≠ 47
instance (s : ByteArray) : Decidable (NameP s) := by unfold NameP; infer_instance
def nameB (s : ByteArray) : Bool := decide (NameP s)
theorem n64 {n : Int} (h0 : -9223372036854775808 ≤ n) (h1 : n ≤ 9223372036854775807) : wrap64 n = n := by unfold wrap64; omega
theorem rname_l0 (s : ByteArray) (hs : s.size ≤ 140737488355328) : ∀ (k i : Nat), i ≤ s.size → s.size < k + i → (∀ j, j < i → bt s (j : Int) ≠ 0 ∧ bt s (j : Int) ≠ 47) → hypogeumref21_Name.l0 k s (i : Int) = some (nameB s)
  | 0, i, h1, h2, _ => by omega
  | k + 1, i, h1, h2, hp => by
    unfold hypogeumref21_Name.l0
    by_cases h : i < s.size
    · rw [if_pos (by omega), if_pos (by omega)]
      by_cases c0 : bt s (i : Int) = 0
      · rw [if_pos c0]; congr 1; exact (decide_eq_false (fun n => (n.2.2.2.2 i h).1 c0)).symm
      · rw [if_neg c0]
        by_cases c1 : bt s (i : Int) = 47
        · rw [if_pos c1]; congr 1; exact (decide_eq_false (fun n => (n.2.2.2.2 i h).2 c1)).symm
        · rw [if_neg c1, n64 (by omega) (by omega)]
          have ih := rname_l0 s hs k (i + 1) (by omega) (by omega) (fun j hj => by
            by_cases e : j = i
            · subst e; exact ⟨c0, c1⟩
            · exact hp j (by omega))
          rw [show ((i + 1 : Nat) : Int) = (i : Int) + 1 by omega] at ih
          exact ih
    · obtain rfl : i = s.size := by omega
      rw [if_neg (by omega)]
      by_cases a1 : (s.size : Int) ≥ 1
      · rw [if_pos a1]
        by_cases a2 : (s.size : Int) ≤ 32
        · rw [if_pos a2]
          by_cases a3 : s.toList = [46]
          · rw [if_pos a3]; congr 1; exact (decide_eq_false (fun n => n.2.2.1 a3)).symm
          · rw [if_neg a3]; congr 1
            by_cases a4 : s.toList = [46, 46]
            · rw [a4]; exact (decide_eq_false (fun n => n.2.2.2.1 a4)).symm
            · rw [bne_iff_ne.mpr a4]; exact (decide_eq_true ⟨by omega, by omega, a3, a4, hp⟩).symm
        · rw [if_neg a2]; congr 1; exact (decide_eq_false (fun n => by have := n.2.1; omega)).symm
      · rw [if_neg a1]; congr 1; exact (decide_eq_false (fun n => by have := n.1; omega)).symm
theorem rname_calls (s : ByteArray) (hs : s.size ≤ 140737488355328) (w : World) : Calls Try.prog 31 #[.string s] w fun e w' => e = .returned (.bool (nameB s)) ∧ Below w.heap.size w w' := by
  have h0 : hypogeumref21_Name.f (s.size + 1) s = some (nameB s) := rname_l0 s hs (s.size + 1) 0 (by omega) (by omega) (fun j hj => by omega)
  refine (hypogeumref21_Name.calls (s.size + 1) s _ w h0).mono ?_
  rintro e w' ⟨rfl, h⟩
  exact ⟨rfl, h.below⟩
set_option maxHeartbeats 4000000 in
set_option maxRecDepth 100000 in
theorem name_calls (s : ByteArray) (w : World) : Calls Try.prog 41 #[.string s] w fun e w' => e = .returned (.bool (nameB s)) ∧ Below w.heap.size w w' := by
  by_cases h1 : s.size < 1
  · have b1 : decide ((s.size : Int) < 1) = true := decide_eq_true (by omega)
    have b1n : decide (s.size < 1) = true := decide_eq_true h1
    have HN := Aside0.mk (show nameB s = false from decide_eq_false (fun n => by have := n.1; omega))
    clear h1
    go_enter Try.func41, Try.ntmps41
    go_wp2_with fail
    refine wp_scope_straight ?_
    go_wp2
    rw [Exit.noGoto_ret]
    go_ret
    exact ⟨by rw [HN.out]; rfl, Below.refl _ _⟩
  have b1 : decide ((s.size : Int) < 1) = false := decide_eq_false (by omega)
  have b1n : decide (s.size < 1) = false := decide_eq_false h1
  by_cases h2 : 32 < s.size
  · have b2 : decide ((32 : Int) < (s.size : Int)) = true := decide_eq_true (by omega)
    have b2n : decide (32 < s.size) = true := decide_eq_true h2
    have HN := Aside0.mk (show nameB s = false from decide_eq_false (fun n => by have := n.2.1; omega))
    clear h1 h2
    go_enter Try.func41, Try.ntmps41
    go_wp2_with fail
    refine wp_scope_straight ?_
    go_wp2
    rw [Exit.noGoto_ret]
    go_ret
    exact ⟨by rw [HN.out]; rfl, Below.refl _ _⟩
  have b2 : decide ((32 : Int) < (s.size : Int)) = false := decide_eq_false (by omega)
  have b2n : decide (32 < s.size) = false := decide_eq_false h2
  by_cases h3 : s.toList = [46]
  · have b3 : (s.toList == ([46] : List UInt8)) = true := beq_iff_eq.mpr h3
    have b3n : (s.toList != ([46] : List UInt8)) = false := bne_eq_false_iff_eq.mpr h3
    have HN := Aside0.mk (show nameB s = false from decide_eq_false (fun n => n.2.2.1 h3))
    clear h1 h2 h3
    go_enter Try.func41, Try.ntmps41
    go_wp2_with fail
    refine wp_scope_straight ?_
    go_wp2
    rw [Exit.noGoto_ret]
    go_ret
    exact ⟨by rw [HN.out]; rfl, Below.refl _ _⟩
  have b3 : (s.toList == ([46] : List UInt8)) = false := beq_eq_false_iff_ne.mpr h3
  have b3n : (s.toList != ([46] : List UInt8)) = true := bne_iff_ne.mpr h3
  by_cases h4 : s.toList = [46, 46]
  · have b4 : (s.toList == ([46, 46] : List UInt8)) = true := beq_iff_eq.mpr h4
    have b4n : (s.toList != ([46, 46] : List UInt8)) = false := bne_eq_false_iff_eq.mpr h4
    have HN := Aside0.mk (show nameB s = false from decide_eq_false (fun n => n.2.2.2.1 h4))
    clear h1 h2 h3 h4
    go_enter Try.func41, Try.ntmps41
    go_wp2_with fail
    refine wp_scope_straight ?_
    go_wp2
    rw [Exit.noGoto_ret]
    go_ret
    exact ⟨by rw [HN.out]; rfl, Below.refl _ _⟩
  have b4 : (s.toList == ([46, 46] : List UInt8)) = false := beq_eq_false_iff_ne.mpr h4
  have b4n : (s.toList != ([46, 46] : List UInt8)) = true := bne_iff_ne.mpr h4
  have HS := Aside0.mk (⟨by omega, by omega, h3, h4⟩ : 1 ≤ s.size ∧ s.size ≤ 32 ∧ s.toList ≠ [46] ∧ s.toList ≠ [46, 46])
  have hs32 : s.size ≤ 32 := by omega
  clear h1 h3 h4
  go_enter Try.func41, Try.ntmps41
  go_wp2_with fail
  refine wp_scope_straight ?_
  go_wp2
  clear b1 b1n b2 b2n b3 b3n b4 b4n h2
  go_step3
  go_wp2
  go_loop [3, 4, 23] (fun v3 v4 v23 => ∃ i : Nat, i ≤ s.size ∧ v3 = .bool true ∧ v23 = .int .i64 i ∧ Aside0 (∀ j, j < i → bt s (j : Int) ≠ 0 ∧ bt s (j : Int) ≠ 47)) (fun _ _ v23 => s.size - (intOf v23).toNat)
  case atStart => exact ⟨0, by omega, rfl, rfl, ⟨fun j hj => by omega⟩⟩
  case round =>
    obtain ⟨i, hi, rfl, rfl, HP⟩ := hrel
    by_cases hlt : i < s.size
    · have hltb : decide ((i : Int) < (s.size : Int)) = true := decide_eq_true (by omega)
      have p4 : (0 ≤ (i : Int)) = True := eq_true (by omega)
      have q4 : ((i : Int) < (s.size : Int)) = True := eq_true (by omega)
      have hx4 : ((s[i]'hlt).toNat : Int) = bt s (i : Int) := bt_at s (i : Int) (by rw [Int.toNat_natCast]; exact hlt)
      have hwi : wrap64 ((i : Int) + 1) = (i : Int) + 1 := n64 (by omega) (by omega)
      by_cases c0 : bt s (i : Int) = 0
      · have c0b : (bt s (i : Int) == 0) = true := beq_iff_eq.mpr c0
        have HN := Aside0.mk (show nameB s = false from decide_eq_false (fun n => (n.2.2.2.2 i hlt).1 c0))
        clear c0
        go_wp2
        go_ret
        exact ⟨by rw [HN.out]; rfl, Below.refl _ _⟩
      · have c0b : (bt s (i : Int) == 0) = false := beq_eq_false_iff_ne.mpr c0
        by_cases c1 : bt s (i : Int) = 47
        · have c1b : (bt s (i : Int) == 47) = true := beq_iff_eq.mpr c1
          have HN := Aside0.mk (show nameB s = false from decide_eq_false (fun n => (n.2.2.2.2 i hlt).2 c1))
          clear c1
          go_wp2
          go_ret
          exact ⟨by rw [HN.out]; rfl, Below.refl _ _⟩
        · have c1b : (bt s (i : Int) == 47) = false := beq_eq_false_iff_ne.mpr c1
          have HQ := Aside0.mk (show ∀ j, j < i + 1 → bt s (j : Int) ≠ 0 ∧ bt s (j : Int) ≠ 47 from fun j hj => by
            by_cases e : j = i
            · subst e; exact ⟨c0, c1⟩
            · exact HP.out j (by omega))
          clear c0 c1
          go_wp2
          go_round
          case rel => exact ⟨i + 1, by omega, rfl, by go_num, HQ⟩
          case measure => simp [intOf]; omega
    · obtain rfl : i = s.size := by omega
      have hltb : decide ((s.size : Int) < (s.size : Int)) = false := decide_eq_false (by omega)
      have HN := Aside0.mk (show nameB s = true from decide_eq_true ⟨HS.out.1, HS.out.2.1, HS.out.2.2.1, HS.out.2.2.2, HP.out⟩)
      go_wp2
      go_ret
      exact ⟨by rw [HN.out]; rfl, Below.refl _ _⟩
end Go.Proofs.Ytphpinfingaffaa.Law
