/- Name: the program's and the document's: whether a text is a name. -/
import Derived.Test.YthpgbhpnlnpfnaaDoorEx5
import Derived.Test.YthpgbhpnlnpfnaaDoorEx1
namespace Go.Proofs.YthpgbhpnlnpfnaaDoor.Law
open Go.RowKit Go.Proofs.YthpgbhpnlnpfnaaDoor Go.Proofs.YthpgbhpnlnpfnaaDoorW.PrintWords Go.Proofs.YthpgbhpnlnpfnaaDoorW.PrintLast Go.Proofs.YthpgbhpnlnpfnaaDoorW.PrintMore Go.Proofs.YthpgbhpnlnpfnaaDoor.E
set_option linter.unusedSimpArgs false
set_option linter.unusedVariables false
theorem rname_l0 (s : ByteArray) (hs : s.size ≤ 140737488355328) : ∀ (k i : Nat), i ≤ s.size → s.size < k + i → (∀ j, j < i → bt s (j : Int) ≠ 0 ∧ bt s (j : Int) ≠ 47) → hypogeumref21_Name.l0 k s (i : Int) = some (nameB s)
  | 0, i, h1, h2, _ => by omega
  | k + 1, i, h1, h2, hp => by
    unfold hypogeumref21_Name.l0
    by_cases h : i < s.size
    · rw [if_pos (by omega), if_pos (by omega)]
      by_cases c0 : bt s (i : Int) = 0
      · rw [if_pos c0]; congr 1; exact (decide_eq_false (fun n => (n.2.2.2.2 i h).1 c0)).symm
      · rw [if_neg c0]
        by_cases c1 : bt s (i : Int) = 47
        · rw [if_pos c1]; congr 1; exact (decide_eq_false (fun n => (n.2.2.2.2 i h).2 c1)).symm
        · rw [if_neg c1, n64 (by omega) (by omega)]
          have ih := rname_l0 s hs k (i + 1) (by omega) (by omega) (fun j hj => by
            by_cases e : j = i
            · subst e; exact ⟨c0, c1⟩
            · exact hp j (by omega))
          rw [show ((i + 1 : Nat) : Int) = (i : Int) + 1 by omega] at ih
          exact ih
    · obtain rfl : i = s.size := by omega
      rw [if_neg (by omega)]
      by_cases a1 : (s.size : Int) ≥ 1
      · rw [if_pos a1]
        by_cases a2 : (s.size : Int) ≤ 32
        · rw [if_pos a2]
          by_cases a3 : s.toList = [46]
          · rw [if_pos a3]; congr 1; exact (decide_eq_false (fun n => n.2.2.1 a3)).symm
          · rw [if_neg a3]; congr 1
            by_cases a4 : s.toList = [46, 46]
            · rw [a4]; exact (decide_eq_false (fun n => n.2.2.2.1 a4)).symm
            · rw [bne_iff_ne.mpr a4]; exact (decide_eq_true ⟨by omega, by omega, a3, a4, hp⟩).symm
        · rw [if_neg a2]; congr 1; exact (decide_eq_false (fun n => by have := n.2.1; omega)).symm
      · rw [if_neg a1]; congr 1; exact (decide_eq_false (fun n => by have := n.1; omega)).symm
theorem rname_calls (s : ByteArray) (hs : s.size ≤ 140737488355328) (w : World) : Calls Tryd.prog 19 #[.string s] w fun e w' => e = .returned (.bool (nameB s)) ∧ Below w.heap.size w w' := by
  have h0 : hypogeumref21_Name.f (s.size + 1) s = some (nameB s) := rname_l0 s hs (s.size + 1) 0 (by omega) (by omega) (fun j hj => by omega)
  refine (hypogeumref21_Name.calls (s.size + 1) s _ w h0).mono ?_
  rintro e w' ⟨rfl, h⟩
  exact ⟨rfl, h.below⟩
theorem name_calls (s : ByteArray) (w : World) : Calls Tryd.prog 18 #[.string s] w fun e w' => e = .returned (.bool (nameB s)) ∧ w' = w := node_Name.same s w
end Go.Proofs.YthpgbhpnlnpfnaaDoor.Law
