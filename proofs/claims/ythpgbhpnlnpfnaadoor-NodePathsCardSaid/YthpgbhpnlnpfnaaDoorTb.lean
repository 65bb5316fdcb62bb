/- few, plain; what a slice of nodes tells. -/
import Derived.Test.YthpgbhpnlnpfnaaDoorTa
import Derived.Test.YthpgbhpnlnpfnaaDoorPa
import Derived.Test.YthpgbhpnlnpfnaaDoorEx1
namespace Go.Proofs.YthpgbhpnlnpfnaaDoor.Law
open Go.RowKit Go.Proofs.YthpgbhpnlnpfnaaDoor Go.Proofs.YthpgbhpnlnpfnaaDoorW.PrintWords Go.Proofs.YthpgbhpnlnpfnaaDoorW.PrintLast Go.Proofs.YthpgbhpnlnpfnaaDoorW.PrintMore Go.Proofs.YthpgbhpnlnpfnaaDoor.E
set_option linter.unusedSimpArgs false
set_option linter.unusedVariables false
abbrev mF (x : S56) : Nat := min x.f3.length 20000 + min x.f1.size 20000
def sF : List S56 → Nat
  | [] => 0
  | x :: l => mF x + sF l
theorem sF_drop (l : List S56) (i : Nat) (h : i < l.length) : sF (l.drop i) = mF l[i] + sF (l.drop (i + 1)) := by
  rw [List.drop_eq_getElem_cons h]; rfl
theorem mn_nat (a : Nat) : mn (a : Int) 20000 = ((min a 20000 : Nat) : Int) := by unfold mn; omega
set_option maxHeartbeats 1000000 in
theorem few_run (l : List S56) : ∀ (m i n : Nat), l.length - i = m → i ≤ l.length → i ≤ 101 → n ≤ 40000 * i → (100 < l.length → i ≤ 101) →
    ∃ b, (∀ k, 102 - i ≤ k → hypogeumlaw21_few.l0 k l (n : Int) (i : Int) = some b) ∧ (b = true → l.length ≤ 100 ∧ n + sF (l.drop i) ≤ 20000) := by
  intro m
  induction m with
  | zero =>
    intro i n hm hi h1 hn _
    obtain rfl : i = l.length := by omega
    by_cases hl : l.length ≤ 100
    · refine ⟨decide ((n : Int) ≤ 20000), fun k hk => ?_, fun hb => ⟨hl, ?_⟩⟩
      · obtain ⟨k, rfl⟩ : ∃ j, k = j + 1 := ⟨k - 1, by omega⟩
        rw [hypogeumlaw21_few.l0, if_neg (by omega), if_pos (by omega)]
      · have := of_decide_eq_true hb
        rw [List.drop_length]; simp only [sF]; omega
    · refine ⟨false, fun k hk => ?_, fun hb => by cases hb⟩
      obtain ⟨k, rfl⟩ : ∃ j, k = j + 1 := ⟨k - 1, by omega⟩
      rw [hypogeumlaw21_few.l0, if_neg (by omega), if_neg (by omega)]
  | succ m ih =>
    intro i n hm hi h1 hn hx
    have hlt : i < l.length := by omega
    by_cases h100 : i ≤ 100
    · have hmf : mF l[i] ≤ 40000 := by unfold mF; omega
      obtain ⟨b, g1, g2⟩ := ih (i + 1) (n + mF l[i]) (by omega) (by omega) (by omega) (by omega) (by omega)
      have hw1 : Aside0 (wrap64 ((i : Int) + 1) = ((i + 1 : Nat) : Int)) := ⟨by rw [n64 (by omega) (by omega)]; omega⟩
      have hw2 : Aside0 (wrap64 ((n : Int) + (mn (((rd_T56 l (i : Int)).f3).length : Int) 20000 + mn (((rd_T56 l (i : Int)).f1).size : Int) 20000)) = ((n + mF l[i] : Nat) : Int)) := ⟨by
        rw [rd_mem56 l i hlt, mn_nat, mn_nat, n64 (by omega) (by omega)]; unfold mF; omega⟩
      refine ⟨b, fun k hk => ?_, fun hb => ?_⟩
      · obtain ⟨k, rfl⟩ : ∃ j, k = j + 1 := ⟨k - 1, by omega⟩
        rw [hypogeumlaw21_few.l0, if_pos (by omega), if_pos (by omega), if_pos (by omega), hw1.out, hw2.out]
        exact g1 k (by omega)
      · obtain ⟨g3, g4⟩ := g2 hb
        refine ⟨g3, ?_⟩
        rw [sF_drop l i hlt]; omega
    · refine ⟨false, fun k hk => ?_, fun hb => by cases hb⟩
      obtain ⟨k, rfl⟩ : ∃ j, k = j + 1 := ⟨k - 1, by omega⟩
      rw [hypogeumlaw21_few.l0, if_pos (by omega), if_neg (by omega), if_neg (by omega)]
theorem few_f (l : List S56) : ∃ b, (∀ k, 102 ≤ k → hypogeumlaw21_few.f k l = some b) ∧ (b = true → l.length ≤ 100 ∧ sF l ≤ 20000) := by
  obtain ⟨b, g1, g2⟩ := few_run l l.length 0 0 rfl (Nat.zero_le _) (by omega) (by omega) (by omega)
  refine ⟨b, fun k hk => g1 k (by omega), fun hb => ?_⟩
  obtain ⟨g3, g4⟩ := g2 hb
  rw [List.drop_zero] at g4
  exact ⟨g3, by omega⟩
/-- names and bytes -/
abbrev aF (x : S56) : Nat := x.f1.size + x.f3.length
def tF : List S56 → Nat
  | [] => 0
  | x :: l => aF x + tF l
theorem wtF_eq : ∀ l : List S56, wtF l = tF l + 30 * l.length
  | [] => rfl
  | x :: l => by simp only [wtF, tF, List.length_cons, wtF_eq l, wF, aF]; omega
/-- few bytes in all, but that one text may be long -/
theorem tF_le (M : Nat) (hM : 20000 ≤ M) : ∀ l : List S56, (∀ x ∈ l, x.f1.size ≤ M ∧ x.f3.length ≤ M) → sF l ≤ 20000 → tF l ≤ M ∧ (sF l < 20000 → tF l = sF l)
  | [], _, _ => ⟨Nat.zero_le _, fun _ => rfl⟩
  | x :: l, hb, hs => by
    obtain ⟨b1, b2⟩ := hb x (List.mem_cons_self ..)
    simp only [sF, mF] at hs
    obtain ⟨h1, h2⟩ := tF_le M hM l (fun y hy => hb y (List.mem_cons_of_mem _ hy)) (by omega)
    simp only [sF, tF, mF, aF]
    by_cases h0 : sF l < 20000
    · have h3 := h2 h0
      omega
    · omega
def Fits (l : List S56) : Prop := ∀ x ∈ l, x.f1.size ≤ 140737488351232 ∧ x.f3.length ≤ 140737488351232
theorem few_wt {l : List S56} (hB : Fits l) (hl : l.length ≤ 100) (hs : sF l ≤ 20000) : wtF l ≤ 140737488354232 := by
  have := (tF_le 140737488351232 (by omega) l hB hs).1
  rw [wtF_eq]; omega
/-- what a slice of nodes tells -/
def FlatAt (w : World) (A : Option Addr) (n c : Nat) (l : List S56) : Prop := n = l.length ∧ Kd.C k56 w A l.length l ∧ l.length ≤ c ∧ Fits l
end Go.Proofs.YthpgbhpnlnpfnaaDoor.Law
