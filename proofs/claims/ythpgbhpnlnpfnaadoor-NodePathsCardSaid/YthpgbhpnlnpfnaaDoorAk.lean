/- awake: the fixed tree's fault. -/
import Derived.Test.YthpgbhpnlnpfnaaDoorFb
import Derived.Test.YthpgbhpnlnpfnaaDoorEx3
namespace Go.Proofs.YthpgbhpnlnpfnaaDoor.Law
open Go Go.RowKit Go.Proofs.YthpgbhpnlnpfnaaDoor Go.Proofs.YthpgbhpnlnpfnaaDoorW.PrintWords Go.Proofs.YthpgbhpnlnpfnaaDoor.E
def kidOf (c : UInt8) : S28 := ⟨⟨#[c]⟩, false, [], []⟩
theorem own_awake : ownE ⟨#[]⟩ true [] [kidOf 98, kidOf 97] 0 = 19 := by
  have e0 : kn [kidOf 98, kidOf 97] 0 = [98] := by show (⟨#[98]⟩ : ByteArray).toList = [98]; rw [Go.Lib.toList_data]
  have e1 : kn [kidOf 98, kidOf 97] 1 = [97] := by show (⟨#[97]⟩ : ByteArray).toList = [97]; rw [Go.Lib.toList_data]
  have e2 : (⟨#[]⟩ : ByteArray).toList = [] := by rw [Go.Lib.toList_data]
  have h : ¬ RisesK [kidOf 98, kidOf 97] := fun r => by
    have := r 1 (by decide) (by decide)
    rw [e0, e1] at this
    exact absurd this (by decide)
  unfold ownE badN kindE restE kidsE
  simp [h, e2]
theorem right_awake (k : Nat) (hk : 41 ≤ k) : node_Right.f k ⟨#[]⟩ true [] [kidOf 98, kidOf 97] = some 19 := by
  obtain ⟨k, rfl⟩ : ∃ n, k = n + 1 := ⟨k - 1, by omega⟩
  unfold node_Right.f node_walk.f
  have e1 : wrap64 (0 + 1) = 1 := n64 (by omega) (by omega)
  rw [e1, fault_f k _ _ _ _ _ _ (by omega), own_awake]
  rfl
theorem name_3 : nameB ⟨#[46, 46, 46]⟩ = true := by
  refine decide_eq_true ⟨by decide, by decide, ?_, ?_, fun i hi => ?_⟩
  · rw [Go.Lib.toList_data]; decide
  · rw [Go.Lib.toList_data]; decide
  · have h3 : i < 3 := hi
    have : i = 0 ∨ i = 1 ∨ i = 2 := by omega
    rcases this with rfl | rfl | rfl <;> decide
theorem name_2 : nameB ⟨#[46, 46]⟩ = false := by
  refine decide_eq_false fun n => n.2.2.2.1 ?_
  rw [Go.Lib.toList_data]
theorem name_1 (c : UInt8) (h0 : c ≠ 0) (h1 : c ≠ 47) (h2 : c ≠ 46) : nameB ⟨#[c]⟩ = true := by
  refine decide_eq_true ⟨Nat.le_refl 1, by show 1 ≤ 32; omega, ?_, ?_, fun i hi => ?_⟩
  · rw [Go.Lib.toList_data]; intro h; injection h with h; exact h2 h
  · rw [Go.Lib.toList_data]; intro h; injection h with _ h; cases h
  · have hi' : i < 1 := hi
    obtain rfl : i = 0 := by omega
    have e : bt ⟨#[c]⟩ ((0 : Nat) : Int) = (c.toNat : Int) := rfl
    rw [e]
    exact ⟨fun h => h0 (UInt8.toNat_inj.mp (by have : c.toNat = 0 := by omega
                                               rw [this]; rfl)), fun h => h1 (UInt8.toNat_inj.mp (by
      have : c.toNat = 47 := by omega
      rw [this]; rfl))⟩
end Go.Proofs.YthpgbhpnlnpfnaaDoor.Law
