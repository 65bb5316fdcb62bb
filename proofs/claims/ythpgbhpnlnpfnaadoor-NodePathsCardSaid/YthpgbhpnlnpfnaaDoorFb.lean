/- node.fault, plain. -/
import Derived.Test.YthpgbhpnlnpfnaaDoorNm
import Derived.Test.YthpgbhpnlnpfnaaDoorEx2
namespace Go.Proofs.YthpgbhpnlnpfnaaDoor.Law
open Go.RowKit Go.Proofs.YthpgbhpnlnpfnaaDoor Go.Proofs.YthpgbhpnlnpfnaaDoorW.PrintWords Go.Proofs.YthpgbhpnlnpfnaaDoorW.PrintLast Go.Proofs.YthpgbhpnlnpfnaaDoorW.PrintMore Go.Proofs.YthpgbhpnlnpfnaaDoor.E
set_option linter.unusedSimpArgs false
set_option linter.unusedVariables false
abbrev kn (kids : List S28) (i : Nat) : List UInt8 := (rd_T28 kids (i : Int)).f0.toList
def RisesK (kids : List S28) : Prop := ∀ i, i < kids.length → 0 < i → Op.bytesLess (kn kids (i - 1)) (kn kids i) = true
instance (kids : List S28) : Decidable (RisesK kids) := by unfold RisesK; infer_instance
def kidsE (kids : List S28) : Int := if RisesK kids then 0 else 19
def restE (b : Bool) (bytes : List Int) (kids : List S28) : Int := if b = true then 22 else if (bytes.length : Int) > 8192 then 2 else if (kids.length : Int) > 32 then 21 else kidsE kids
def kindE (depth : Int) (dir : Bool) (bytes : List Int) (kids : List S28) : Bool :=
  if depth = 0 then (if dir = true then decide ((bytes.length : Int) > 0) else true) else if dir = true then decide ((bytes.length : Int) > 0) else decide ((kids.length : Int) > 0)
def badN (depth : Int) (nm : ByteArray) : Bool := if depth = 0 then !decide (nm.toList = []) else if depth > 0 then !nameB nm else false
/-- a node's own fault, but for its place among all -/
def ownE (nm : ByteArray) (dir : Bool) (bytes : List Int) (kids : List S28) (depth : Int) : Int :=
  if depth > 6 then 17 else if badN depth nm = true then 16 else restE (kindE depth dir bytes kids) bytes kids
theorem wm {i : Nat} (h0 : 0 < i) (h : i ≤ 40) : wrap64 ((i : Int) - 1) = ((i - 1 : Nat) : Int) := by rw [n64 (by omega) (by omega)]; omega
theorem wp1 {i : Nat} (h : i ≤ 40) : wrap64 ((i : Int) + 1) = ((i + 1 : Nat) : Int) := by rw [n64 (by omega) (by omega)]; omega
theorem rises_no {kids : List S28} {i : Nat} (h0 : 0 < i) (h : i < kids.length) (c : ¬ Op.bytesLess (kn kids (i - 1)) (kn kids i) = true) : kidsE kids = 19 := if_neg fun r => c (r i h h0)
theorem fault_l0 (nm : ByteArray) (dir : Bool) (bytes : List Int) (kids : List S28) (hk : kids.length ≤ 32) : ∀ (m i k : Nat), kids.length - i = m → i ≤ kids.length → m < k → (∀ j, j < i → j < kids.length → 0 < j → Op.bytesLess (kn kids (j - 1)) (kn kids j) = true) →
    node_fault.l0 k (kids.length : Int) (i : Int) nm dir bytes kids = some (kidsE kids)
  | m, i, 0, _, _, hf, _ => by omega
  | m, i, k + 1, hm, hi, hf, hp => by
    unfold node_fault.l0
    by_cases hlt : i < kids.length
    · rw [if_pos (by omega)]
      match m, hm with
      | 0, hm => omega
      | m + 1, hm =>
        by_cases h0 : 0 < i
        · rw [if_pos (by omega), wm h0 (by omega), if_pos (by omega), if_pos (by omega), if_pos (by omega), if_pos (by omega)]
          by_cases c : Op.bytesLess (kn kids (i - 1)) (kn kids i) = true
          · rw [if_pos c, wp1 (by omega)]
            exact fault_l0 nm dir bytes kids hk m (i + 1) k (by omega) (by omega) (by omega) (fun j hj h1 h2 => by
              by_cases e : j = i
              · subst e; exact c
              · exact hp j (by omega) h1 h2)
          · rw [if_neg c, rises_no h0 hlt c]
        · rw [if_neg (by omega), wp1 (by omega)]
          exact fault_l0 nm dir bytes kids hk m (i + 1) k (by omega) (by omega) (by omega) (fun j hj h1 h2 => by
            exact hp j (by omega) h1 h2)
    · rw [if_neg (by omega)]
      rw [show kidsE kids = 0 from if_pos fun j h1 h2 => hp j (by omega) h1 h2]
theorem fault_j1 (k : Nat) (hk : 36 ≤ k) (b : Bool) (nm : ByteArray) (dir : Bool) (bytes : List Int) (kids : List S28) : node_fault.j1 k b nm dir bytes kids = some (restE b bytes kids) := by
  obtain ⟨k, rfl⟩ : ∃ n, k = n + 1 := ⟨k - 1, by omega⟩
  rw [node_fault.j1]; unfold restE
  by_cases h1 : b = true
  · rw [if_pos h1, if_pos h1]
  · rw [if_neg h1, if_neg h1]
    by_cases h2 : (bytes.length : Int) > 8192
    · rw [if_pos h2, if_pos h2]
    · rw [if_neg h2, if_neg h2]
      by_cases h3 : (kids.length : Int) > 32
      · rw [if_pos h3, if_pos h3]
      · rw [if_neg h3, if_neg h3]
        exact fault_l0 nm dir bytes kids (by omega) kids.length 0 k rfl (by omega) (by omega) (fun j hj => by omega)
theorem fault_j0 (k : Nat) (hk : 37 ≤ k) (d : Int) (b : Bool) (nm : ByteArray) (dir : Bool) (bytes : List Int) (kids : List S28) : node_fault.j0 k d b nm dir bytes kids = some (if b = true then 16 else restE (kindE d dir bytes kids) bytes kids) := by
  obtain ⟨k, rfl⟩ : ∃ n, k = n + 1 := ⟨k - 1, by omega⟩
  rw [node_fault.j0]; unfold kindE
  simp only [fault_j1 k (by omega)]
  cases b <;> cases dir <;> by_cases h2 : d = 0 <;> by_cases h4 : (kids.length : Int) > 0 <;> simp only [h2, h4, ↓reduceIte, Bool.false_eq_true, decide_true, decide_false]
theorem fault_f (k : Nat) (nm : ByteArray) (dir : Bool) (bytes : List Int) (kids : List S28) (d c : Int) (hk : 40 ≤ k) : node_fault.f k nm dir bytes kids d c = some (if c > 64 then 21 else ownE nm dir bytes kids d) := by
  unfold node_fault.f ownE badN node_Name.f
  simp only [fault_j0 k (by omega), Option.bind_some]
  by_cases h0 : c > 64
  · rw [if_pos h0, if_pos h0]
  · rw [if_neg h0, if_neg h0]
    by_cases h1 : d > 6
    · rw [if_pos h1, if_pos h1]
    · rw [if_neg h1, if_neg h1]
      by_cases h2 : d = 0
      · by_cases h3 : nm.toList = []
        · rw [if_pos h2, if_pos h3, if_neg (by omega), if_pos h2]; simp [h3]
        · rw [if_pos h2, if_neg h3, if_pos h2]; simp [h3]
      · rw [if_neg h2, if_neg h2]
        by_cases h3 : d > 0
        · rw [if_pos h3, if_pos h3]
        · rw [if_neg h3, if_neg h3]

end Go.Proofs.YthpgbhpnlnpfnaaDoor.Law
