/- Name: the program's and the document's: whether a text is a name. -/
import Derived.Test.YthpgbhpnlnpfnaaDoorQ3
import Derived.Test.YthpgbhpnlnpfnaaDoorQ1
import Derived.Test.YthpgbhpnlnpfnaaDoorQ2
import Derived.Lib.SplitLaws
import Derived.Lib.Replace

namespace Go.Proofs.YthpgbhpnlnpfnaaDoor.Law
open Go.RowKit Go.Proofs.YthpgbhpnlnpfnaaDoor Go.Proofs.YthpgbhpnlnpfnaaDoorW.PrintWords Go.Proofs.YthpgbhpnlnpfnaaDoorW.PrintLast Go.Proofs.YthpgbhpnlnpfnaaDoorW.PrintMore Go.Proofs.YthpgbhpnlnpfnaaDoor.E
set_option linter.unusedSimpArgs false
set_option linter.unusedVariables false
theorem rname_l0 (s : ByteArray) (hs : s.size ≤ 140737488355328) : ∀ (k i : Nat), i ≤ s.size → s.size < k + i → (∀ j, j < i → bt s (j : Int) ≠ 0 ∧ bt s (j : Int) ≠ 47) → hypogeumref21_Name.l0 k s (i : Int) = some (nameB s)
  | 0, i, h1, h2, _ => by omega
  | k + 1, i, h1, h2, hp => by
    unfold hypogeumref21_Name.l0
    by_cases h : i < s.size
    · rw [if_pos (by omega), if_pos (by omega)]
      by_cases c0 : bt s (i : Int) = 0
      · rw [if_pos c0]; congr 1; exact (decide_eq_false (fun n => (n.2.2.2.2 i h).1 c0)).symm
      · rw [if_neg c0]
        by_cases c1 : bt s (i : Int) = 47
        · rw [if_pos c1]; congr 1; exact (decide_eq_false (fun n => (n.2.2.2.2 i h).2 c1)).symm
        · rw [if_neg c1, n64 (by omega) (by omega)]
          have ih := rname_l0 s hs k (i + 1) (by omega) (by omega) (fun j hj => by
            by_cases e : j = i
            · subst e; exact ⟨c0, c1⟩
            · exact hp j (by omega))
          rw [show ((i + 1 : Nat) : Int) = (i : Int) + 1 by omega] at ih
          exact ih
    · obtain rfl : i = s.size := by omega
      rw [if_neg (by omega)]
      by_cases a1 : (s.size : Int) ≥ 1
      · rw [if_pos a1]
        by_cases a2 : (s.size : Int) ≤ 32
        · rw [if_pos a2]
          by_cases a3 : s.toList = [46]
          · rw [if_pos a3]; congr 1; exact (decide_eq_false (fun n => n.2.2.1 a3)).symm
          · rw [if_neg a3]; congr 1
            by_cases a4 : s.toList = [46, 46]
            · rw [a4]; exact (decide_eq_false (fun n => n.2.2.2.1 a4)).symm
            · rw [bne_iff_ne.mpr a4]; exact (decide_eq_true ⟨by omega, by omega, a3, a4, hp⟩).symm
        · rw [if_neg a2]; congr 1; exact (decide_eq_false (fun n => by have := n.2.1; omega)).symm
      · rw [if_neg a1]; congr 1; exact (decide_eq_false (fun n => by have := n.1; omega)).symm
theorem rname_calls (s : ByteArray) (hs : s.size ≤ 140737488355328) (w : World) : Calls Tryd.prog 19 #[.string s] w fun e w' => e = .returned (.bool (nameB s)) ∧ Below w.heap.size w w' := by
  have h0 : hypogeumref21_Name.f (s.size + 1) s = some (nameB s) := rname_l0 s hs (s.size + 1) 0 (by omega) (by omega) (fun j hj => by omega)
  refine (hypogeumref21_Name.calls (s.size + 1) s _ w h0).mono ?_
  rintro e w' ⟨rfl, h⟩
  exact ⟨rfl, h.below⟩
end Go.Proofs.YthpgbhpnlnpfnaaDoor.Law

namespace Go.Proofs.YthpgbhpnlnpfnaaDoor.Law
open Go.RowKit Go.Proofs.YthpgbhpnlnpfnaaDoor Go.Proofs.YthpgbhpnlnpfnaaDoorW.PrintWords Go.Proofs.YthpgbhpnlnpfnaaDoorW.PrintLast Go.Proofs.YthpgbhpnlnpfnaaDoorW.PrintMore Go.Proofs.YthpgbhpnlnpfnaaDoor.E
set_option linter.unusedSimpArgs false
set_option linter.unusedVariables false
abbrev kn (kids : List S28) (i : Nat) : List UInt8 := (rd_T28 kids (i : Int)).f0.toList
def RisesK (kids : List S28) : Prop := ∀ i, i < kids.length → 0 < i → Op.bytesLess (kn kids (i - 1)) (kn kids i) = true
instance (kids : List S28) : Decidable (RisesK kids) := by unfold RisesK; infer_instance
def kidsE (kids : List S28) : Int := if RisesK kids then 0 else 19
def restE (b : Bool) (bytes : List Int) (kids : List S28) : Int := if b = true then 22 else if (bytes.length : Int) > 8192 then 2 else if (kids.length : Int) > 32 then 21 else kidsE kids
def kindE (depth : Int) (dir : Bool) (bytes : List Int) (kids : List S28) : Bool :=
  if depth = 0 then (if dir = true then decide ((bytes.length : Int) > 0) else true) else if dir = true then decide ((bytes.length : Int) > 0) else decide ((kids.length : Int) > 0)
def badN (depth : Int) (nm : ByteArray) : Bool := if depth = 0 then !decide (nm.toList = []) else if depth > 0 then !nameB nm else false
/-- a node's own fault, but for its place among all -/
def ownE (nm : ByteArray) (dir : Bool) (bytes : List Int) (kids : List S28) (depth : Int) : Int :=
  if depth > 6 then 17 else if badN depth nm = true then 16 else restE (kindE depth dir bytes kids) bytes kids
theorem wm {i : Nat} (h0 : 0 < i) (h : i ≤ 40) : wrap64 ((i : Int) - 1) = ((i - 1 : Nat) : Int) := by rw [n64 (by omega) (by omega)]; omega
theorem wp1 {i : Nat} (h : i ≤ 40) : wrap64 ((i : Int) + 1) = ((i + 1 : Nat) : Int) := by rw [n64 (by omega) (by omega)]; omega
theorem rises_no {kids : List S28} {i : Nat} (h0 : 0 < i) (h : i < kids.length) (c : ¬ Op.bytesLess (kn kids (i - 1)) (kn kids i) = true) : kidsE kids = 19 := if_neg fun r => c (r i h h0)
theorem fault_l0 (nm : ByteArray) (dir : Bool) (bytes : List Int) (kids : List S28) (hk : kids.length ≤ 32) : ∀ (m i k : Nat), kids.length - i = m → i ≤ kids.length → m < k → (∀ j, j < i → j < kids.length → 0 < j → Op.bytesLess (kn kids (j - 1)) (kn kids j) = true) →
    node_fault.l0 k (kids.length : Int) (i : Int) nm dir bytes kids = some (kidsE kids)
  | m, i, 0, _, _, hf, _ => by omega
  | m, i, k + 1, hm, hi, hf, hp => by
    unfold node_fault.l0
    by_cases hlt : i < kids.length
    · rw [if_pos (by omega)]
      match m, hm with
      | 0, hm => omega
      | m + 1, hm =>
        by_cases h0 : 0 < i
        · rw [if_pos (by omega), wm h0 (by omega), if_pos (by omega), if_pos (by omega), if_pos (by omega), if_pos (by omega)]
          by_cases c : Op.bytesLess (kn kids (i - 1)) (kn kids i) = true
          · rw [if_pos c, wp1 (by omega)]
            exact fault_l0 nm dir bytes kids hk m (i + 1) k (by omega) (by omega) (by omega) (fun j hj h1 h2 => by
              by_cases e : j = i
              · subst e; exact c
              · exact hp j (by omega) h1 h2)
          · rw [if_neg c, rises_no h0 hlt c]
        · rw [if_neg (by omega), wp1 (by omega)]
          exact fault_l0 nm dir bytes kids hk m (i + 1) k (by omega) (by omega) (by omega) (fun j hj h1 h2 => by
            exact hp j (by omega) h1 h2)
    · rw [if_neg (by omega)]
      rw [show kidsE kids = 0 from if_pos fun j h1 h2 => hp j (by omega) h1 h2]
theorem fault_j1 (k : Nat) (hk : 36 ≤ k) (b : Bool) (nm : ByteArray) (dir : Bool) (bytes : List Int) (kids : List S28) : node_fault.j1 k b nm dir bytes kids = some (restE b bytes kids) := by
  obtain ⟨k, rfl⟩ : ∃ n, k = n + 1 := ⟨k - 1, by omega⟩
  rw [node_fault.j1]; unfold restE
  by_cases h1 : b = true
  · rw [if_pos h1, if_pos h1]
  · rw [if_neg h1, if_neg h1]
    by_cases h2 : (bytes.length : Int) > 8192
    · rw [if_pos h2, if_pos h2]
    · rw [if_neg h2, if_neg h2]
      by_cases h3 : (kids.length : Int) > 32
      · rw [if_pos h3, if_pos h3]
      · rw [if_neg h3, if_neg h3]
        exact fault_l0 nm dir bytes kids (by omega) kids.length 0 k rfl (by omega) (by omega) (fun j hj => by omega)
theorem fault_j0 (k : Nat) (hk : 37 ≤ k) (d : Int) (b : Bool) (nm : ByteArray) (dir : Bool) (bytes : List Int) (kids : List S28) : node_fault.j0 k d b nm dir bytes kids = some (if b = true then 16 else restE (kindE d dir bytes kids) bytes kids) := by
  obtain ⟨k, rfl⟩ : ∃ n, k = n + 1 := ⟨k - 1, by omega⟩
  rw [node_fault.j0]; unfold kindE
  simp only [fault_j1 k (by omega)]
  cases b <;> cases dir <;> by_cases h2 : d = 0 <;> by_cases h4 : (kids.length : Int) > 0 <;> simp only [h2, h4, ↓reduceIte, Bool.false_eq_true, decide_true, decide_false]
theorem fault_f (k : Nat) (nm : ByteArray) (dir : Bool) (bytes : List Int) (kids : List S28) (d c : Int) (hk : 40 ≤ k) : node_fault.f k nm dir bytes kids d c = some (if c > 64 then 21 else ownE nm dir bytes kids d) := by
  unfold node_fault.f ownE badN node_Name.f
  simp only [fault_j0 k (by omega), Option.bind_some]
  by_cases h0 : c > 64
  · rw [if_pos h0, if_pos h0]
  · rw [if_neg h0, if_neg h0]
    by_cases h1 : d > 6
    · rw [if_pos h1, if_pos h1]
    · rw [if_neg h1, if_neg h1]
      by_cases h2 : d = 0
      · by_cases h3 : nm.toList = []
        · rw [if_pos h2, if_pos h3, if_neg (by omega), if_pos h2]; simp [h3]
        · rw [if_pos h2, if_neg h3, if_pos h2]; simp [h3]
      · rw [if_neg h2, if_neg h2]
        by_cases h3 : d > 0
        · rw [if_pos h3, if_pos h3]
        · rw [if_neg h3, if_neg h3]

end Go.Proofs.YthpgbhpnlnpfnaaDoor.Law

namespace Go.Proofs.YthpgbhpnlnpfnaaDoor.Law
open Go Go.RowKit Go.Proofs.YthpgbhpnlnpfnaaDoor Go.Proofs.YthpgbhpnlnpfnaaDoorW.PrintWords Go.Proofs.YthpgbhpnlnpfnaaDoor.E
def kidOf (c : UInt8) : S28 := ⟨⟨#[c]⟩, false, [], []⟩
theorem own_awake : ownE ⟨#[]⟩ true [] [kidOf 98, kidOf 97] 0 = 19 := by
  have e0 : kn [kidOf 98, kidOf 97] 0 = [98] := by show (⟨#[98]⟩ : ByteArray).toList = [98]; rw [Go.Lib.toList_data]
  have e1 : kn [kidOf 98, kidOf 97] 1 = [97] := by show (⟨#[97]⟩ : ByteArray).toList = [97]; rw [Go.Lib.toList_data]
  have e2 : (⟨#[]⟩ : ByteArray).toList = [] := by rw [Go.Lib.toList_data]
  have h : ¬ RisesK [kidOf 98, kidOf 97] := fun r => by
    have := r 1 (by decide) (by decide)
    rw [e0, e1] at this
    exact absurd this (by decide)
  unfold ownE badN kindE restE kidsE
  simp [h, e2]
theorem right_awake (k : Nat) (hk : 41 ≤ k) : node_Right.f k ⟨#[]⟩ true [] [kidOf 98, kidOf 97] = some 19 := by
  obtain ⟨k, rfl⟩ : ∃ n, k = n + 1 := ⟨k - 1, by omega⟩
  unfold node_Right.f node_walk.f
  have e1 : wrap64 (0 + 1) = 1 := n64 (by omega) (by omega)
  rw [e1, fault_f k _ _ _ _ _ _ (by omega), own_awake]
  rfl
theorem name_3 : nameB ⟨#[46, 46, 46]⟩ = true := by
  refine decide_eq_true ⟨by decide, by decide, ?_, ?_, fun i hi => ?_⟩
  · rw [Go.Lib.toList_data]; decide
  · rw [Go.Lib.toList_data]; decide
  · have h3 : i < 3 := hi
    have : i = 0 ∨ i = 1 ∨ i = 2 := by omega
    rcases this with rfl | rfl | rfl <;> decide
theorem name_2 : nameB ⟨#[46, 46]⟩ = false := by
  refine decide_eq_false fun n => n.2.2.2.1 ?_
  rw [Go.Lib.toList_data]
theorem name_1 (c : UInt8) (h0 : c ≠ 0) (h1 : c ≠ 47) (h2 : c ≠ 46) : nameB ⟨#[c]⟩ = true := by
  refine decide_eq_true ⟨Nat.le_refl 1, by show 1 ≤ 32; omega, ?_, ?_, fun i hi => ?_⟩
  · rw [Go.Lib.toList_data]; intro h; injection h with h; exact h2 h
  · rw [Go.Lib.toList_data]; intro h; injection h with _ h; cases h
  · have hi' : i < 1 := hi
    obtain rfl : i = 0 := by omega
    have e : bt ⟨#[c]⟩ ((0 : Nat) : Int) = (c.toNat : Int) := rfl
    rw [e]
    exact ⟨fun h => h0 (UInt8.toNat_inj.mp (by have : c.toNat = 0 := by omega
                                               rw [this]; rfl)), fun h => h1 (UInt8.toNat_inj.mp (by
      have : c.toNat = 47 := by omega
      rw [this]; rfl))⟩
end Go.Proofs.YthpgbhpnlnpfnaaDoor.Law

namespace Go.Proofs.YthpgbhpnlnpfnaaDoor.Law
open Go.RowKit Go.Proofs.YthpgbhpnlnpfnaaDoor Go.Proofs.YthpgbhpnlnpfnaaDoorW.PrintWords Go.Proofs.YthpgbhpnlnpfnaaDoorW.PrintLast Go.Proofs.YthpgbhpnlnpfnaaDoorW.PrintMore Go.Proofs.YthpgbhpnlnpfnaaDoor.E
set_option linter.unusedSimpArgs false
set_option linter.unusedVariables false
def glue (cur : List UInt8) : List (List UInt8) → List (List UInt8)
  | [] => [cur]
  | h :: t => (cur ++ h) :: t
def cutS : List UInt8 → List (List UInt8)
  | [] => [[]]
  | b :: l => if b = 47 then [] :: cutS l else glue [b] (cutS l)
theorem cutS_eq : ∀ l, cutS l = Lib.splitK [47] 0 (Lib.count l [47]) l
  | [] => by rw [Lib.count_one]; rfl
  | b :: l => by
    have ih := cutS_eq l
    by_cases h : b = 47
    · subst h
      rw [cutS, if_pos rfl, ih, Lib.count_cons_eq, Nat.add_comm, Lib.splitK]
      have hix : Lib.index (47 :: l) [47] = 0 := by rw [Lib.index]; simp [List.isPrefixOf]
      rw [hix]
      simp
    · rw [cutS, if_neg h, ih, Lib.count_cons_ne b 47 l h]
      cases hc : Lib.count l [47] with
      | zero => rfl
      | succ n =>
        obtain ⟨i, hi⟩ := Lib.index_of_count (s := l) (old := [47]) (by omega)
        have hp : ([47] : List UInt8).isPrefixOf (b :: l) = false := by simp [List.isPrefixOf]; exact fun e => h e.symm
        have hix : Lib.index (b :: l) [47] = ((i + 1 : Nat) : Int) := by
          rw [Lib.index, hp, hi]
          have hm : ¬ (((i : Int) == -1) = true) := fun e => by have := beq_iff_eq.1 e; omega
          rw [if_neg (by decide), if_neg hm]; omega
        rw [Lib.splitK, Lib.splitK, hi, hix]
        have hm : ¬ (((i : Int) == -1) = true) := fun e => by have := beq_iff_eq.1 e; omega
        have hm2 : ¬ ((((i + 1 : Nat) : Int) == -1) = true) := fun e => by have := beq_iff_eq.1 e; omega
        rw [if_neg hm, if_neg hm2]
        simp [glue]
def bl (x : List UInt8) : ByteArray := ⟨⟨x⟩⟩
def cutB (l : List UInt8) : List ByteArray := (cutS l).map bl
theorem ba_ext {a b : ByteArray} (h : a.data.toList = b.data.toList) : a = b := by
  obtain ⟨⟨x⟩⟩ := a; obtain ⟨⟨y⟩⟩ := b
  simp at h; subst h; rfl
theorem pieces_cut (s : ByteArray) : pieces s = cutB s.data.toList := by
  have e : (pieces s).map (·.data.toList) = cutS s.data.toList := by
    rw [pieces, Lib.splitB_data, cutS_eq]; try rfl
  rw [cutB, ← e, List.map_map]
  conv => lhs; rw [← List.map_id (pieces s)]
  exact List.map_congr_left fun a _ => ba_ext rfl
theorem pieces_ab : pieces ⟨#[97, 47, 98]⟩ = [⟨#[97]⟩, ⟨#[98]⟩] := by
  rw [pieces_cut]
  simp [cutB, cutS, glue, bl]
theorem awake_f (k : Nat) (hk : 41 ≤ k) : hypogeumlaw21_awake.f k = some true := by
  have hl : (⟨#[97, 47, 98]⟩ : ByteArray).toList = [97, 47, 98] := by rw [Go.Lib.toList_data]
  have hs : node_Split.f ⟨#[97, 47, 98]⟩ = some ([⟨#[97]⟩, ⟨#[98]⟩], 0) := by
    unfold node_Split.f splitL splitE
    rw [if_neg (by rw [hl]; simp), if_pos (by decide), pieces_ab]
    have hall : ([⟨#[97]⟩, ⟨#[98]⟩] : List ByteArray).all nameB = true := by
      simp [name_1 97 (by decide) (by decide) (by decide), name_1 98 (by decide) (by decide) (by decide)]
    rw [if_pos hall, if_pos hall, if_neg (by simp), if_neg (by simp)]
  have hb : (rdOf ByteArray.empty [⟨#[97]⟩, ⟨#[98]⟩] 1).toList = ([98] : List UInt8) := by
    show (⟨#[98]⟩ : ByteArray).toList = _
    rw [Go.Lib.toList_data]
  unfold hypogeumlaw21_awake.f hypogeumlaw21_root.f node_Name.f
  have hr := right_awake k hk
  unfold kidOf at hr
  simp only [Option.bind_some, hs]
  rw [hr, name_3, name_2]
  simp only [Option.bind_some]
  simp only [hb]
  rfl

end Go.Proofs.YthpgbhpnlnpfnaaDoor.Law
