/- A path's pieces; awake: plain. -/
import Derived.Test.YthpgbhpnlnpfnaaDoorEx3
import Derived.Test.YthpgbhpnlnpfnaaDoorAk
import Derived.Lib.SplitLaws
import Derived.Lib.Replace
namespace Go.Proofs.YthpgbhpnlnpfnaaDoor.Law
open Go.RowKit Go.Proofs.YthpgbhpnlnpfnaaDoor Go.Proofs.YthpgbhpnlnpfnaaDoorW.PrintWords Go.Proofs.YthpgbhpnlnpfnaaDoorW.PrintLast Go.Proofs.YthpgbhpnlnpfnaaDoorW.PrintMore Go.Proofs.YthpgbhpnlnpfnaaDoor.E
set_option linter.unusedSimpArgs false
set_option linter.unusedVariables false
def glue (cur : List UInt8) : List (List UInt8) → List (List UInt8)
  | [] => [cur]
  | h :: t => (cur ++ h) :: t
def cutS : List UInt8 → List (List UInt8)
  | [] => [[]]
  | b :: l => if b = 47 then [] :: cutS l else glue [b] (cutS l)
theorem cutS_eq : ∀ l, cutS l = Lib.splitK [47] 0 (Lib.count l [47]) l
  | [] => by rw [Lib.count_one]; rfl
  | b :: l => by
    have ih := cutS_eq l
    by_cases h : b = 47
    · subst h
      rw [cutS, if_pos rfl, ih, Lib.count_cons_eq, Nat.add_comm, Lib.splitK]
      have hix : Lib.index (47 :: l) [47] = 0 := by rw [Lib.index]; simp [List.isPrefixOf]
      rw [hix]
      simp
    · rw [cutS, if_neg h, ih, Lib.count_cons_ne b 47 l h]
      cases hc : Lib.count l [47] with
      | zero => rfl
      | succ n =>
        obtain ⟨i, hi⟩ := Lib.index_of_count (s := l) (old := [47]) (by omega)
        have hp : ([47] : List UInt8).isPrefixOf (b :: l) = false := by simp [List.isPrefixOf]; exact fun e => h e.symm
        have hix : Lib.index (b :: l) [47] = ((i + 1 : Nat) : Int) := by
          rw [Lib.index, hp, hi]
          have hm : ¬ (((i : Int) == -1) = true) := fun e => by have := beq_iff_eq.1 e; omega
          rw [if_neg (by decide), if_neg hm]; omega
        rw [Lib.splitK, Lib.splitK, hi, hix]
        have hm : ¬ (((i : Int) == -1) = true) := fun e => by have := beq_iff_eq.1 e; omega
        have hm2 : ¬ ((((i + 1 : Nat) : Int) == -1) = true) := fun e => by have := beq_iff_eq.1 e; omega
        rw [if_neg hm, if_neg hm2]
        simp [glue]
def bl (x : List UInt8) : ByteArray := ⟨⟨x⟩⟩
def cutB (l : List UInt8) : List ByteArray := (cutS l).map bl
def glueB (cur : ByteArray) : List ByteArray → List ByteArray
  | [] => [cur]
  | h :: t => (cur ++ h) :: t
theorem ba_ext {a b : ByteArray} (h : a.data.toList = b.data.toList) : a = b := by
  obtain ⟨⟨x⟩⟩ := a; obtain ⟨⟨y⟩⟩ := b
  simp at h; subst h; rfl
theorem bl_app (x y : List UInt8) : bl x ++ bl y = bl (x ++ y) := ba_ext (by simp [bl])
theorem pieces_cut (s : ByteArray) : pieces s = cutB s.data.toList := by
  have e : (pieces s).map (·.data.toList) = cutS s.data.toList := by
    rw [pieces, Lib.splitB_data, cutS_eq]; try rfl
  rw [cutB, ← e, List.map_map]
  conv => lhs; rw [← List.map_id (pieces s)]
  exact List.map_congr_left fun a _ => ba_ext rfl
theorem cutS_ne : ∀ l, cutS l ≠ []
  | [] => by simp [cutS]
  | b :: l => by
    unfold cutS; split
    · simp
    · cases h : cutS l <;> simp [glue]
theorem glueB_nil (l : List UInt8) : glueB (bl []) (cutB l) = cutB l := by
  unfold cutB
  cases h : cutS l with
  | nil => exact absurd h (cutS_ne l)
  | cons a t => simp [glueB, bl_app]
theorem cutB_47 (l : List UInt8) : cutB (47 :: l) = bl [] :: cutB l := by simp [cutB, cutS]
theorem cutB_ne (b : UInt8) (l : List UInt8) (h : b ≠ 47) (cur : ByteArray) : glueB cur (cutB (b :: l)) = glueB (cur ++ bl [b]) (cutB l) := by
  unfold cutB
  rw [cutS, if_neg h]
  cases e : cutS l with
  | nil => exact absurd e (cutS_ne l)
  | cons a t =>
    simp only [glue, List.map_cons, glueB]
    rw [← bl_app, ByteArray.append_assoc]
theorem bl_size (x : List UInt8) : (bl x).size = x.length := rfl
theorem app_nil (c : ByteArray) : c ++ bl [] = c := ba_ext (by simp [bl])
theorem pieces_ab : pieces ⟨#[97, 47, 98]⟩ = [⟨#[97]⟩, ⟨#[98]⟩] := by
  rw [pieces_cut]
  simp [cutB, cutS, glue, bl]
theorem awake_f (k : Nat) (hk : 41 ≤ k) : hypogeumlaw21_awake.f k = some true := by
  have hl : (⟨#[97, 47, 98]⟩ : ByteArray).toList = [97, 47, 98] := by rw [Go.Lib.toList_data]
  have hs : node_Split.f ⟨#[97, 47, 98]⟩ = some ([⟨#[97]⟩, ⟨#[98]⟩], 0) := by
    unfold node_Split.f splitL splitE
    rw [if_neg (by rw [hl]; simp), if_pos (by decide), pieces_ab]
    have hall : ([⟨#[97]⟩, ⟨#[98]⟩] : List ByteArray).all nameB = true := by
      simp [name_1 97 (by decide) (by decide) (by decide), name_1 98 (by decide) (by decide) (by decide)]
    rw [if_pos hall, if_pos hall, if_neg (by simp), if_neg (by simp)]
  have hb : (rdOf ByteArray.empty [⟨#[97]⟩, ⟨#[98]⟩] 1).toList = ([98] : List UInt8) := by
    show (⟨#[98]⟩ : ByteArray).toList = _
    rw [Go.Lib.toList_data]
  unfold hypogeumlaw21_awake.f hypogeumlaw21_root.f node_Name.f
  have hr := right_awake k hk
  unfold kidOf at hr
  simp only [Option.bind_some, hs]
  rw [hr, name_3, name_2]
  simp only [Option.bind_some]
  simp only [hb]
  rfl

end Go.Proofs.YthpgbhpnlnpfnaaDoor.Law
