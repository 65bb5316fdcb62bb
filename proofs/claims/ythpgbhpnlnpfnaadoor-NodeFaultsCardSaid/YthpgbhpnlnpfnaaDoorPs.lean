/- The document's Split, plain: what lies between the slashes. -/
import Derived.Test.YthpgbhpnlnpfnaaDoorEx8
import Derived.Lib.SplitLaws
import Derived.Lib.Replace
import Derived.Test.YthpgbhpnlnpfnaaDoorAk
namespace Go.Proofs.YthpgbhpnlnpfnaaDoor.Law
open Go.RowKit Go.Proofs.YthpgbhpnlnpfnaaDoor Go.Proofs.YthpgbhpnlnpfnaaDoorW.PrintWords Go.Proofs.YthpgbhpnlnpfnaaDoorW.PrintLast Go.Proofs.YthpgbhpnlnpfnaaDoorW.PrintMore Go.Proofs.YthpgbhpnlnpfnaaDoor.E
set_option linter.unusedSimpArgs false
set_option linter.unusedVariables false
def glue (cur : List UInt8) : List (List UInt8) → List (List UInt8)
  | [] => [cur]
  | h :: t => (cur ++ h) :: t
def cutS : List UInt8 → List (List UInt8)
  | [] => [[]]
  | b :: l => if b = 47 then [] :: cutS l else glue [b] (cutS l)
theorem cutS_eq : ∀ l, cutS l = Lib.splitK [47] 0 (Lib.count l [47]) l
  | [] => by rw [Lib.count_one]; rfl
  | b :: l => by
    have ih := cutS_eq l
    by_cases h : b = 47
    · subst h
      rw [cutS, if_pos rfl, ih, Lib.count_cons_eq, Nat.add_comm, Lib.splitK]
      have hix : Lib.index (47 :: l) [47] = 0 := by rw [Lib.index]; simp [List.isPrefixOf]
      rw [hix]
      simp
    · rw [cutS, if_neg h, ih, Lib.count_cons_ne b 47 l h]
      cases hc : Lib.count l [47] with
      | zero => rfl
      | succ n =>
        obtain ⟨i, hi⟩ := Lib.index_of_count (s := l) (old := [47]) (by omega)
        have hp : ([47] : List UInt8).isPrefixOf (b :: l) = false := by simp [List.isPrefixOf]; exact fun e => h e.symm
        have hix : Lib.index (b :: l) [47] = ((i + 1 : Nat) : Int) := by
          rw [Lib.index, hp, hi]
          have hm : ¬ (((i : Int) == -1) = true) := fun e => by have := beq_iff_eq.1 e; omega
          rw [if_neg (by decide), if_neg hm]; omega
        rw [Lib.splitK, Lib.splitK, hi, hix]
        have hm : ¬ (((i : Int) == -1) = true) := fun e => by have := beq_iff_eq.1 e; omega
        have hm2 : ¬ ((((i + 1 : Nat) : Int) == -1) = true) := fun e => by have := beq_iff_eq.1 e; omega
        rw [if_neg hm, if_neg hm2]
        simp [glue]
def bl (x : List UInt8) : ByteArray := ⟨⟨x⟩⟩
def cutB (l : List UInt8) : List ByteArray := (cutS l).map bl
def glueB (cur : ByteArray) : List ByteArray → List ByteArray
  | [] => [cur]
  | h :: t => (cur ++ h) :: t
theorem ba_ext {a b : ByteArray} (h : a.data.toList = b.data.toList) : a = b := by
  obtain ⟨⟨x⟩⟩ := a; obtain ⟨⟨y⟩⟩ := b
  simp at h; subst h; rfl
theorem bl_app (x y : List UInt8) : bl x ++ bl y = bl (x ++ y) := ba_ext (by simp [bl])
theorem pieces_cut (s : ByteArray) : pieces s = cutB s.data.toList := by
  have e : (pieces s).map (·.data.toList) = cutS s.data.toList := by
    rw [pieces, Lib.splitB_data, cutS_eq]; try rfl
  rw [cutB, ← e, List.map_map]
  conv => lhs; rw [← List.map_id (pieces s)]
  exact List.map_congr_left fun a _ => ba_ext rfl
theorem cutS_ne : ∀ l, cutS l ≠ []
  | [] => by simp [cutS]
  | b :: l => by
    unfold cutS; split
    · simp
    · cases h : cutS l <;> simp [glue]
theorem glueB_nil (l : List UInt8) : glueB (bl []) (cutB l) = cutB l := by
  unfold cutB
  cases h : cutS l with
  | nil => exact absurd h (cutS_ne l)
  | cons a t => simp [glueB, bl_app]
theorem cutB_47 (l : List UInt8) : cutB (47 :: l) = bl [] :: cutB l := by simp [cutB, cutS]
theorem cutB_ne (b : UInt8) (l : List UInt8) (h : b ≠ 47) (cur : ByteArray) : glueB cur (cutB (b :: l)) = glueB (cur ++ bl [b]) (cutB l) := by
  unfold cutB
  rw [cutS, if_neg h]
  cases e : cutS l with
  | nil => exact absurd e (cutS_ne l)
  | cons a t =>
    simp only [glue, List.map_cons, glueB]
    rw [← bl_app, ByteArray.append_assoc]
theorem bl_size (x : List UInt8) : (bl x).size = x.length := rfl
theorem app_nil (c : ByteArray) : c ++ bl [] = c := ba_ext (by simp [bl])
theorem l0_run (s : ByteArray) (hs : s.size ≤ 1000) : ∀ (r : List UInt8) (i : Nat) (pre : List ByteArray) (cur : ByteArray) (k : Nat), s.data.toList.drop i = r → i ≤ s.size → pre.length ≤ i → cur.size ≤ i →
    hypogeumref21_Split.l0 (r.length + (k + 1)) s (pre ++ [cur]) (i : Int) = hypogeumref21_Split.l1 k (pre ++ glueB cur (cutB r)) 0
  | [], i, pre, cur, k, h, hi, hp, hc => by
    have hl : s.size ≤ i := by
      have := congrArg List.length h
      rw [List.length_drop, ← Lib.size_eq] at this; simp at this; omega
    rw [List.length_nil, Nat.zero_add]
    unfold hypogeumref21_Split.l0
    rw [if_neg (by omega)]
    have e : glueB cur (cutB []) = [cur] := by simp [cutB, cutS, glueB, app_nil]
    rw [e]
  | b :: r, i, pre, cur, k, h, hi, hp, hc => by
    have hl : i < s.size := by
      have := congrArg List.length h
      rw [List.length_drop, ← Lib.size_eq] at this; simp at this; omega
    have hget : s.data.toList[i]? = some b := by
      have := congrArg (·[0]?) h
      simpa [List.getElem?_drop] using this
    have hsb : s[i]'hl = b := by
      have e1 : s.data.toList[i]? = some (s[i]'hl) := by
        rw [List.getElem?_eq_some_iff]
        exact ⟨by rw [← Lib.size_eq]; exact hl, rfl⟩
      rw [e1] at hget; exact Option.some.inj hget
    have hbt : bt s (i : Int) = (b.toNat : Int) := by
      rw [← bt_at s (i : Int) (by rw [Int.toNat_natCast]; exact hl)]
      simp only [Int.toNat_natCast, hsb]
    have hdrop : s.data.toList.drop (i + 1) = r := by
      have e := congrArg (List.drop 1) h
      rw [List.drop_drop] at e
      simpa using e
    have w1 : wrap64 ((i : Int) + 1) = ((i + 1 : Nat) : Int) := by rw [n64 (by omega) (by omega)]; omega
    have hlen : (pre ++ [cur]).length = pre.length + 1 := by simp
    rw [List.length_cons, Nat.add_right_comm]
    unfold hypogeumref21_Split.l0
    rw [if_pos (by omega), if_pos (by omega), hbt]
    by_cases hb : b = 47
    · subst hb
      rw [if_pos (by rfl), if_pos (by omega), w1]
      have ih := l0_run s hs r (i + 1) (pre ++ [cur]) (bl []) k hdrop (by omega) (by omega) (by rw [bl_size]; exact Nat.zero_le _)
      have e0 : (⟨#[]⟩ : ByteArray) = bl [] := rfl
      rw [e0, ih, glueB_nil, cutB_47]
      simp [glueB, app_nil]
    · have hb' : ¬ ((b.toNat : Int) = 47) := fun e => hb (UInt8.toNat_inj.mp (by
        have : b.toNat = 47 := by omega
        rw [this]; rfl))
      have w2 : wrap64 (((pre ++ [cur]).length : Int) - 1) = (pre.length : Int) := by rw [hlen, n64 (by omega) (by omega)]; omega
      have er : rdOf ByteArray.empty (pre ++ [cur]) (pre.length : Int) = cur := by simp [rdOf]
      have ee : s.extract i (i + 1) = bl [b] := ba_ext (by
        rw [Lib.extract_data, h]; simp [bl])
      rw [if_neg hb', w2, if_pos (by omega), if_pos (by rw [hlen]; omega), w1, if_pos (by omega), if_pos (by omega), er]
      simp only [Int.toNat_natCast]
      rw [ee, if_pos (by rw [bl_size, List.length_singleton]; omega)]
      have es : (pre ++ [cur]).set pre.length (cur ++ bl [b]) = pre ++ [cur ++ bl [b]] := by simp
      rw [es]
      have ih := l0_run s hs r (i + 1) pre (cur ++ bl [b]) k hdrop (by omega) (by omega) (by rw [ByteArray.size_append, bl_size, List.length_singleton]; omega)
      rw [ih, cutB_ne b r hb]
theorem bl_ne_nil (s : ByteArray) (h0 : s.toList ≠ []) : s.data.toList ≠ [] := fun h => h0 (by rw [Lib.toList_data]; exact h)
theorem name_k (s : ByteArray) (hs : s.size ≤ 140737488355328) (k : Nat) (hk : s.size < k) : hypogeumref21_Name.f k s = some (nameB s) := rname_l0 s hs k 0 (by omega) (by omega) (fun j hj => by omega)
theorem l1_run (L : List ByteArray) (hL : ∀ p ∈ L, p.size ≤ 1000) (hn : L.length ≤ 2000) : ∀ (m i k : Nat), L.length - i = m → i ≤ L.length → m + 1002 ≤ k → (L.take i).all nameB = true →
    hypogeumref21_Split.l1 k L (i : Int) = some (if L.all nameB then (if 6 < L.length then ([], 17) else (L, 0)) else ([], 16))
  | m, i, 0, _, _, hk, _ => by omega
  | 0, i, k + 1, hm, hi, hk, ha => by
    obtain rfl : i = L.length := by omega
    unfold hypogeumref21_Split.l1
    rw [List.take_length] at ha
    rw [if_neg (by omega), ha, if_pos rfl]
    by_cases h6 : 6 < L.length
    · rw [if_pos (by omega), if_pos h6]
    · rw [if_neg (by omega), if_neg h6]
  | m + 1, i, k + 1, hm, hi, hk, ha => by
    have hlt : i < L.length := by omega
    have hrd : rdOf ByteArray.empty L (i : Int) = L[i] := by simp [rdOf, hlt]
    have hsz := hL L[i] (List.getElem_mem hlt)
    unfold hypogeumref21_Split.l1
    rw [if_pos (by omega), if_pos (by omega), hrd, name_k L[i] (by omega) k (by omega), Option.bind_some]
    cases hb : nameB L[i] with
    | false =>
      rw [if_neg (by decide)]
      have hall : ¬ (L.all nameB = true) := fun h => by
        have := List.all_eq_true.mp h L[i] (List.getElem_mem hlt)
        rw [hb] at this; exact absurd this (by decide)
      rw [if_neg hall]
    | true =>
      rw [if_pos rfl, show wrap64 ((i : Int) + 1) = ((i + 1 : Nat) : Int) by rw [n64 (by omega) (by omega)]; omega]
      refine l1_run L hL hn m (i + 1) k (by omega) (by omega) (by omega) ?_
      rw [List.take_succ_eq_append_getElem hlt, List.all_append, ha]
      simp [hb]
theorem pieces_size (s : ByteArray) : ∀ p ∈ pieces s, p.size ≤ s.size := by
  have key : ∀ l : List UInt8, ∀ p ∈ cutS l, p.length ≤ l.length := by
    intro l
    induction l with
    | nil => intro p hp; simp [cutS] at hp; simp [hp]
    | cons b l ih =>
      intro p hp
      unfold cutS at hp
      split at hp
      · rcases List.mem_cons.mp hp with rfl | h
        · exact Nat.zero_le _
        · have := ih p h; simp; omega
      · cases e : cutS l with
        | nil => exact absurd e (cutS_ne l)
        | cons a t =>
          rw [e] at hp
          rcases List.mem_cons.mp hp with rfl | h
          · have := ih a (by rw [e]; exact List.mem_cons_self ..); simp; omega
          · have := ih p (by rw [e]; exact List.mem_cons_of_mem _ h); simp; omega
  intro p hp
  rw [pieces_cut, cutB] at hp
  obtain ⟨x, hx, rfl⟩ := List.mem_map.mp hp
  rw [bl_size, Lib.size_eq]; exact key _ x hx
theorem rsplit (s : ByteArray) (hs : s.size ≤ 1000) (h0 : s.toList ≠ []) : hypogeumref21_Split.f (s.size + 4003) s = some (splitL s, splitE s) := by
  unfold hypogeumref21_Split.f
  rw [if_neg h0]
  have e := l0_run s hs s.data.toList 0 [] (bl []) 4002 rfl (Nat.zero_le _) (Nat.zero_le _) (Nat.zero_le _)
  rw [← Lib.size_eq] at e
  refine Eq.trans e ?_
  rw [glueB_nil, List.nil_append, ← pieces_cut]
  have hn : (pieces s).length ≤ 2000 := by
    rw [pieces_len]
    have := Lib.countB_le ⟨#[47]⟩ (by decide) s.size s (Nat.le_refl _)
    omega
  have r := l1_run (pieces s) (fun p hp => Nat.le_trans (pieces_size s p hp) hs) hn (pieces s).length 0 4002 rfl (Nat.zero_le _) (by omega) rfl
  refine Eq.trans r ?_
  unfold splitL splitE
  split
  · split <;> rfl
  · rfl
theorem rsplit_nil (s : ByteArray) (h0 : s.toList = []) : hypogeumref21_Split.f 0 s = some ([], 0) := by unfold hypogeumref21_Split.f; rw [if_pos h0]
theorem pieces_ab : pieces ⟨#[97, 47, 98]⟩ = [⟨#[97]⟩, ⟨#[98]⟩] := by
  rw [pieces_cut]
  simp [cutB, cutS, glue, bl]
theorem awake_f (k : Nat) (hk : 41 ≤ k) : hypogeumlaw21_awake.f k = some true := by
  have hl : (⟨#[97, 47, 98]⟩ : ByteArray).toList = [97, 47, 98] := by rw [Go.Lib.toList_data]
  have hs : node_Split.f ⟨#[97, 47, 98]⟩ = some ([⟨#[97]⟩, ⟨#[98]⟩], 0) := by
    unfold node_Split.f splitL splitE
    rw [if_neg (by rw [hl]; simp), if_pos (by decide), pieces_ab]
    have hall : ([⟨#[97]⟩, ⟨#[98]⟩] : List ByteArray).all nameB = true := by
      simp [name_1 97 (by decide) (by decide) (by decide), name_1 98 (by decide) (by decide) (by decide)]
    rw [if_pos hall, if_pos hall, if_neg (by simp), if_neg (by simp)]
  have hb : (rdOf ByteArray.empty [⟨#[97]⟩, ⟨#[98]⟩] 1).toList = ([98] : List UInt8) := by
    show (⟨#[98]⟩ : ByteArray).toList = _
    rw [Go.Lib.toList_data]
  unfold hypogeumlaw21_awake.f hypogeumlaw21_root.f node_Name.f
  have hr := right_awake k hk
  unfold kidOf at hr
  simp only [Option.bind_some, hs]
  rw [hr, name_3, name_2]
  simp only [Option.bind_some]
  simp only [hb]
  rfl
end Go.Proofs.YthpgbhpnlnpfnaaDoor.Law
