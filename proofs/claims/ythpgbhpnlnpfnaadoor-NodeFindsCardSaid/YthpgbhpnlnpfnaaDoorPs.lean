/- The document's Split, plain. -/
import Derived.Test.YthpgbhpnlnpfnaaDoorPa
import Derived.Test.YthpgbhpnlnpfnaaDoorEy8
namespace Go.Proofs.YthpgbhpnlnpfnaaDoor.Law
open Go.RowKit Go.Proofs.YthpgbhpnlnpfnaaDoor Go.Proofs.YthpgbhpnlnpfnaaDoorW.PrintWords Go.Proofs.YthpgbhpnlnpfnaaDoorW.PrintLast Go.Proofs.YthpgbhpnlnpfnaaDoorW.PrintMore Go.Proofs.YthpgbhpnlnpfnaaDoor.E
set_option linter.unusedSimpArgs false
set_option linter.unusedVariables false
theorem l0_run (s : ByteArray) (hs : s.size ≤ 1000) : ∀ (r : List UInt8) (i : Nat) (pre : List ByteArray) (cur : ByteArray) (k : Nat), s.data.toList.drop i = r → i ≤ s.size → pre.length ≤ i → cur.size ≤ i →
    hypogeumref21_Split.l0 (r.length + (k + 1)) s (pre ++ [cur]) (i : Int) = hypogeumref21_Split.l1 k (pre ++ glueB cur (cutB r)) 0
  | [], i, pre, cur, k, h, hi, hp, hc => by
    have hl : s.size ≤ i := by
      have := congrArg List.length h
      rw [List.length_drop, ← Lib.size_eq] at this; simp at this; omega
    rw [List.length_nil, Nat.zero_add]
    unfold hypogeumref21_Split.l0
    rw [if_neg (by omega)]
    have e : glueB cur (cutB []) = [cur] := by simp [cutB, cutS, glueB, app_nil]
    rw [e]
  | b :: r, i, pre, cur, k, h, hi, hp, hc => by
    have hl : i < s.size := by
      have := congrArg List.length h
      rw [List.length_drop, ← Lib.size_eq] at this; simp at this; omega
    have hget : s.data.toList[i]? = some b := by
      have := congrArg (·[0]?) h
      simpa [List.getElem?_drop] using this
    have hsb : s[i]'hl = b := by
      have e1 : s.data.toList[i]? = some (s[i]'hl) := by
        rw [List.getElem?_eq_some_iff]
        exact ⟨by rw [← Lib.size_eq]; exact hl, rfl⟩
      rw [e1] at hget; exact Option.some.inj hget
    have hbt : bt s (i : Int) = (b.toNat : Int) := by
      rw [← bt_at s (i : Int) (by rw [Int.toNat_natCast]; exact hl)]
      simp only [Int.toNat_natCast, hsb]
    have hdrop : s.data.toList.drop (i + 1) = r := by
      have e := congrArg (List.drop 1) h
      rw [List.drop_drop] at e
      simpa using e
    have w1 : wrap64 ((i : Int) + 1) = ((i + 1 : Nat) : Int) := by rw [n64 (by omega) (by omega)]; omega
    have hlen : (pre ++ [cur]).length = pre.length + 1 := by simp
    rw [List.length_cons, Nat.add_right_comm]
    unfold hypogeumref21_Split.l0
    rw [if_pos (by omega), if_pos (by omega), hbt]
    by_cases hb : b = 47
    · subst hb
      rw [if_pos (by rfl), if_pos (by omega), w1]
      have ih := l0_run s hs r (i + 1) (pre ++ [cur]) (bl []) k hdrop (by omega) (by omega) (by rw [bl_size]; exact Nat.zero_le _)
      have e0 : (⟨#[]⟩ : ByteArray) = bl [] := rfl
      rw [e0, ih, glueB_nil, cutB_47]
      simp [glueB, app_nil]
    · have hb' : ¬ ((b.toNat : Int) = 47) := fun e => hb (UInt8.toNat_inj.mp (by
        have : b.toNat = 47 := by omega
        rw [this]; rfl))
      have w2 : wrap64 (((pre ++ [cur]).length : Int) - 1) = (pre.length : Int) := by rw [hlen, n64 (by omega) (by omega)]; omega
      have er : rdOf ByteArray.empty (pre ++ [cur]) (pre.length : Int) = cur := by simp [rdOf]
      have ee : s.extract i (i + 1) = bl [b] := ba_ext (by
        rw [Lib.extract_data, h]; simp [bl])
      rw [if_neg hb', w2, if_pos (by omega), if_pos (by rw [hlen]; omega), w1, if_pos (by omega), if_pos (by omega), er]
      simp only [Int.toNat_natCast]
      rw [ee, if_pos (by rw [bl_size, List.length_singleton]; omega)]
      have es : (pre ++ [cur]).set pre.length (cur ++ bl [b]) = pre ++ [cur ++ bl [b]] := by simp
      rw [es]
      have ih := l0_run s hs r (i + 1) pre (cur ++ bl [b]) k hdrop (by omega) (by omega) (by rw [ByteArray.size_append, bl_size, List.length_singleton]; omega)
      rw [ih, cutB_ne b r hb]
theorem bl_ne_nil (s : ByteArray) (h0 : s.toList ≠ []) : s.data.toList ≠ [] := fun h => h0 (by rw [Lib.toList_data]; exact h)
theorem name_k (s : ByteArray) (hs : s.size ≤ 140737488355328) (k : Nat) (hk : s.size < k) : hypogeumref21_Name.f k s = some (nameB s) := rname_l0 s hs k 0 (by omega) (by omega) (fun j hj => by omega)
theorem l1_run (L : List ByteArray) (hL : ∀ p ∈ L, p.size ≤ 1000) (hn : L.length ≤ 2000) : ∀ (m i k : Nat), L.length - i = m → i ≤ L.length → m + 1002 ≤ k → (L.take i).all nameB = true →
    hypogeumref21_Split.l1 k L (i : Int) = some (if L.all nameB then (if 6 < L.length then ([], 17) else (L, 0)) else ([], 16))
  | m, i, 0, _, _, hk, _ => by omega
  | 0, i, k + 1, hm, hi, hk, ha => by
    obtain rfl : i = L.length := by omega
    unfold hypogeumref21_Split.l1
    rw [List.take_length] at ha
    rw [if_neg (by omega), ha, if_pos rfl]
    by_cases h6 : 6 < L.length
    · rw [if_pos (by omega), if_pos h6]
    · rw [if_neg (by omega), if_neg h6]
  | m + 1, i, k + 1, hm, hi, hk, ha => by
    have hlt : i < L.length := by omega
    have hrd : rdOf ByteArray.empty L (i : Int) = L[i] := by simp [rdOf, hlt]
    have hsz := hL L[i] (List.getElem_mem hlt)
    unfold hypogeumref21_Split.l1
    rw [if_pos (by omega), if_pos (by omega), hrd, name_k L[i] (by omega) k (by omega), Option.bind_some]
    cases hb : nameB L[i] with
    | false =>
      rw [if_neg (by decide)]
      have hall : ¬ (L.all nameB = true) := fun h => by
        have := List.all_eq_true.mp h L[i] (List.getElem_mem hlt)
        rw [hb] at this; exact absurd this (by decide)
      rw [if_neg hall]
    | true =>
      rw [if_pos rfl, show wrap64 ((i : Int) + 1) = ((i + 1 : Nat) : Int) by rw [n64 (by omega) (by omega)]; omega]
      refine l1_run L hL hn m (i + 1) k (by omega) (by omega) (by omega) ?_
      rw [List.take_succ_eq_append_getElem hlt, List.all_append, ha]
      simp [hb]
theorem pieces_size (s : ByteArray) : ∀ p ∈ pieces s, p.size ≤ s.size := by
  have key : ∀ l : List UInt8, ∀ p ∈ cutS l, p.length ≤ l.length := by
    intro l
    induction l with
    | nil => intro p hp; simp [cutS] at hp; simp [hp]
    | cons b l ih =>
      intro p hp
      unfold cutS at hp
      split at hp
      · rcases List.mem_cons.mp hp with rfl | h
        · exact Nat.zero_le _
        · have := ih p h; simp; omega
      · cases e : cutS l with
        | nil => exact absurd e (cutS_ne l)
        | cons a t =>
          rw [e] at hp
          rcases List.mem_cons.mp hp with rfl | h
          · have := ih a (by rw [e]; exact List.mem_cons_self ..); simp; omega
          · have := ih p (by rw [e]; exact List.mem_cons_of_mem _ h); simp; omega
  intro p hp
  rw [pieces_cut, cutB] at hp
  obtain ⟨x, hx, rfl⟩ := List.mem_map.mp hp
  rw [bl_size, Lib.size_eq]; exact key _ x hx
theorem rsplit (s : ByteArray) (hs : s.size ≤ 1000) (h0 : s.toList ≠ []) : hypogeumref21_Split.f (s.size + 4003) s = some (splitL s, splitE s) := by
  unfold hypogeumref21_Split.f
  rw [if_neg h0]
  have e := l0_run s hs s.data.toList 0 [] (bl []) 4002 rfl (Nat.zero_le _) (Nat.zero_le _) (Nat.zero_le _)
  rw [← Lib.size_eq] at e
  refine Eq.trans e ?_
  rw [glueB_nil, List.nil_append, ← pieces_cut]
  have hn : (pieces s).length ≤ 2000 := by
    rw [pieces_len]
    have := Lib.countB_le ⟨#[47]⟩ (by decide) s.size s (Nat.le_refl _)
    omega
  have r := l1_run (pieces s) (fun p hp => Nat.le_trans (pieces_size s p hp) hs) hn (pieces s).length 0 4002 rfl (Nat.zero_le _) (by omega) rfl
  refine Eq.trans r ?_
  unfold splitL splitE
  split
  · split <;> rfl
  · rfl
theorem rsplit_nil (s : ByteArray) (h0 : s.toList = []) : hypogeumref21_Split.f 0 s = some ([], 0) := by unfold hypogeumref21_Split.f; rw [if_pos h0]
end Go.Proofs.YthpgbhpnlnpfnaaDoor.Law
