/- The plain law of what is put and told. -/
import Derived.Test.YteonbbfegnjjeaaScanF
namespace Go.Proofs.Yteonbbfegnjjeaa.Law
open Go.RowKit Go.Proofs.Yteonbbfegnjjeaa Go.Proofs.YteonbbfegnjjeaaW.PrintWords
theorem val_dg : ∀ m : Nat, val (dg m) = m := by
  intro m
  induction m using Nat.strongRecOn with
  | _ m ih =>
    rcases Nat.eq_zero_or_pos m with rfl | hp
    · rw [dg_zero]; rfl
    · rw [dg_pos hp, val_snoc, ih _ (by omega)]; omega
theorem dg_head : ∀ m : Nat, 0 < m → ∃ x r, dg m = x :: r ∧ x ≠ 0 := by
  intro m
  induction m using Nat.strongRecOn with
  | _ m ih =>
    intro hp
    rcases Nat.eq_zero_or_pos (m / 256) with h | h
    · rw [dg_pos hp, h, dg_zero]; exact ⟨_, [], rfl, by omega⟩
    · obtain ⟨x, r, e, hx⟩ := ih (m / 256) (by omega) h
      rw [dg_pos hp, e]; exact ⟨x, r ++ _, rfl, hx⟩
theorem dg_nil {m : Nat} (h : dg m = []) : m = 0 := by
  rcases Nat.eq_zero_or_pos m with h0 | hp
  · exact h0
  · obtain ⟨x, r, e, _⟩ := dg_head m hp; rw [e] at h; cases h
/-- digits with no nought ahead are those of their number -/
theorem dg_val : ∀ (k : Nat) (d : List Int), d.length = k → Bytes d → (∀ x r, d = x :: r → x ≠ 0) → dg (val d).toNat = d := by
  intro k
  induction k with
  | zero => intro d hd _ _; obtain rfl : d = [] := List.eq_nil_of_length_eq_zero hd; show dg 0 = _; exact dg_zero
  | succ k ih =>
    intro d hd hb h0
    obtain ⟨e, x, rfl⟩ : ∃ e x, d = e ++ [x] := ⟨d.dropLast, d.getLast (by intro h; rw [h] at hd; cases hd), (List.dropLast_concat_getLast _).symm⟩
    have hbe : Bytes e := fun y hy => hb y (List.mem_append_left _ hy)
    have hx := hb x (List.mem_append_right _ (List.mem_singleton.mpr rfl))
    have hv := (val_bound hbe).1
    have he : e.length = k := by simpa using hd
    rw [val_snoc]
    have hpos : 0 < (val e * 256 + x).toNat := by
      cases e with
      | nil =>
        have := h0 x [] rfl
        show 0 < (0 * 256 + x).toNat
        omega
      | cons y r =>
        have hy := h0 y (r ++ [x]) rfl
        have hyb := hbe y List.mem_cons_self
        have e1 := ih (y :: r) he hbe (fun a b hab => by obtain ⟨rfl, rfl⟩ := List.cons.inj hab; exact hy)
        have : (val (y :: r)).toNat ≠ 0 := by intro h; rw [h, dg_zero] at e1; cases e1
        omega
    rw [dg_pos hpos, show (val e * 256 + x).toNat / 256 = (val e).toNat by omega, show (((val e * 256 + x).toNat : Nat) : Int) % 256 = x by omega,
      ih e he hbe (fun a b hab => h0 a (b ++ [x]) (by rw [hab]; rfl))]
theorem rd_cons0 (x : Int) (r : List Int) : rd (x :: r) 0 = x := rfl
theorem rd_cons1 (x y : Int) (r : List Int) : rd (x :: y :: r) 1 = y := rfl
/-- what stands next behind a number that was put -/
theorem nx_put (m : Nat) (hm : m ≤ 9007199254740992) (r : List Int) : nx (((dg m).length : Int) :: dg m ++ r) = ((m : Int), 1 + ((dg m).length : Int), 0) := by
  have h7 := dg_len7 hm
  unfold nx
  rw [if_neg (by simp), List.cons_append, rd_cons0, if_neg (by omega), if_neg (by simp only [List.length_cons, List.length_append]; omega), List.drop_one, List.tail_cons]
  rw [show ((dg m).length : Int).toNat = (dg m).length from Int.toNat_natCast _, List.take_left]
  rw [if_neg, val_dg, if_neg (by unfold far; omega)]
  rintro ⟨h1, h2⟩
  rcases Nat.eq_zero_or_pos m with rfl | hp
  · rw [dg_zero] at h1; exact absurd h1 (by decide)
  · obtain ⟨x, q, e, hx⟩ := dg_head m hp
    rw [e, List.cons_append, rd_cons1] at h2
    exact hx h2
theorem num_put (n : Int) (r : List Int) : numP (numB [] n ++ r) 0 0 far = ((clamp n : Int), 1 + (dg (clamp n)).length, 0) := by
  have hc := clamp_le n
  have e : numB [] n ++ r = ((dg (clamp n)).length : Int) :: dg (clamp n) ++ r := rfl
  unfold numP
  rw [if_neg (by decide), e, nx_put _ hc, if_neg (by simp), if_neg (by unfold far; dsimp only; omega)]
  dsimp only
  rw [show (1 + ((dg (clamp n)).length : Int)).toNat = 1 + (dg (clamp n)).length by omega]
theorem drop_put (n : Int) (r : List Int) : (numB [] n ++ r).drop (1 + (dg (clamp n)).length) = r := by
  have e : numB [] n ++ r = ((dg (clamp n)).length : Int) :: (dg (clamp n) ++ r) := rfl
  rw [e, Nat.add_comm, List.drop_succ_cons, List.drop_left]
theorem clamp_len {s : List Int} (h : s.length ≤ 9007199254740992) : clamp (s.length : Int) = s.length := by unfold clamp; omega
theorem text_put (s r : List Int) (h : s.length ≤ 9007199254740992) : ∃ k, textP (textB [] s ++ r) 0 s.length = (s, k, 0) ∧ (textB [] s ++ r).drop k = r := by
  have e : textB [] s ++ r = numB [] (s.length : Int) ++ (s ++ r) := by unfold textB; rw [List.append_assoc]
  have hc := clamp_len h
  unfold textP
  rw [e, num_put, drop_put, hc]
  dsimp only
  rw [if_neg (by simp), if_neg (by omega), if_neg (by rw [List.length_append]; omega)]
  unfold fixP
  rcases Nat.eq_zero_or_pos s.length with h0 | hp
  · obtain rfl : s = [] := List.eq_nil_of_length_eq_zero h0
    rw [if_pos (.inr (by decide))]
    refine ⟨_, rfl, ?_⟩
    have := drop_put (([] : List Int).length : Int) ([] ++ r)
    rw [clamp_len (s := []) (by decide)] at this
    exact this
  · rw [if_neg (by omega), if_neg (by rw [List.length_append]; omega), Int.toNat_natCast, List.take_left]
    refine ⟨_, rfl, ?_⟩
    dsimp only
    rw [← List.drop_drop]
    have := drop_put (s.length : Int) (s ++ r)
    rw [hc] at this
    rw [this, List.drop_left]
end Go.Proofs.Yteonbbfegnjjeaa.Law
