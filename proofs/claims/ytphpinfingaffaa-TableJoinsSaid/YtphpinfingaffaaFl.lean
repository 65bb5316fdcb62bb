/- Whole numbers below 2^53 as floats: exact: what is read of one, sums, differences, order, and back to an integer. -/
import Derived.Laws.FloatArith
import Derived.Laws.ComplexArith
namespace Go.Proofs.Ytphpinfingaffaa.Fl
open Ieee
/-- a datum that stands for a whole number -/
def St (d : Datum) (n : Nat) : Prop := ∃ k : Nat, d = .number false (n * 2 ^ k) (-(k : Int))
theorem st_zero (k : Nat) {d : Datum} (h : d = .number false 0 (-(k : Int))) : St d 0 := ⟨k, by rw [Nat.zero_mul, h]⟩
theorem log2_mul {n : Nat} (h : n ≠ 0) (k : Nat) : (n * 2 ^ k).log2 = n.log2 + k := by
  have hp := Nat.two_pow_pos k
  refine (Nat.log2_eq_iff (Nat.mul_ne_zero h (by omega))).mpr ⟨?_, ?_⟩
  · rw [Nat.pow_add]
    exact Nat.mul_le_mul_right _ (Nat.log2_self_le h)
  · rw [show n.log2 + k + 1 = (n.log2 + 1) + k by omega, Nat.pow_add]
    exact Nat.mul_lt_mul_of_pos_right Nat.lt_log2_self hp
theorem log2_le {n : Nat} (h : n ≠ 0) (hn : n < 2 ^ 53) : n.log2 ≤ 52 := by
  have := (Nat.log2_lt h).mpr hn
  omega
theorem cut_whole (way : Toward) (n k : Nat) (h : n ≠ 0) (j : Nat) (hj : j ≤ k) : way.cut false (n * 2 ^ k) j = n * 2 ^ (k - j) := by
  have hp := Nat.two_pow_pos j
  have hm : min j ((n * 2 ^ k).log2 + 2) = j := by rw [log2_mul h]; omega
  have e : n * 2 ^ k = n * 2 ^ (k - j) * 2 ^ j := by rw [Nat.mul_assoc, ← Nat.pow_add, Nat.sub_add_cancel hj]
  unfold Toward.cut
  simp only [hm, Nat.one_shiftLeft]
  rw [e, Nat.mul_div_cancel _ hp, Nat.mul_mod_left]
  cases way <;> simp
theorem cut_zero (way : Toward) (j : Nat) : way.cut false 0 j = 0 := by
  unfold Toward.cut
  cases way <;> simp
  all_goals (try (split <;> simp_all))
theorem nearest_whole {n : Nat} (h : n ≠ 0) (hn : n < 2 ^ 53) (k : Nat) : double.nearest false (n * 2 ^ k) (-(k : Int)) = (n.log2 + 1022) * 2 ^ 52 + n * 2 ^ (52 - n.log2) := by
  have hL := log2_le h hn
  have hp := Nat.two_pow_pos k
  have hlp : double.leastPlace = -1074 := by decide
  have hfb : double.fractionBits = 52 := rfl
  have hbin : double.binade = 2 ^ 52 := rfl
  have hinf : double.infRung = 2047 * 2 ^ 52 := by decide
  have h1 : n * 2 ^ (52 - n.log2) < 2 ^ 53 := by
    have : n * 2 ^ (52 - n.log2) < 2 ^ (n.log2 + 1) * 2 ^ (52 - n.log2) := Nat.mul_lt_mul_of_pos_right Nat.lt_log2_self (Nat.two_pow_pos _)
    rwa [← Nat.pow_add, show n.log2 + 1 + (52 - n.log2) = 53 by omega] at this
  unfold Format.nearest
  rw [if_neg (Nat.mul_ne_zero h (by omega)), log2_mul h, hlp, hfb, hbin, hinf]
  have hlast : max (-(k : Int) + ((n.log2 + k : Nat) : Int) - ((52 : Nat) : Int)) (-1074) = (n.log2 : Int) - 52 := by omega
  simp only [hlast]
  have hkept : Toward.even.cut false ((n * 2 ^ k) <<< (-(k : Int) - ((n.log2 : Int) - 52)).toNat) ((n.log2 : Int) - 52 - -(k : Int)).toNat = n * 2 ^ (52 - n.log2) := by
    by_cases hk : k ≤ 52 - n.log2
    · rw [show ((n.log2 : Int) - 52 - -(k : Int)).toNat = 0 by omega, show (-(k : Int) - ((n.log2 : Int) - 52)).toNat = 52 - n.log2 - k by omega, Nat.shiftLeft_eq, Nat.mul_assoc, ← Nat.pow_add, show k + (52 - n.log2 - k) = 52 - n.log2 by omega]
      exact cut_whole _ _ _ h 0 (Nat.zero_le _)
    · rw [show (-(k : Int) - ((n.log2 : Int) - 52)).toNat = 0 by omega, show ((n.log2 : Int) - 52 - -(k : Int)).toNat = k - (52 - n.log2) by omega, Nat.shiftLeft_zero, cut_whole _ _ _ h _ (by omega), show k - (k - (52 - n.log2)) = 52 - n.log2 by omega]
  rw [hkept, show ((n.log2 : Int) - 52 - -1074).toNat = n.log2 + 1022 by omega]
  unfold Format.word
  rw [if_neg (by decide)]
  have h3 : (n.log2 + 1022) * 2 ^ 52 ≤ 1074 * 2 ^ 52 := Nat.mul_le_mul_right _ (by omega)
  exact Nat.min_eq_left (Nat.le_trans (Nat.add_le_add h3 (Nat.le_of_lt h1)) (by decide))
theorem read_whole {n : Nat} (hn : n < 2 ^ 53) : St (double.read (double.nearest false n 0)) n := by
  by_cases h : n = 0
  · subst h
    exact st_zero 1074 (by decide)
  have hL := log2_le h hn
  have e := nearest_whole h hn 0
  rw [Nat.pow_zero, Nat.mul_one] at e
  rw [show (0 : Int) = -((0 : Nat) : Int) by rfl, e]
  have h1 : n * 2 ^ (52 - n.log2) < 2 ^ 53 := by
    have : n * 2 ^ (52 - n.log2) < 2 ^ (n.log2 + 1) * 2 ^ (52 - n.log2) := Nat.mul_lt_mul_of_pos_right Nat.lt_log2_self (Nat.two_pow_pos _)
    rwa [← Nat.pow_add, show n.log2 + 1 + (52 - n.log2) = 53 by omega] at this
  have h2 : 2 ^ 52 ≤ n * 2 ^ (52 - n.log2) := by
    have : 2 ^ n.log2 * 2 ^ (52 - n.log2) ≤ n * 2 ^ (52 - n.log2) := Nat.mul_le_mul_right _ (Nat.log2_self_le h)
    rwa [← Nat.pow_add, show n.log2 + (52 - n.log2) = 52 by omega] at this
  refine ⟨52 - n.log2, ?_⟩
  have hlp : double.leastPlace = -1074 := by decide
  have hbin : double.binade = 4503599627370496 := by decide
  have hinf : double.infRung = 2047 * 4503599627370496 := by decide
  have hsw : double.signWeight = 9223372036854775808 := by decide
  unfold Format.read
  rw [hlp, hbin, hinf, hsw]
  obtain ⟨f, hf⟩ : ∃ f, f = n * 2 ^ (52 - n.log2) := ⟨_, rfl⟩
  rw [← hf] at h1 h2 ⊢
  obtain ⟨W, hW1⟩ : ∃ W, W = (n.log2 + 1022) * 2 ^ 52 + f := ⟨_, rfl⟩
  rw [← hW1]
  have hWlt : W < 9223372036854775808 := by omega
  have hd : W / 9223372036854775808 = 0 := Nat.div_eq_of_lt hWlt
  have hm : W % 9223372036854775808 = W := Nat.mod_eq_of_lt hWlt
  rw [hd, hm]
  rw [if_neg (by omega), if_pos (by omega)]
  congr 1
  · omega
  · omega
theorem signed_shift (n i M : Nat) (h : i ≤ M) : signed false (n * 2 ^ i) (-(i : Int) - -(M : Int)).toNat = ((n * 2 ^ M : Nat) : Int) := by
  unfold signed
  rw [if_neg (by decide), show (-(i : Int) - -(M : Int)).toNat = M - i by omega, Nat.shiftLeft_eq, Nat.mul_assoc, ← Nat.pow_add, show i + (M - i) = M by omega]
theorem signed_shift' (n i M : Nat) (h : i ≤ M) : signed true (n * 2 ^ i) (-(i : Int) - -(M : Int)).toNat = -((n * 2 ^ M : Nat) : Int) := by
  unfold signed
  rw [if_pos rfl, show (-(i : Int) - -(M : Int)).toNat = M - i by omega, Nat.shiftLeft_eq, Nat.mul_assoc, ← Nat.pow_add, show i + (M - i) = M by omega]
theorem base_eq (i j : Nat) : min (-(i : Int)) (-(j : Int)) = -((max i j : Nat) : Int) := by omega
theorem st_order {d e : Datum} {n m : Nat} (hd : St d n) (he : St e m) : d.order e = some (compare n m) := by
  obtain ⟨i, rfl⟩ := hd
  obtain ⟨j, rfl⟩ := he
  unfold Datum.order
  simp only [base_eq]
  rw [signed_shift _ _ _ (Nat.le_max_left _ _), signed_shift _ _ _ (Nat.le_max_right _ _)]
  have hp := Nat.two_pow_pos (max i j)
  generalize 2 ^ max i j = q at *
  congr 1
  have h1 : ∀ a b : Int, compare a b = if a < b then .lt else if a = b then .eq else .gt := fun a b => rfl
  rw [h1, Nat.compare_eq_ite_lt]
  by_cases h : n < m
  · rw [if_pos h, if_pos (by exact_mod_cast Nat.mul_lt_mul_of_pos_right h hp)]
  · rw [if_neg h]
    by_cases h' : m < n
    · rw [if_pos h', if_neg, if_neg]
      · exact_mod_cast (Nat.ne_of_lt (Nat.mul_lt_mul_of_pos_right h' hp)).symm
      · exact_mod_cast Nat.not_lt.mpr (Nat.le_of_lt (Nat.mul_lt_mul_of_pos_right h' hp))
    · obtain rfl : n = m := by omega
      rw [if_neg h, if_neg (by omega), if_pos rfl]
theorem st_sum {d e : Datum} {n m : Nat} (hd : St d n) (he : St e m) : ∃ k : Nat, d.sum e = some (.number false ((n + m) * 2 ^ k) (-(k : Int))) := by
  obtain ⟨i, rfl⟩ := hd
  obtain ⟨j, rfl⟩ := he
  refine ⟨max i j, ?_⟩
  unfold Datum.sum
  simp only [base_eq]
  rw [signed_shift _ _ _ (Nat.le_max_left _ _), signed_shift _ _ _ (Nat.le_max_right _ _), Nat.add_mul]
  generalize n * 2 ^ max i j = a
  generalize m * 2 ^ max i j = b
  congr 2
  · split
    · rfl
    · exact decide_eq_false (by omega)
theorem st_diff {d e : Datum} {n m : Nat} (hd : St d n) (he : St e m) (h : m ≤ n) : ∃ k : Nat, d.sum e.opposite = some (.number false ((n - m) * 2 ^ k) (-(k : Int))) := by
  obtain ⟨i, rfl⟩ := hd
  obtain ⟨j, rfl⟩ := he
  refine ⟨max i j, ?_⟩
  unfold Datum.sum Datum.opposite
  simp only [base_eq, Bool.not_false]
  rw [signed_shift _ _ _ (Nat.le_max_left _ _), signed_shift' _ _ _ (Nat.le_max_right _ _), Nat.sub_mul]
  have := Nat.mul_le_mul_right (2 ^ max i j) h
  generalize n * 2 ^ max i j = a at *
  generalize m * 2 ^ max i j = b at *
  congr 2
  · split
    · rfl
    · exact decide_eq_false (by omega)
  · omega
theorem st_toInt {d : Datum} {n : Nat} (hd : St d n) : d.toInt .zero = some (n : Int) := by
  obtain ⟨k, rfl⟩ := hd
  unfold Datum.toInt Datum.integral
  simp only [show (-(k : Int)).toNat = 0 by omega, show (- -(k : Int)).toNat = k by omega, Nat.shiftLeft_zero]
  by_cases h : n = 0
  · subst h
    rw [Nat.zero_mul, cut_zero]; rfl
  · rw [cut_whole _ _ _ h k (Nat.le_refl _), Nat.sub_self, Nat.pow_zero, Nat.mul_one]
    unfold signed
    rw [if_neg (by decide), Nat.shiftLeft_zero]
theorem write_whole {n : Nat} (hn : n < 2 ^ 53) (k : Nat) : double.write (.number false (n * 2 ^ k) (-(k : Int))) = double.nearest false n 0 := by
  show double.nearest false (n * 2 ^ k) (-(k : Int)) = _
  by_cases h : n = 0
  · subst h
    rw [Nat.zero_mul]
    unfold Format.nearest
    rw [if_pos rfl, if_pos rfl]
  · rw [nearest_whole h hn]
    have e := nearest_whole h hn 0
    rw [Nat.pow_zero, Nat.mul_one] at e
    exact e.symm
/-- a whole number's float -/
theorem fb_eq {n : Int} (h : 0 ≤ n) : floatOfInt .f64 n = double.nearest false n.toNat 0 := by
  unfold floatOfInt FloatKind.nearest FloatKind.encode
  show double.nearest _ _ _ = _
  rw [show decide (n < 0) = false from decide_eq_false (by omega), show n.natAbs = n.toNat by omega]
theorem fb_st {n : Int} (h : 0 ≤ n) (h1 : n < 9007199254740992) : St (double.read (floatOfInt .f64 n)) n.toNat := by
  rw [fb_eq h]
  exact read_whole (by rw [show (2 : Nat) ^ 53 = 9007199254740992 by rfl]; omega)
theorem cmp_nat {n m : Int} (h : 0 ≤ n) (k : 0 ≤ m) : compare n.toNat m.toNat = compare n m := by
  have h1 : ∀ a b : Int, compare a b = if a < b then .lt else if a = b then .eq else .gt := fun a b => rfl
  rw [h1, Nat.compare_eq_ite_lt]
  by_cases c : n < m
  · rw [if_pos c, if_pos (by omega)]
  · rw [if_neg c, if_neg (by omega)]
    by_cases c' : n = m
    · rw [if_pos c', if_neg (by omega)]
    · rw [if_neg c', if_pos (by omega)]
theorem f_order {n m : Int} (h : 0 ≤ n) (h1 : n < 9007199254740992) (k : 0 ≤ m) (k1 : m < 9007199254740992) : FloatKind.f64.format.order (floatOfInt .f64 n) (floatOfInt .f64 m) = some (compare n m) := by
  show (double.read _).order (double.read _) = _
  rw [st_order (fb_st h h1) (fb_st k k1), cmp_nat h k]
theorem f_lt {n m : Int} (h : 0 ≤ n) (k1 : m < 9007199254740992) (hl : n < m) : FloatKind.f64.format.order (floatOfInt .f64 n) (floatOfInt .f64 m) = some .lt := by
  rw [f_order h (by omega) (by omega) k1]
  show some (if n < m then Ordering.lt else if n = m then .eq else .gt) = _
  rw [if_pos hl]
theorem f_gt {n m : Int} (h : 0 ≤ m) (k1 : n < 9007199254740992) (hl : m < n) : FloatKind.f64.format.order (floatOfInt .f64 n) (floatOfInt .f64 m) = some .gt := by
  rw [f_order (by omega) (by omega) h (by omega)]
  show some (if n < m then Ordering.lt else if n = m then .eq else .gt) = _
  rw [if_neg (by omega), if_neg (by omega)]
theorem f_eq {n : Int} (h : 0 ≤ n) (k1 : n < 9007199254740992) : FloatKind.f64.format.order (floatOfInt .f64 n) (floatOfInt .f64 n) = some .eq := by
  rw [f_order h k1 h k1]
  show some (if n < n then Ordering.lt else if n = n then .eq else .gt) = _
  rw [if_neg (by omega), if_pos rfl]
theorem f_add {n m : Int} (h : 0 ≤ n) (k : 0 ≤ m) (h1 : n + m < 9007199254740992) : floatBits .add .f64 (floatOfInt .f64 n) (floatOfInt .f64 m) = some (floatOfInt .f64 (n + m)) := by
  show ((double.read _).sum (double.read _)).map double.write = _
  obtain ⟨j, hj⟩ := st_sum (fb_st h (by omega)) (fb_st k (by omega))
  rw [hj, Option.map_some, write_whole (by rw [show (2 : Nat) ^ 53 = 9007199254740992 by rfl]; omega), fb_eq (by omega), show (n + m).toNat = n.toNat + m.toNat by omega]
theorem f_sub {n m : Int} (h : 0 ≤ m) (k : m ≤ n) (h1 : n < 9007199254740992) : floatBits .sub .f64 (floatOfInt .f64 n) (floatOfInt .f64 m) = some (floatOfInt .f64 (n - m)) := by
  show ((double.read _).sum (double.read _).opposite).map double.write = _
  obtain ⟨j, hj⟩ := st_diff (fb_st (by omega) h1) (fb_st h (by omega)) (by omega)
  rw [hj, Option.map_some, write_whole (by rw [show (2 : Nat) ^ 53 = 9007199254740992 by rfl]; omega), fb_eq (by omega), show (n - m).toNat = n.toNat - m.toNat by omega]
theorem f_int {n : Int} (h : 0 ≤ n) (h1 : n < 9007199254740992) : floatToIntVal .f64 (floatOfInt .f64 n) .i64 = some n := by
  unfold floatToIntVal
  show (match (double.read _).toInt .zero with | some n => _ | none => _) = _
  rw [st_toInt (fb_st h h1), show (n.toNat : Int) = n by omega]
  dsimp only
  rw [if_pos]
  have e1 : IntKind.i64.min = -9223372036854775808 := by decide
  have e2 : IntKind.i64.max = 9223372036854775807 := by decide
  rw [e1, e2]
  omega
theorem f_zero : floatOfInt .f64 0 = 0 := by decide
theorem f_far : floatOfInt .f64 1099511627776 = 4787326403894837248 := by decide
end Go.Proofs.Ytphpinfingaffaa.Fl
