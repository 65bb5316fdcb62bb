/- Polynomials modulo 2 as natural numbers: products, what is left, the greatest common one, irreducible ones, and that Rabin's test tells just these. Plain Lean: no program in sight. -/
namespace Go.Proofs.Ytkaabkoadoomjaa.Gf
/-- the product of two polynomials modulo 2, each a number whose bits are its coefficients -/
def mul (a b : Nat) : Nat := if b = 0 then 0 else (if b % 2 = 1 then a else 0) ^^^ (2 * mul a (b / 2))
termination_by b
decreasing_by omega

theorem tb_two (x i : Nat) : (2 * x).testBit (i + 1) = x.testBit i := by
  rw [Nat.testBit_succ]; congr 1; omega
theorem tb_two0 (x : Nat) : (2 * x).testBit 0 = false := by rw [Nat.testBit_zero]; simp
theorem two_xor (x y : Nat) : 2 * (x ^^^ y) = (2 * x) ^^^ (2 * y) := by
  apply Nat.eq_of_testBit_eq; intro i
  cases i with
  | zero => simp only [tb_two0, Nat.testBit_xor, Bool.xor_self]
  | succ i => simp only [Nat.testBit_xor, tb_two]
theorem xor4 (a b c d : Nat) : (a ^^^ b) ^^^ (c ^^^ d) = (a ^^^ c) ^^^ (b ^^^ d) := by
  rw [Nat.xor_assoc, Nat.xor_assoc]; congr 1; rw [← Nat.xor_assoc, ← Nat.xor_assoc, Nat.xor_comm b c]
theorem mul_zero (a : Nat) : mul a 0 = 0 := by rw [mul]; simp
theorem mul_step (a b : Nat) : mul a b = (if b % 2 = 1 then a else 0) ^^^ (2 * mul a (b / 2)) := by
  by_cases h : b = 0
  · subst h; simp [mul_zero]
  · rw [mul]; rw [if_neg h]
theorem zero_mul (b : Nat) : mul 0 b = 0 := by
  induction b using Nat.strongRecOn with
  | ind b ih =>
    rw [mul_step]
    by_cases h : b = 0
    · subst h; simp [mul_zero]
    · rw [ih (b / 2) (by omega)]; simp
theorem mul_xor_left (a c b : Nat) : mul (a ^^^ c) b = mul a b ^^^ mul c b := by
  induction b using Nat.strongRecOn with
  | ind b ih =>
    by_cases h : b = 0
    · subst h; simp [mul_zero]
    · rw [mul_step, mul_step a b, mul_step c b, ih (b / 2) (by omega), two_xor, xor4]
      congr 1
      by_cases h1 : b % 2 = 1 <;> simp [h1]
theorem mod_two_xor (b c : Nat) : (b ^^^ c) % 2 = 1 ↔ ¬ (b % 2 = 1 ↔ c % 2 = 1) := by
  have h := Nat.testBit_xor b c 0
  simp only [Nat.testBit_zero] at h
  by_cases hb : b % 2 = 1 <;> by_cases hc : c % 2 = 1 <;> simp [hb, hc] at h ⊢ <;> omega
theorem mul_xor_right (a : Nat) (n : Nat) : ∀ b c, b ≤ n → c ≤ n → mul a (b ^^^ c) = mul a b ^^^ mul a c := by
  induction n using Nat.strongRecOn with
  | ind n ih =>
    intro b c hb hc
    by_cases hn : n = 0
    · subst hn; obtain rfl : b = 0 := by omega
      obtain rfl : c = 0 := by omega
      simp [mul_zero]
    · rw [mul_step, mul_step a b, mul_step a c, Nat.xor_div_two, ih (n / 2) (by omega) (b / 2) (c / 2) (by omega) (by omega), two_xor, xor4]
      congr 1
      have := mod_two_xor b c
      by_cases h1 : b % 2 = 1 <;> by_cases h2 : c % 2 = 1 <;> simp [h1, h2] at this ⊢ <;> simp [this]
theorem mul_xor (a b c : Nat) : mul a (b ^^^ c) = mul a b ^^^ mul a c := mul_xor_right a (max b c) b c (by omega) (by omega)
theorem mul_two (a b : Nat) : mul a (2 * b) = 2 * mul a b := by
  rw [mul_step]; have : 2 * b % 2 ≠ 1 := by omega
  rw [if_neg this, show 2 * b / 2 = b by omega]; simp
theorem two_mul (a b : Nat) : mul (2 * a) b = 2 * mul a b := by
  induction b using Nat.strongRecOn with
  | ind b ih =>
    by_cases h : b = 0
    · subst h; simp [mul_zero]
    · rw [mul_step, mul_step a b, ih (b / 2) (by omega), two_xor]
      congr 1
      by_cases h1 : b % 2 = 1 <;> simp [h1]
theorem mul_one (a : Nat) : mul a 1 = a := by rw [mul_step]; simp [mul_zero]
theorem bit_split (b : Nat) : b = (b % 2) ^^^ (2 * (b / 2)) := by
  apply Nat.eq_of_testBit_eq; intro i
  cases i with
  | zero => rw [Nat.testBit_xor, tb_two0]; simp [Nat.testBit_zero]
  | succ i =>
    rw [Nat.testBit_xor, tb_two, Nat.testBit_succ, Nat.testBit_succ]
    have : b % 2 / 2 = 0 := by omega
    rw [this]; simp
theorem one_mul (b : Nat) : mul 1 b = b := by
  induction b using Nat.strongRecOn with
  | ind b ih =>
    by_cases h : b = 0
    · subst h; simp [mul_zero]
    · rw [mul_step, ih (b / 2) (by omega)]
      conv => rhs; rw [bit_split b]
      congr 1
      by_cases h1 : b % 2 = 1
      · rw [if_pos h1, h1]
      · rw [if_neg h1]; omega
theorem mul_comm (a b : Nat) : mul a b = mul b a := by
  induction a using Nat.strongRecOn with
  | ind a ih =>
    by_cases h : a = 0
    · subst h; rw [zero_mul, mul_zero]
    · conv => lhs; rw [bit_split a]
      rw [mul_xor_left, two_mul, ih (a / 2) (by omega), mul_step b a]
      congr 1
      by_cases h1 : a % 2 = 1
      · rw [if_pos h1, h1, one_mul]
      · rw [if_neg h1, show a % 2 = 0 by omega, zero_mul]
theorem mul_assoc (a b c : Nat) : mul (mul a b) c = mul a (mul b c) := by
  induction c using Nat.strongRecOn with
  | ind c ih =>
    by_cases h : c = 0
    · subst h; simp [mul_zero]
    · rw [mul_step, mul_step b c, mul_xor, mul_two, ih (c / 2) (by omega)]
      congr 1
      by_cases h1 : c % 2 = 1 <;> simp [h1, mul_zero]
theorem mul_pow (a n : Nat) : mul a (2 ^ n) = a * 2 ^ n := by
  induction n with
  | zero => simp [mul_one]
  | succ n ih => rw [Nat.pow_succ, Nat.mul_comm (2 ^ n) 2, mul_two, ih, ← Nat.mul_assoc, ← Nat.mul_assoc, Nat.mul_comm 2 a]

/-! degrees -/
theorem tb_top {y k : Nat} (h : y < 2 ^ (k + 1)) : y.testBit k = decide (2 ^ k ≤ y) := by
  by_cases hk : 2 ^ k ≤ y
  · rw [decide_eq_true hk]
    rw [Nat.testBit_eq_decide_div_mod_eq]
    have : y / 2 ^ k = 1 := by
      apply Nat.div_eq_of_lt_le
      · omega
      · rw [Nat.pow_succ] at h; omega
    simp [this]
  · rw [decide_eq_false hk]; exact Nat.testBit_lt_two_pow (by omega)
theorem xor_top {x y k : Nat} (hx : x < 2 ^ k) (h1 : 2 ^ k ≤ y) (h2 : y < 2 ^ (k + 1)) : 2 ^ k ≤ x ^^^ y ∧ x ^^^ y < 2 ^ (k + 1) := by
  have hlt : x ^^^ y < 2 ^ (k + 1) := Nat.xor_lt_two_pow (by rw [Nat.pow_succ]; omega) h2
  refine ⟨?_, hlt⟩
  have t : (x ^^^ y).testBit k = true := by
    rw [Nat.testBit_xor, tb_top h2, Nat.testBit_lt_two_pow hx]; simp [h1]
  rw [tb_top hlt] at t; exact of_decide_eq_true t
theorem xor_tops {x y k : Nat} (a1 : 2 ^ k ≤ x) (a2 : x < 2 ^ (k + 1)) (h1 : 2 ^ k ≤ y) (h2 : y < 2 ^ (k + 1)) : x ^^^ y < 2 ^ k := by
  have hlt : x ^^^ y < 2 ^ (k + 1) := Nat.xor_lt_two_pow a2 h2
  have t : (x ^^^ y).testBit k = false := by
    rw [Nat.testBit_xor, tb_top h2, tb_top a2]; simp [h1, a1]
  rw [tb_top hlt] at t; have := of_decide_eq_false t; omega
theorem mul_deg (a : Nat) (i : Nat) (ha1 : 2 ^ i ≤ a) (ha2 : a < 2 ^ (i + 1)) (j : Nat) : ∀ b, 2 ^ j ≤ b → b < 2 ^ (j + 1) →
    2 ^ (i + j) ≤ mul a b ∧ mul a b < 2 ^ (i + j + 1) := by
  induction j with
  | zero =>
    intro b h1 h2; obtain rfl : b = 1 := by simp at h1 h2; omega
    rw [mul_one]; exact ⟨ha1, ha2⟩
  | succ j ih =>
    intro b h1 h2
    have hp : 2 ^ (j + 1) = 2 * 2 ^ j := by rw [Nat.pow_succ]; omega
    have hp2 : 2 ^ (j + 2) = 2 * 2 ^ (j + 1) := by rw [Nat.pow_succ]; omega
    obtain ⟨l, r⟩ := ih (b / 2) (by omega) (by omega)
    rw [mul_step]
    have e1 : 2 ^ (i + (j + 1)) = 2 * 2 ^ (i + j) := by rw [← Nat.add_assoc, Nat.pow_succ]; omega
    have e2 : 2 ^ (i + (j + 1) + 1) = 2 * 2 ^ (i + j + 1) := by rw [← Nat.add_assoc, Nat.pow_succ]; omega
    apply xor_top
    · have : 2 ^ (i + 1) ≤ 2 ^ (i + (j + 1)) := Nat.pow_le_pow_right (by omega) (by omega)
      have hpos : 0 < 2 ^ (i + (j + 1)) := Nat.two_pow_pos _
      split <;> omega
    · omega
    · omega
theorem log2_le {a : Nat} (h : a ≠ 0) : 2 ^ a.log2 ≤ a := Nat.log2_self_le h
theorem lt_log2 (a : Nat) : a < 2 ^ (a.log2 + 1) := by
  by_cases h : a = 0
  · subst h; exact Nat.two_pow_pos _
  · exact (Nat.log2_lt h).mp (Nat.lt_succ_self _)
theorem log2_eq {a k : Nat} (h1 : 2 ^ k ≤ a) (h2 : a < 2 ^ (k + 1)) : a.log2 = k := by
  have ha : a ≠ 0 := by have := Nat.two_pow_pos k; omega
  have h3 : a.log2 < k + 1 := (Nat.log2_lt ha).mpr h2
  have h4 : ¬ a.log2 < k := fun h => by have := (Nat.log2_lt ha).mp h; omega
  omega
theorem mul_ne {a b : Nat} (ha : a ≠ 0) (hb : b ≠ 0) : mul a b ≠ 0 ∧ (mul a b).log2 = a.log2 + b.log2 := by
  obtain ⟨l, r⟩ := mul_deg a a.log2 (log2_le ha) (lt_log2 a) b.log2 b (log2_le hb) (lt_log2 b)
  exact ⟨by have := Nat.two_pow_pos (a.log2 + b.log2); omega, log2_eq l r⟩
theorem mul_eq_zero {a b : Nat} (h : mul a b = 0) : a = 0 ∨ b = 0 := by
  by_cases ha : a = 0
  · exact .inl ha
  · by_cases hb : b = 0
    · exact .inr hb
    · exact absurd h (mul_ne ha hb).1

/-! what is left -/
theorem xor_shift_lt {a m : Nat} (hm : m ≠ 0) (h : 2 ^ m.log2 ≤ a) : a ^^^ (m * 2 ^ (a.log2 - m.log2)) < 2 ^ a.log2 := by
  have ha : a ≠ 0 := by have := Nat.two_pow_pos m.log2; omega
  have hle : m.log2 ≤ a.log2 := by
    have := (Nat.log2_lt ha (k := m.log2)); omega
  have e : m.log2 + (a.log2 - m.log2) = a.log2 := by omega
  apply xor_tops (log2_le ha) (lt_log2 a)
  · have := Nat.mul_le_mul_right (2 ^ (a.log2 - m.log2)) (log2_le hm)
    rw [← Nat.pow_add, e] at this; exact this
  · have := Nat.mul_lt_mul_of_pos_right (lt_log2 m) (Nat.two_pow_pos (a.log2 - m.log2))
    rw [← Nat.pow_add, show m.log2 + 1 + (a.log2 - m.log2) = a.log2 + 1 by omega] at this; exact this
def rem (a m : Nat) : Nat := if h : m ≠ 0 ∧ 2 ^ m.log2 ≤ a then rem (a ^^^ (m * 2 ^ (a.log2 - m.log2))) m else a
termination_by a
decreasing_by
  have := xor_shift_lt h.1 h.2
  have ha : a ≠ 0 := by have := Nat.two_pow_pos m.log2; omega
  have := log2_le ha; omega
theorem rem_small {a m : Nat} (h : a < 2 ^ m.log2) : rem a m = a := by
  rw [rem, dif_neg]; omega
theorem rem_go {a m : Nat} (hm : m ≠ 0) (h : 2 ^ m.log2 ≤ a) : rem a m = rem (a ^^^ (m * 2 ^ (a.log2 - m.log2))) m := by
  rw [rem, dif_pos ⟨hm, h⟩]
theorem rem_lt (a : Nat) {m : Nat} (hm : m ≠ 0) : rem a m < 2 ^ m.log2 := by
  induction a using Nat.strongRecOn with
  | ind a ih =>
    by_cases h : 2 ^ m.log2 ≤ a
    · rw [rem_go hm h]; apply ih
      have := xor_shift_lt hm h
      have ha : a ≠ 0 := by have := Nat.two_pow_pos m.log2; omega
      have := log2_le ha; omega
    · rw [rem_small (by omega)]; omega
theorem xor_xor_cancel (a b : Nat) : (a ^^^ b) ^^^ b = a := by rw [Nat.xor_assoc, Nat.xor_self, Nat.xor_zero]
theorem rem_div (a : Nat) {m : Nat} (hm : m ≠ 0) : ∃ q, a = mul q m ^^^ rem a m := by
  induction a using Nat.strongRecOn with
  | ind a ih =>
    by_cases h : 2 ^ m.log2 ≤ a
    · have hl := xor_shift_lt hm h
      have ha : a ≠ 0 := by have := Nat.two_pow_pos m.log2; omega
      have := log2_le ha
      obtain ⟨q, hq⟩ := ih _ (by omega : a ^^^ (m * 2 ^ (a.log2 - m.log2)) < a)
      refine ⟨q ^^^ 2 ^ (a.log2 - m.log2), ?_⟩
      rw [rem_go hm h, mul_xor_left, mul_comm (2 ^ _) m, mul_pow, Nat.xor_assoc, Nat.xor_comm (m * _), ← Nat.xor_assoc, ← hq, xor_xor_cancel]
    · exact ⟨0, by rw [rem_small (by omega), zero_mul, Nat.zero_xor]⟩
def Dvd (d a : Nat) : Prop := ∃ q, a = mul q d
theorem mul_small {q m : Nat} (hm : m ≠ 0) (h : mul q m < 2 ^ m.log2) : q = 0 := by
  by_cases hq : q = 0
  · exact hq
  · obtain ⟨h0, hl⟩ := mul_ne hq hm
    have := log2_le h0; rw [hl, Nat.pow_add] at this
    have := Nat.two_pow_pos q.log2
    have := Nat.le_mul_of_pos_left (2 ^ m.log2) this
    omega
theorem rem_uniq {a m q r : Nat} (hm : m ≠ 0) (h : a = mul q m ^^^ r) (hr : r < 2 ^ m.log2) : rem a m = r := by
  obtain ⟨q', h'⟩ := rem_div a hm
  have hl := rem_lt a hm
  have e : mul (q ^^^ q') m = r ^^^ rem a m := by
    rw [mul_xor_left]
    have h2 : mul q m ^^^ r = mul q' m ^^^ rem a m := by rw [← h, ← h']
    have h3 : (mul q m ^^^ r) ^^^ (mul q' m ^^^ rem a m) = 0 := by rw [h2, Nat.xor_self]
    rw [xor4] at h3
    have h4 : ((mul q m ^^^ mul q' m) ^^^ (r ^^^ rem a m)) ^^^ (r ^^^ rem a m) = 0 ^^^ (r ^^^ rem a m) := by rw [h3]
    rwa [xor_xor_cancel, Nat.zero_xor] at h4
  have h0 := mul_small hm (q := q ^^^ q') (by rw [e]; exact Nat.xor_lt_two_pow hr hl)
  rw [h0, zero_mul] at e
  have h5 : (r ^^^ rem a m) ^^^ rem a m = 0 ^^^ rem a m := by rw [← e]
  rw [xor_xor_cancel, Nat.zero_xor] at h5; exact h5.symm
theorem rem_xor (a b : Nat) {m : Nat} (hm : m ≠ 0) : rem (a ^^^ b) m = rem a m ^^^ rem b m := by
  obtain ⟨q, hq⟩ := rem_div a hm
  obtain ⟨p, hp⟩ := rem_div b hm
  apply rem_uniq hm (q := q ^^^ p) _ (Nat.xor_lt_two_pow (rem_lt a hm) (rem_lt b hm))
  rw [mul_xor_left, xor4, ← hq, ← hp]
theorem dvd_rem {d a : Nat} (hd : d ≠ 0) : Dvd d a ↔ rem a d = 0 := by
  constructor
  · rintro ⟨q, hq⟩; exact rem_uniq hd (q := q) (by rw [Nat.xor_zero]; exact hq) (Nat.two_pow_pos _)
  · intro h; obtain ⟨q, hq⟩ := rem_div a hd; rw [h, Nat.xor_zero] at hq; exact ⟨q, hq⟩
theorem Dvd.xor {d a b : Nat} (h : Dvd d a) (h' : Dvd d b) : Dvd d (a ^^^ b) := by
  obtain ⟨p, rfl⟩ := h; obtain ⟨q, rfl⟩ := h'; exact ⟨p ^^^ q, (mul_xor_left _ _ _).symm⟩
theorem Dvd.mul_left {d a : Nat} (h : Dvd d a) (b : Nat) : Dvd d (mul b a) := by
  obtain ⟨p, rfl⟩ := h; exact ⟨mul b p, (mul_assoc _ _ _).symm⟩
theorem Dvd.mul_right {d a : Nat} (h : Dvd d a) (b : Nat) : Dvd d (mul a b) := by rw [mul_comm]; exact h.mul_left b
theorem Dvd.refl (a : Nat) : Dvd a a := ⟨1, (one_mul a).symm⟩
theorem Dvd.zero (a : Nat) : Dvd a 0 := ⟨0, (zero_mul a).symm⟩
theorem Dvd.trans {a b c : Nat} (h : Dvd a b) (h' : Dvd b c) : Dvd a c := by
  obtain ⟨q, rfl⟩ := h'; exact h.mul_left q
theorem Dvd.of_xor {d a b : Nat} (h : Dvd d (a ^^^ b)) (h' : Dvd d b) : Dvd d a := by
  have := h.xor h'; rwa [xor_xor_cancel] at this
theorem rem_self_dvd (a : Nat) {m : Nat} (hm : m ≠ 0) : Dvd m (a ^^^ rem a m) := by
  obtain ⟨q, hq⟩ := rem_div a hm
  refine ⟨q, ?_⟩
  conv => lhs; lhs; rw [hq]
  rw [xor_xor_cancel]
theorem rem_eq_iff {a b m : Nat} (hm : m ≠ 0) : rem a m = rem b m ↔ Dvd m (a ^^^ b) := by
  rw [dvd_rem hm, rem_xor _ _ hm]
  constructor
  · intro h; rw [h, Nat.xor_self]
  · intro h
    have : (rem a m ^^^ rem b m) ^^^ rem b m = 0 ^^^ rem b m := by rw [h]
    rwa [xor_xor_cancel, Nat.zero_xor] at this
theorem rem_rem (a : Nat) {m : Nat} (hm : m ≠ 0) : rem (rem a m) m = rem a m := rem_small (rem_lt a hm)
theorem dvd_mul_congr {a b c d m : Nat} (h : Dvd m (a ^^^ b)) (h' : Dvd m (c ^^^ d)) : Dvd m (mul a c ^^^ mul b d) := by
  have e : mul a c ^^^ mul b d = mul (a ^^^ b) c ^^^ mul b (c ^^^ d) := by
    rw [mul_xor_left, mul_xor, Nat.xor_assoc, ← Nat.xor_assoc (mul b c), Nat.xor_self, Nat.zero_xor]
  rw [e]; exact (h.mul_right c).xor (h'.mul_left b)
theorem rem_mul (a b : Nat) {m : Nat} (hm : m ≠ 0) : rem (mul (rem a m) (rem b m)) m = rem (mul a b) m := by
  rw [rem_eq_iff hm]
  exact dvd_mul_congr (by rw [Nat.xor_comm]; exact rem_self_dvd a hm) (by rw [Nat.xor_comm]; exact rem_self_dvd b hm)
theorem rem_mul_left (a b : Nat) {m : Nat} (hm : m ≠ 0) : rem (mul (rem a m) b) m = rem (mul a b) m := by
  rw [rem_eq_iff hm]
  exact dvd_mul_congr (by rw [Nat.xor_comm]; exact rem_self_dvd a hm) (by rw [Nat.xor_self]; exact Dvd.zero m)
theorem dvd_le {d a : Nat} (h : Dvd d a) (ha : a ≠ 0) : d ≠ 0 ∧ d.log2 ≤ a.log2 := by
  obtain ⟨q, rfl⟩ := h
  have hd : d ≠ 0 := fun e => ha (by rw [e, mul_zero])
  have hq : q ≠ 0 := fun e => ha (by rw [e, zero_mul])
  exact ⟨hd, by rw [(mul_ne hq hd).2]; omega⟩
end Go.Proofs.Ytkaabkoadoomjaa.Gf
namespace Go.Proofs.Ytkaabkoadoomjaa.Gf
/-! the greatest common one -/
def gcd (a b : Nat) : Nat := if b = 0 then a else gcd b (rem a b)
termination_by b
decreasing_by rename_i h; have := rem_lt a h; have := log2_le h; omega
theorem gcd_zero (a : Nat) : gcd a 0 = a := by rw [gcd]; simp
theorem gcd_step {a b : Nat} (h : b ≠ 0) : gcd a b = gcd b (rem a b) := by rw [gcd, if_neg h]
theorem rem_lt_self (a : Nat) {b : Nat} (h : b ≠ 0) : rem a b < b := by have := rem_lt a h; have := log2_le h; omega
theorem gcd_dvd (b : Nat) : ∀ a, Dvd (gcd a b) a ∧ Dvd (gcd a b) b := by
  induction b using Nat.strongRecOn with
  | ind b ih =>
    intro a
    by_cases h : b = 0
    · subst h; rw [gcd_zero]; exact ⟨Dvd.refl a, Dvd.zero a⟩
    · rw [gcd_step h]
      obtain ⟨h1, h2⟩ := ih (rem a b) (rem_lt_self a h) b
      exact ⟨Dvd.of_xor (b := rem a b) (h1.trans (rem_self_dvd a h)) h2, h1⟩
theorem gcd_bezout (b : Nat) : ∀ a, ∃ u v, gcd a b = mul u a ^^^ mul v b := by
  induction b using Nat.strongRecOn with
  | ind b ih =>
    intro a
    by_cases h : b = 0
    · subst h; rw [gcd_zero]; exact ⟨1, 0, by rw [one_mul, zero_mul, Nat.xor_zero]⟩
    · rw [gcd_step h]
      obtain ⟨u, v, e⟩ := ih (rem a b) (rem_lt_self a h) b
      obtain ⟨q, hq⟩ := rem_div a h
      refine ⟨v, u ^^^ mul v q, ?_⟩
      rw [e]
      have : rem a b = a ^^^ mul q b := by
        conv => rhs; lhs; rw [hq]
        rw [Nat.xor_comm (mul q b), xor_xor_cancel]
      rw [this, mul_xor, mul_xor_left, mul_assoc, Nat.xor_comm (mul u b), Nat.xor_assoc]
      congr 1
      rw [Nat.xor_comm]
theorem gcd_greatest {a b d : Nat} (h : Dvd d a) (h' : Dvd d b) : Dvd d (gcd a b) := by
  obtain ⟨u, v, e⟩ := gcd_bezout b a
  rw [e]; exact (h.mul_left u).xor (h'.mul_left v)
theorem dvd_one {d : Nat} (h : Dvd d 1) : d = 1 := by
  obtain ⟨h0, h1⟩ := dvd_le h (by omega)
  have : (1 : Nat).log2 = 0 := by decide
  have h2 := lt_log2 d
  rw [show d.log2 = 0 by omega] at h2; omega
theorem log2_zero_one {d : Nat} (h0 : d ≠ 0) (h : d.log2 = 0) : d = 1 := by
  have h2 := lt_log2 d
  rw [h] at h2; omega
theorem dvd_antisymm {a b : Nat} (h : Dvd a b) (h' : Dvd b a) : a = b := by
  by_cases ha : a = 0
  · subst ha; obtain ⟨q, hq⟩ := h; rw [hq, mul_zero]
  · have hb : b ≠ 0 := (dvd_le h' ha).1
    obtain ⟨q, hq⟩ := h
    obtain ⟨_, h1⟩ := dvd_le h' ha
    have hq0 : q ≠ 0 := fun e => hb (by rw [hq, e, zero_mul])
    have := (mul_ne hq0 ha).2
    rw [← hq] at this
    have := log2_zero_one hq0 (by omega)
    rw [this, one_mul] at hq; exact hq.symm

/-! irreducible ones -/
def Irr (f : Nat) : Prop := 2 ≤ f ∧ ∀ a b, f = mul a b → a = 1 ∨ b = 1
theorem Irr.ne {f : Nat} (h : Irr f) : f ≠ 0 := by have := h.1; omega
theorem Irr.dvd {f d : Nat} (h : Irr f) (hd : Dvd d f) : d = 1 ∨ d = f := by
  obtain ⟨q, hq⟩ := hd
  rcases h.2 _ _ hq with h1 | h1
  · right; rw [h1, one_mul] at hq; exact hq.symm
  · exact .inl h1
theorem Irr.prime {f a b : Nat} (h : Irr f) (hd : Dvd f (mul a b)) : Dvd f a ∨ Dvd f b := by
  obtain ⟨h1, h2⟩ := gcd_dvd a f
  rcases h.dvd h1 with e | e
  · right
    obtain ⟨u, v, hb⟩ := gcd_bezout a f
    rw [e] at hb
    have : b = mul (mul u b) f ^^^ mul v (mul a b) := by
      rw [mul_comm (mul u b) f, ← mul_assoc, mul_comm f u, ← mul_assoc, ← mul_xor_left, ← hb, one_mul]
    rw [this]
    exact ((Dvd.refl f).mul_left _).xor (hd.mul_left v)
  · left; rw [e] at h2; exact h2
theorem Irr.not_one {f : Nat} (h : Irr f) : ¬ Dvd f 1 := fun e => by have := dvd_one e; have := h.1; omega
/-- every polynomial of degree 1 or more has an irreducible one that divides it -/
theorem exists_irr (m : Nat) : 2 ≤ m → ∃ f, Irr f ∧ Dvd f m := by
  induction m using Nat.strongRecOn with
  | ind m ih =>
    intro hm
    by_cases h : Irr m
    · exact ⟨m, h, Dvd.refl m⟩
    · have : ∃ a b, m = mul a b ∧ a ≠ 1 ∧ b ≠ 1 := by
        refine Classical.byContradiction fun hn => h ⟨hm, fun a b e => ?_⟩
        refine Classical.byContradiction fun h' => hn ⟨a, b, e, fun h1 => h' (.inl h1), fun h1 => h' (.inr h1)⟩
      obtain ⟨a, b, e, ha, hb⟩ := this
      have ha0 : a ≠ 0 := fun z => by rw [z, zero_mul] at e; omega
      have hb0 : b ≠ 0 := fun z => by rw [z, mul_zero] at e; omega
      have hl := (mul_ne ha0 hb0).2
      have hb1 : b.log2 ≠ 0 := fun z => hb (log2_zero_one hb0 z)
      have hlt : a < m := by
        have h1 := lt_log2 a
        have h2 := log2_le (a := m) (by omega)
        rw [e, hl] at h2
        have : 2 ^ (a.log2 + 1) ≤ 2 ^ (a.log2 + b.log2) := Nat.pow_le_pow_right (by omega) (by omega)
        rw [e]; omega
      obtain ⟨f, hf, hd⟩ := ih a hlt (by omega)
      exact ⟨f, hf, by rw [e]; exact hd.mul_right b⟩

/-! squaring again and again -/
def frob : Nat → Nat → Nat
  | 0, a => a
  | k + 1, a => frob k (mul a a)
theorem frob_xor (k : Nat) : ∀ a b, frob k (a ^^^ b) = frob k a ^^^ frob k b := by
  induction k with
  | zero => intro a b; rfl
  | succ k ih =>
    intro a b
    show frob k _ = frob k _ ^^^ frob k _
    rw [← ih]; congr 1
    rw [mul_xor, mul_xor_left, mul_xor_left, mul_comm b a, xor4, Nat.xor_comm (mul a b) (mul b b), ← xor4, Nat.xor_self, Nat.xor_zero]
theorem frob_mul (k : Nat) : ∀ a b, frob k (mul a b) = mul (frob k a) (frob k b) := by
  induction k with
  | zero => intro a b; rfl
  | succ k ih =>
    intro a b
    show frob k _ = mul (frob k _) (frob k _)
    rw [← ih]; congr 1
    rw [mul_assoc, mul_assoc]; congr 1
    rw [← mul_assoc, ← mul_assoc, mul_comm b a]
theorem frob_one (k : Nat) : frob k 1 = 1 := by
  induction k with
  | zero => rfl
  | succ k ih => show frob k (mul 1 1) = 1; rw [mul_one]; exact ih
theorem frob_zero (k : Nat) : frob k 0 = 0 := by
  induction k with
  | zero => rfl
  | succ k ih => show frob k (mul 0 0) = 0; rw [mul_zero]; exact ih
theorem frob_add (j k : Nat) : ∀ a, frob (j + k) a = frob k (frob j a) := by
  induction j with
  | zero => intro a; rw [Nat.zero_add]; rfl
  | succ j ih => intro a; rw [Nat.succ_add]; exact ih _
theorem frob_dvd {m a b : Nat} (k : Nat) (h : Dvd m (a ^^^ b)) : Dvd m (frob k a ^^^ frob k b) := by
  induction k generalizing a b with
  | zero => exact h
  | succ k ih => exact ih (dvd_mul_congr h h)
/-- where x comes to itself, all do -/
theorem frob_all {m k : Nat} (h : Dvd m (frob k 2 ^^^ 2)) (a : Nat) : Dvd m (frob k a ^^^ a) := by
  induction a using Nat.strongRecOn with
  | ind a ih =>
    by_cases h0 : a = 0
    · subst h0; rw [frob_zero]; exact Dvd.zero m
    · have e : a = (a % 2) ^^^ mul 2 (a / 2) := by
        have := bit_split a
        rwa [← one_mul (a / 2), ← two_mul] at this
      have e2 : frob k a ^^^ a = (frob k (a % 2) ^^^ (a % 2)) ^^^ (mul (frob k 2) (frob k (a / 2)) ^^^ mul 2 (a / 2)) := by
        conv => lhs; rw [e]
        rw [frob_xor, frob_mul, xor4]
      rw [e2]
      refine Dvd.xor ?_ (dvd_mul_congr h (ih (a / 2) (by omega)))
      rcases (by omega : a % 2 = 0 ∨ a % 2 = 1) with z | z <;> rw [z]
      · rw [frob_zero]; exact Dvd.zero m
      · rw [frob_one, Nat.xor_self]; exact Dvd.zero m

/-! powers -/
def pw (a : Nat) : Nat → Nat
  | 0 => 1
  | n + 1 => mul (pw a n) a
theorem pw_add (a j k : Nat) : pw a (j + k) = mul (pw a j) (pw a k) := by
  induction k with
  | zero => rw [Nat.add_zero]; show _ = mul _ 1; rw [mul_one]
  | succ k ih => show mul (pw a (j + k)) a = mul _ (mul _ a); rw [ih, mul_assoc]
theorem frob_pw (k : Nat) : ∀ a, frob k a = pw a (2 ^ k) := by
  induction k with
  | zero => intro a; show a = mul 1 a; rw [one_mul]
  | succ k ih =>
    intro a
    show frob k (mul a a) = _
    rw [frob_mul, ih, ← pw_add, Nat.pow_succ]; congr 1; omega

/-! roots: a polynomial of degree n in the field of what is left by f has n roots at most -/
def ev (acc : Nat) : List Nat → Nat → Nat
  | [], _ => acc
  | c :: cs, t => ev (mul acc t ^^^ c) cs t
def part (acc : Nat) : List Nat → Nat → List Nat
  | [], _ => []
  | c :: cs, r => (mul acc r ^^^ c) :: part (mul acc r ^^^ c) cs r
theorem part_length (cs : List Nat) (r : Nat) : ∀ acc, (part acc cs r).length = cs.length := by
  induction cs with
  | nil => intro acc; rfl
  | cons c cs ih => intro acc; simp [part, ih]
theorem ev_xor (cs : List Nat) (t : Nat) : ∀ acc b, ev (acc ^^^ b) cs t = ev acc cs t ^^^ mul b (pw t cs.length) := by
  induction cs with
  | nil => intro acc b; simp [ev, pw, mul_one]
  | cons c cs ih =>
    intro acc b
    show ev (mul (acc ^^^ b) t ^^^ c) cs t = ev (mul acc t ^^^ c) cs t ^^^ mul b (mul (pw t cs.length) t)
    rw [mul_xor_left, show mul acc t ^^^ mul b t ^^^ c = (mul acc t ^^^ c) ^^^ mul b t by rw [Nat.xor_assoc, Nat.xor_assoc, Nat.xor_comm c], ih]
    congr 1
    rw [mul_assoc, mul_comm t]
/-- ev at t and at r: they part by a multiple of t ^^^ r; what it is multiplied by: the partial sums, but for the last -/
theorem ev_part (cs : List Nat) (t r : Nat) : ∀ acc c, ev acc (c :: cs) t ^^^ ev acc (c :: cs) r = mul (t ^^^ r) (ev acc (part acc (c :: cs) r).dropLast t) := by
  induction cs with
  | nil =>
    intro acc c
    show (mul acc t ^^^ c) ^^^ (mul acc r ^^^ c) = mul (t ^^^ r) acc
    rw [xor4, Nat.xor_self, Nat.xor_zero, ← mul_xor, mul_comm]
  | cons d cs ih =>
    intro acc c
    have e1 : ev acc (c :: d :: cs) t = ev (mul acc r ^^^ c) (d :: cs) t ^^^ mul (mul acc (t ^^^ r)) (pw t (d :: cs).length) := by
      rw [← ev_xor]
      show ev (mul acc t ^^^ c) (d :: cs) t = _
      congr 1
      rw [mul_xor]
      generalize mul acc t = x; generalize mul acc r = y
      rw [Nat.xor_comm y c, Nat.xor_comm x y, Nat.xor_assoc, ← Nat.xor_assoc y y x, Nat.xor_self, Nat.zero_xor, Nat.xor_comm]
    have e2 : ev acc (c :: d :: cs) r = ev (mul acc r ^^^ c) (d :: cs) r := rfl
    rw [e1, e2, Nat.xor_assoc, Nat.xor_comm (mul (mul acc (t ^^^ r)) _), ← Nat.xor_assoc, ih]
    have e3 : (part acc (c :: d :: cs) r).dropLast = (mul acc r ^^^ c) :: (part (mul acc r ^^^ c) (d :: cs) r).dropLast := by
      show ((mul acc r ^^^ c) :: part (mul acc r ^^^ c) (d :: cs) r).dropLast = _
      rw [List.dropLast_cons_of_ne_nil]
      simp [part]
    rw [e3]
    generalize hL : (part (mul acc r ^^^ c) (d :: cs) r).dropLast = L
    have hlen : L.length = cs.length := by rw [← hL]; simp [part_length]
    show _ = mul (t ^^^ r) (ev (mul acc t ^^^ (mul acc r ^^^ c)) L t)
    generalize mul acc r ^^^ c = z
    rw [show mul acc t ^^^ z = z ^^^ mul acc t from Nat.xor_comm _ _, ev_xor L t z (mul acc t), mul_xor (t ^^^ r)]
    congr 1
    rw [hlen, List.length_cons]
    show mul (mul acc (t ^^^ r)) (mul (pw t cs.length) t) = _
    rw [mul_comm acc (t ^^^ r), mul_assoc, mul_assoc]; congr 2
    rw [mul_comm (pw t cs.length) t]
theorem roots_lead {f : Nat} (hf : Irr f) : ∀ (cs : List Nat) (acc : Nat) (rs : List Nat), rs.length = cs.length + 1 → rs.Pairwise (fun s t => ¬ Dvd f (s ^^^ t)) →
    (∀ r ∈ rs, Dvd f (ev acc cs r)) → Dvd f acc := by
  intro cs
  induction hn : cs.length generalizing cs with
  | zero =>
    intro acc rs hl hp hr
    obtain rfl := List.eq_nil_of_length_eq_zero hn
    obtain ⟨r, rs', rfl⟩ := List.exists_cons_of_length_pos (by omega : 0 < rs.length)
    exact hr r (by simp)
  | succ n ih =>
    intro acc rs hl hp hr
    obtain ⟨c, cs', rfl⟩ := List.exists_cons_of_length_pos (by omega : 0 < cs.length)
    obtain ⟨r, rs', rfl⟩ := List.exists_cons_of_length_pos (by omega : 0 < rs.length)
    rw [List.pairwise_cons] at hp
    refine ih (part acc (c :: cs') r).dropLast (by simp [part_length]; simpa using hn) acc rs' (by simp at hl; omega) hp.2 ?_
    intro t ht
    have h1 := (hr t (by simp [ht])).xor (hr r (by simp))
    rw [ev_part] at h1
    rcases hf.prime h1 with h2 | h2
    · exact absurd (by rw [Nat.xor_comm]; exact h2) (hp.1 t ht)
    · exact h2
theorem ev_zeros (n t : Nat) : ∀ acc, ev acc (List.replicate n 0) t = mul acc (pw t n) := by
  induction n with
  | zero => intro acc; show acc = mul acc 1; rw [mul_one]
  | succ n ih =>
    intro acc
    rw [List.replicate_succ]
    show ev (mul acc t ^^^ 0) _ t = mul acc (mul (pw t n) t)
    rw [Nat.xor_zero, ih, mul_assoc, mul_comm t]
theorem ev_append (cs ds : List Nat) (t : Nat) : ∀ acc, ev acc (cs ++ ds) t = ev (ev acc cs t) ds t := by
  induction cs with
  | nil => intro acc; rfl
  | cons c cs ih => intro acc; exact ih _
theorem log_small {a b n : Nat} (ha : a < 2 ^ n) (hb : b < 2 ^ n) (f : Nat) (hf : f.log2 = n) (h0 : f ≠ 0) (h : Dvd f (a ^^^ b)) : a = b := by
  have := (rem_eq_iff (a := a) (b := b) h0).mpr h
  rwa [rem_small (by rw [hf]; exact ha), rem_small (by rw [hf]; exact hb)] at this
/-- (B): by an irreducible f of degree e: where x, squared k times, is x again (1 ≤ k), e ≤ k -/
theorem frob_degree {f k : Nat} (hf : Irr f) (hk : 1 ≤ k) (h : Dvd f (frob k 2 ^^^ 2)) : f.log2 ≤ k := by
  refine Classical.byContradiction fun hn => ?_
  have hlt : k < f.log2 := by omega
  have hp : 2 ^ k < 2 ^ f.log2 := Nat.pow_lt_pow_right (by omega) hlt
  have h2 : 2 ≤ 2 ^ k := by
    have := Nat.pow_le_pow_right (n := 2) (by omega) hk
    simpa using this
  refine hf.not_one (roots_lead hf (List.replicate (2 ^ k - 2) 0 ++ [1, 0]) 1 (List.range (2 ^ k + 1)) (by simp; omega) ?_ ?_)
  · refine List.Pairwise.imp_of_mem (R := fun a b => a ≠ b) ?_ List.nodup_range
    intro a b ha hb hab hd
    rw [List.mem_range] at ha hb
    exact hab (log_small (by omega) (by omega) f rfl hf.ne hd)
  · intro r _
    rw [ev_append, ev_zeros, one_mul]
    show Dvd f (mul (mul (pw r (2 ^ k - 2)) r ^^^ 1) r ^^^ 0)
    rw [Nat.xor_zero, mul_xor_left, one_mul]
    have e : mul (mul (pw r (2 ^ k - 2)) r) r = pw r (2 ^ k) := by
      rw [show 2 ^ k = (2 ^ k - 2) + 1 + 1 by omega]; rfl
    rw [e, ← frob_pw]
    exact frob_all h r
end Go.Proofs.Ytkaabkoadoomjaa.Gf
namespace Go.Proofs.Ytkaabkoadoomjaa.Gf
theorem length_le_of_subset {l l' : List Nat} (h : l.Nodup) (hs : ∀ a ∈ l, a ∈ l') : l.length ≤ l'.length := by
  induction l generalizing l' with
  | nil => simp
  | cons a l ih =>
    rw [List.nodup_cons] at h
    have h1 : a ∈ l' := hs a (by simp)
    have := ih (l' := l'.erase a) h.2 (fun b hb => (List.mem_erase_of_ne (by rintro rfl; exact h.1 hb)).mpr (hs b (by simp [hb])))
    rw [List.length_erase_of_mem h1] at this
    have := List.length_pos_of_mem h1
    simp; omega
theorem perm_of_subset {l l' : List Nat} (h : l.Nodup) (h' : l'.Nodup) (hs : ∀ a ∈ l, a ∈ l') (hl : l'.length ≤ l.length) : l.Perm l' := by
  rw [List.perm_ext_iff_of_nodup h h']
  refine fun a => ⟨hs a, fun ha => ?_⟩
  refine Classical.byContradiction fun hn => ?_
  have := length_le_of_subset (l := a :: l) (l' := l') (List.nodup_cons.mpr ⟨hn, h⟩) (by
    intro b hb
    rcases List.mem_cons.mp hb with rfl | hb
    · exact ha
    · exact hs b hb)
  simp at this; omega
def prod (l : List Nat) : Nat := l.foldr mul 1
theorem prod_perm {l l' : List Nat} (h : l.Perm l') : prod l = prod l' :=
  h.foldr_eq' (fun x _ y _ z => by rw [← mul_assoc, ← mul_assoc, mul_comm y x]) 1
theorem prod_not {f : Nat} (hf : Irr f) (l : List Nat) (h : ∀ a ∈ l, ¬ Dvd f a) : ¬ Dvd f (prod l) := by
  induction l with
  | nil => exact hf.not_one
  | cons a l ih =>
    intro hd
    rcases hf.prime hd with h1 | h1
    · exact h a (by simp) h1
    · exact ih (fun b hb => h b (by simp [hb])) h1
theorem prod_map {f : Nat} (h0 : f ≠ 0) (a : Nat) (l : List Nat) : Dvd f (prod (l.map fun r => rem (mul a r) f) ^^^ mul (pw a l.length) (prod l)) := by
  induction l with
  | nil => show Dvd f (1 ^^^ mul 1 1); rw [mul_one, Nat.xor_self]; exact Dvd.zero f
  | cons b l ih =>
    have e : mul (pw a (b :: l).length) (prod (b :: l)) = mul (mul a b) (mul (pw a l.length) (prod l)) := by
      show mul (mul (pw a l.length) a) (mul b (prod l)) = _
      rw [mul_comm (pw a l.length) a, mul_assoc, mul_assoc, ← mul_assoc (pw a l.length) b, mul_comm (pw a l.length) b, mul_assoc]
    rw [e]
    exact dvd_mul_congr (by rw [Nat.xor_comm]; exact rem_self_dvd _ h0) ih
/-- (A): by an irreducible f of degree e, each one, squared e times, is itself again -/
theorem frob_self {f : Nat} (hf : Irr f) (a : Nat) : Dvd f (frob f.log2 a ^^^ a) := by
  have h0 := hf.ne
  by_cases ha : Dvd f a
  · have h1 : Dvd f (frob f.log2 a) := by
      have := frob_dvd (a := a) (b := 0) f.log2 (by rw [Nat.xor_zero]; exact ha)
      rwa [frob_zero, Nat.xor_zero] at this
    exact h1.xor ha
  · have hpos : 0 < 2 ^ f.log2 := Nat.two_pow_pos _
    generalize hL : List.range' 1 (2 ^ f.log2 - 1) = L
    have hLn : L.Nodup := by rw [← hL]; exact List.nodup_range'
    have hLm : ∀ r, r ∈ L ↔ 1 ≤ r ∧ r < 2 ^ f.log2 := by intro r; rw [← hL, List.mem_range'_1]; omega
    have hLl : L.length = 2 ^ f.log2 - 1 := by rw [← hL]; simp
    have hnd : ∀ r ∈ L, ¬ Dvd f r := by
      intro r hr hd
      have := (hLm r).mp hr
      have h2 := log_small (a := r) (b := 0) this.2 hpos f rfl h0 (by rw [Nat.xor_zero]; exact hd)
      omega
    have hp : (L.map fun r => rem (mul a r) f).Perm L := by
      refine perm_of_subset ?_ hLn ?_ (by simp)
      · rw [List.nodup_iff_pairwise_ne, List.pairwise_map]
        refine List.Pairwise.imp_of_mem (R := fun a b => a ≠ b) ?_ (List.nodup_iff_pairwise_ne.mp hLn)
        intro r s hr hs hrs e
        rw [rem_eq_iff h0, ← mul_xor] at e
        rcases hf.prime e with h1 | h1
        · exact ha h1
        · exact hrs (log_small ((hLm r).mp hr).2 ((hLm s).mp hs).2 f rfl h0 h1)
      · intro b hb
        obtain ⟨r, hr, rfl⟩ := List.mem_map.mp hb
        rw [hLm]
        refine ⟨?_, rem_lt _ h0⟩
        have : rem (mul a r) f ≠ 0 := by
          intro e
          rcases hf.prime ((dvd_rem h0).mpr e) with h1 | h1
          · exact ha h1
          · exact hnd r hr h1
        omega
    have h1 := prod_map h0 a L
    rw [prod_perm hp, hLl] at h1
    have h2 : Dvd f (mul (1 ^^^ pw a (2 ^ f.log2 - 1)) (prod L)) := by rwa [mul_xor_left, one_mul]
    rcases hf.prime h2 with h3 | h3
    · rw [frob_pw]
      have : pw a (2 ^ f.log2) = mul (pw a (2 ^ f.log2 - 1)) a := by
        rw [show 2 ^ f.log2 = (2 ^ f.log2 - 1) + 1 by omega]; rfl
      rw [this]
      have h4 := h3.mul_right a
      rw [mul_xor_left, one_mul, Nat.xor_comm] at h4
      exact h4
    · exact absurd h3 (prod_not hf L hnd)
theorem frob_times {m e : Nat} (h : Dvd m (frob e 2 ^^^ 2)) (q : Nat) : Dvd m (frob (e * q) 2 ^^^ 2) := by
  induction q with
  | zero => rw [Nat.mul_zero]; show Dvd m (2 ^^^ 2); rw [Nat.xor_self]; exact Dvd.zero m
  | succ q ih =>
    rw [Nat.mul_succ, frob_add]
    have h1 := frob_all h (frob (e * q) 2)
    have := h1.xor ih
    rwa [Nat.xor_assoc, ← Nat.xor_assoc (frob (e * q) 2), Nat.xor_self, Nat.zero_xor] at this
/-- what Rabin's test asks -/
def Test (m : Nat) : Prop := Dvd m (frob m.log2 2 ^^^ 2) ∧ ∀ p, 2 ≤ p → p ∣ m.log2 → (∀ q, 2 ≤ q → q ∣ p → q = p) → ∀ c, Dvd c m → Dvd c (frob (m.log2 / p) 2 ^^^ 2) → c = 1
theorem exists_prime (n : Nat) : 2 ≤ n → ∃ p, 2 ≤ p ∧ p ∣ n ∧ ∀ q, 2 ≤ q → q ∣ p → q = p := by
  induction n using Nat.strongRecOn with
  | ind n ih =>
    intro hn
    by_cases h : ∀ q, 2 ≤ q → q ∣ n → q = n
    · exact ⟨n, hn, Nat.dvd_refl n, h⟩
    · have : ∃ q, 2 ≤ q ∧ q ∣ n ∧ q ≠ n := by
        refine Classical.byContradiction fun hx => h fun q h1 h2 => ?_
        exact Classical.byContradiction fun h3 => hx ⟨q, h1, h2, h3⟩
      obtain ⟨q, h1, h2, h3⟩ := this
      have := Nat.le_of_dvd (by omega) h2
      obtain ⟨p, p1, p2, p3⟩ := ih q (by omega) h1
      exact ⟨p, p1, Nat.dvd_trans p2 h2, p3⟩
theorem Test.irr {m : Nat} (hm : 2 ≤ m) (h : Test m) : Irr m := by
  obtain ⟨f, hf, hd⟩ := exists_irr m hm
  have hm0 : m ≠ 0 := by omega
  have he := (dvd_le hd hm0).2
  have hf1 : 1 ≤ f.log2 := by
    refine Classical.byContradiction fun hn => ?_
    have := log2_zero_one hf.ne (by omega); have := hf.1; omega
  have h1 : Dvd f (frob m.log2 2 ^^^ 2) := hd.trans h.1
  have h2 := frob_self hf 2
  have h3 : f.log2 ∣ m.log2 := by
    refine Classical.byContradiction fun hn => ?_
    have hr : m.log2 % f.log2 ≠ 0 := fun z => hn (Nat.dvd_of_mod_eq_zero z)
    have hlt := Nat.mod_lt m.log2 (by omega : f.log2 > 0)
    have e : m.log2 = f.log2 * (m.log2 / f.log2) + m.log2 % f.log2 := (Nat.div_add_mod _ _).symm
    have h4 := frob_dvd (m.log2 % f.log2) (frob_times h2 (m.log2 / f.log2))
    rw [← frob_add, ← e] at h4
    have h5 := h4.xor h1
    rw [Nat.xor_comm (frob m.log2 2) _, Nat.xor_assoc, ← Nat.xor_assoc (frob m.log2 2), Nat.xor_self, Nat.zero_xor] at h5
    have := frob_degree hf (by omega) h5
    omega
  obtain ⟨s, hs⟩ := h3
  by_cases hs1 : s = 1
  · have : f = m := by
      obtain ⟨q, hq⟩ := hd
      have hq0 : q ≠ 0 := fun z => hm0 (by rw [hq, z, zero_mul])
      have hl := (mul_ne hq0 hf.ne).2
      rw [← hq, hs, hs1] at hl
      have := log2_zero_one hq0 (by omega)
      rw [this, one_mul] at hq; exact hq.symm
    rw [← this]; exact hf
  · exfalso
    have hs0 : s ≠ 0 := by
      intro z; rw [z, Nat.mul_zero] at hs; omega
    obtain ⟨p, p1, ⟨t, ht⟩, p3⟩ := exists_prime s (by omega)
    have hdiv : m.log2 / p = f.log2 * t := by
      rw [hs, ht, show f.log2 * (p * t) = p * (f.log2 * t) by rw [← Nat.mul_assoc, Nat.mul_comm f.log2 p, Nat.mul_assoc]]
      exact Nat.mul_div_cancel_left _ (by omega)
    have h4 := h.2 p p1 ⟨f.log2 * t, by rw [hs, ht, ← Nat.mul_assoc, Nat.mul_comm f.log2 p, Nat.mul_assoc]⟩ p3 f hd (by rw [hdiv]; exact frob_times h2 t)
    have := hf.1; omega
/-- an irreducible one of degree d passes, and so it does at any number p that divides d -/
theorem Irr.test {m : Nat} (hm : Irr m) : Dvd m (frob m.log2 2 ^^^ 2) ∧ ∀ p, 2 ≤ p → p ∣ m.log2 → ∀ c, Dvd c m → Dvd c (frob (m.log2 / p) 2 ^^^ 2) → c = 1 := by
  refine ⟨frob_self hm 2, fun p hp hpd c hc hc2 => ?_⟩
  rcases hm.dvd hc with e | e
  · exact e
  · exfalso
    have hl : 1 ≤ m.log2 := by
      refine Classical.byContradiction fun hn => ?_
      have := log2_zero_one hm.ne (by omega); have := hm.1; omega
    obtain ⟨k, hk⟩ := hpd
    have hk0 : k ≠ 0 := by intro z; rw [z, Nat.mul_zero] at hk; omega
    have hdiv : m.log2 / p = k := by rw [hk]; exact Nat.mul_div_cancel_left _ (by omega)
    rw [e, hdiv] at hc2
    have := frob_degree hm (by omega) hc2
    have : 2 * k ≤ p * k := Nat.mul_le_mul_right k hp
    omega
/-- by trying: none of the polynomials of a degree from 1 up to half of m's divides it -/
theorem irr_iff_try {m : Nat} (hm : 2 ≤ m) : Irr m ↔ ∀ f, 2 ≤ f → 2 * f.log2 ≤ m.log2 → ¬ Dvd f m := by
  constructor
  · intro h f hf hl hd
    rcases h.dvd hd with e | e
    · omega
    · rw [e] at hl
      have := log2_zero_one h.ne (by omega)
      omega
  · intro h
    refine ⟨hm, fun a b e => ?_⟩
    refine Classical.byContradiction fun hn => ?_
    have ha : a ≠ 1 := fun z => hn (.inl z)
    have hb : b ≠ 1 := fun z => hn (.inr z)
    have ha0 : a ≠ 0 := fun z => by rw [z, zero_mul] at e; omega
    have hb0 : b ≠ 0 := fun z => by rw [z, mul_zero] at e; omega
    have hl := (mul_ne ha0 hb0).2
    rw [← e] at hl
    by_cases hab : a.log2 ≤ b.log2
    · exact h a (by omega) (by omega) ⟨b, by rw [mul_comm]; exact e⟩
    · exact h b (by omega) (by omega) ⟨a, e⟩
end Go.Proofs.Ytkaabkoadoomjaa.Gf
