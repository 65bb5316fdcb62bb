/- What the printed functions of the reference (hypogeumref12) come to: coefficients one by one, what is left of them, products of them, factors by trying. -/
import Derived.Test.YtgkkimonpfhbdaaAx6
import Derived.Test.YtgkkimonpfhbdaaBase
namespace Go.Proofs.Ytgkkimonpfhbdaa.Law
open Go.RowKit Go.Proofs.Ytgkkimonpfhbdaa.A Go.Proofs.YtgkkimonpfhbdaaW.PrintWords Go.Proofs.YtgkkimonpfhbdaaW.PrintLast Go.Proofs.YtgkkimonpfhbdaaW.PrintMore
/-! lists of coefficients -/
def ci (l : List Nat) : List Int := l.map fun (n : Nat) => (n : Int)
def BL (l : List Nat) : Prop := ∀ b ∈ l, b < 2
def val : List Nat → Nat
  | [] => 0
  | b :: l => b + 2 * val l
theorem ci_length (l : List Nat) : (ci l).length = l.length := by simp [ci]
theorem rd_ci (l : List Nat) (j : Nat) : rd (ci l) (j : Int) = ((l.getD j 0 : Nat) : Int) := by
  unfold rd ci
  rw [show (j : Int).toNat = j from rfl, List.getD_eq_getElem?_getD, List.getD_eq_getElem?_getD, List.getElem?_map]
  cases l[j]? <;> rfl
theorem set_ci (l : List Nat) (j v : Nat) : (ci l).set j (v : Int) = ci (l.set j v) := by
  unfold ci; rw [List.map_set]
theorem getD_lt {l : List Nat} (h : BL l) (j : Nat) : l.getD j 0 < 2 := by
  rw [List.getD_eq_getElem?_getD]
  cases hj : l[j]? with
  | none => simp
  | some b => exact h b (List.mem_of_getElem? hj)
theorem BL.set {l : List Nat} (h : BL l) (j : Nat) {v : Nat} (hv : v < 2) : BL (l.set j v) := by
  intro b hb
  rcases List.mem_or_eq_of_mem_set hb with h1 | h1
  · exact h b h1
  · rw [h1]; exact hv
theorem val_bit {l : List Nat} (h : BL l) : ∀ i, (val l).testBit i = decide (l.getD i 0 = 1) := by
  induction l with
  | nil => intro i; simp [val]
  | cons b l ih =>
    have hb := h b (by simp)
    have hl : BL l := fun x hx => h x (by simp [hx])
    intro i
    cases i with
    | zero =>
      show (b + 2 * val l).testBit 0 = decide (b = 1)
      rw [Nat.testBit_zero]
      congr 1
      rw [eq_iff_iff]; omega
    | succ i =>
      show (b + 2 * val l).testBit (i + 1) = decide (l.getD i 0 = 1)
      rw [← ih hl i, Nat.testBit_succ]; congr 1; omega
theorem val_lt {l : List Nat} (h : BL l) : val l < 2 ^ l.length := by
  induction l with
  | nil => simp [val]
  | cons b l ih =>
    have hb := h b (by simp)
    have := ih fun x hx => h x (by simp [hx])
    show b + 2 * val l < 2 ^ (l.length + 1)
    rw [Nat.pow_succ]; omega
/-- a number's coefficients -/
def cof (a : Nat) : List Nat := if a = 0 then [] else a % 2 :: cof (a / 2)
termination_by a
decreasing_by omega
theorem cof_zero : cof 0 = [] := by rw [cof]; simp
theorem cof_step {a : Nat} (h : a ≠ 0) : cof a = a % 2 :: cof (a / 2) := by rw [cof, if_neg h]
theorem cof_spec (a : Nat) : BL (cof a) ∧ val (cof a) = a ∧ (cof a).length = len a := by
  induction a using Nat.strongRecOn with
  | ind a ih =>
    by_cases h : a = 0
    · subst h; rw [cof_zero]; exact ⟨fun b hb => by simp at hb, rfl, rfl⟩
    · obtain ⟨h1, h2, h3⟩ := ih (a / 2) (by omega)
      rw [cof_step h]
      refine ⟨?_, ?_, ?_⟩
      · intro b hb
        rcases List.mem_cons.mp hb with e | e
        · omega
        · exact h1 b e
      · show a % 2 + 2 * val (cof (a / 2)) = a
        rw [h2]; omega
      · rw [List.length_cons, h3]
        by_cases h4 : 2 ≤ a
        · have := len_shift (a := a) 1 (by omega)
          rw [Nat.pow_one] at this; omega
        · obtain rfl : a = 1 := by omega
          decide
theorem ev_coef_l (a : Nat) : ∀ l : List Int, U a → l.length + len a ≤ 1000 → Ev (fun k => hypogeumref12_coefficients.l0 k (a : Int) l) (l ++ ci (cof a)) := by
  induction a using Nat.strongRecOn with
  | ind a ih =>
    intro l ha hl
    by_cases h : a = 0
    · subst h
      rw [cof_zero]
      refine Ev.step (f := fun _ => some l) (fun k => rfl) ?_
      simp only [ci, List.map_nil, List.append_nil]; exact Ev.now _
    · have hlen : (cof a).length = len a := (cof_spec a).2.2
      have hlen2 : (cof (a / 2)).length = len (a / 2) := (cof_spec (a / 2)).2.2
      rw [cof_step h, List.length_cons] at hlen
      refine Ev.step (f := fun k => hypogeumref12_coefficients.l0 k ((a / 2 : Nat) : Int) (l ++ [((a % 2 : Nat) : Int)])) (fun k => ?_) ?_
      · simp only [hypogeumref12_coefficients.l0]
        unfold U at ha
        rw [if_pos (by omega), if_pos (by omega), show (2 : Int) = ((2 : Nat) : Int) from rfl, tdiv_nat, tmod_nat, wrapU, w64 (by omega) (by omega),
          show ((a / 2 : Nat) : Int) % 18446744073709551616 = ((a / 2 : Nat) : Int) by omega]
      · have := ih (a / 2) (by omega) (l ++ [((a % 2 : Nat) : Int)]) (u_le ha (by omega)) (by simp; omega)
        rw [cof_step h]
        simpa [ci] using this
theorem ev_coef {a : Nat} (ha : U a) : Ev (fun k => hypogeumref12_coefficients.f k (a : Int)) (ci (cof a)) := by
  have := ev_coef_l a [] ha (by have := len_u ha; simp; omega)
  rw [List.nil_append] at this; exact this
/-- the number that coefficients tell, from place n - 1 down -/
theorem ev_of_l {l : List Nat} (hB : BL l) (hl : l.length ≤ 63) (n : Nat) : ∀ x : Nat, n ≤ l.length → x = val (l.drop n) →
    Ev (fun k => hypogeumref12_of.l0 k (ci l) (x : Int) ((n : Int) - 1)) (val l : Int) := by
  induction n with
  | zero =>
    intro x _ hx
    rw [hx, List.drop_zero]
    exact Ev.step (f := fun _ => some (val l : Int)) (fun k => by simp only [hypogeumref12_of.l0]; rw [if_neg (by omega)]) (Ev.now _)
  | succ n ih =>
    intro x hn hx
    have hBd : BL (l.drop n) := fun b hb => hB b (List.mem_of_mem_drop hb)
    have hBd1 : BL (l.drop (n + 1)) := fun b hb => hB b (List.mem_of_mem_drop hb)
    have hd : l.drop n = l.getD n 0 :: l.drop (n + 1) := by
      rw [List.drop_eq_getElem_cons (by omega)]
      congr 1
      rw [List.getD_eq_getElem?_getD, List.getElem?_eq_getElem (by omega)]; rfl
    have hv : val (l.drop n) = l.getD n 0 + 2 * x := by rw [hd, hx]; rfl
    have hlt := val_lt hBd
    have hle : 2 ^ (l.drop n).length ≤ 2 ^ 63 := Nat.pow_le_pow_right (by omega) (by rw [List.length_drop]; omega)
    have h63 : (2 : Nat) ^ 63 = 9223372036854775808 := by decide
    have hg := getD_lt hB n
    refine Ev.step (f := fun k => hypogeumref12_of.l0 k (ci l) ((val (l.drop n) : Nat) : Int) ((n : Int) - 1)) (fun k => ?_) (ih _ (by omega) rfl)
    simp only [hypogeumref12_of.l0]
    rw [if_pos (by omega), if_pos (by omega), if_pos (by rw [ci_length]; omega), show (((n + 1 : Nat) : Int) - 1) = (n : Int) by omega, rd_ci, wrapU, wrapU, wrapU, w64 (by omega) (by omega)]
    congr 1
    rw [hv]; omega
theorem ev_of {l : List Nat} (hB : BL l) (hl : l.length ≤ 63) : Ev (fun k => hypogeumref12_of.f k (ci l)) (val l : Int) := by
  refine Ev.congr (fun k => ?_) (ev_of_l hB hl l.length 0 (Nat.le_refl _) (by rw [List.drop_length]; rfl))
  unfold hypogeumref12_of.f
  rw [ci_length, w64 (by omega) (by omega)]; rfl
/-! what is left of coefficients -/
theorem xor_mod2 {x y : Nat} (hx : x < 2) (hy : y < 2) : decide ((x + y) % 2 = 1) = (decide (x = 1) ^^ decide (y = 1)) := by
  have h1 : x = 0 ∨ x = 1 := by omega
  have h2 : y = 0 ∨ y = 1 := by omega
  rcases h1 with rfl | rfl <;> rcases h2 with rfl | rfl <;> decide
theorem getD_set (l : List Nat) (j v i : Nat) (hj : j < l.length) : (l.set j v).getD i 0 = if j = i then v else l.getD i 0 := by
  rw [List.getD_eq_getElem?_getD, List.getD_eq_getElem?_getD, List.getElem?_set]
  by_cases h : j = i
  · subst h; rw [if_pos rfl, if_pos rfl, if_pos hj]; rfl
  · rw [if_neg h, if_neg h]
/-- the bits of a list after k of m's (from its last one) were put upon it below place i -/
def put (l m : List Nat) (i k : Nat) : Nat → Nat := fun j => if j ≤ i ∧ i < j + k then (l.getD j 0 + m.getD (m.length - 1 - (i - j)) 0) % 2 else l.getD j 0
theorem put_next {l m : List Nat} {i k : Nat} (j : Nat) : put l m i (k + 1) j = if j + k = i then (l.getD j 0 + m.getD (m.length - 1 - k) 0) % 2 else put l m i k j := by
  unfold put
  by_cases h : j + k = i
  · rw [if_pos h, if_pos (by omega), show i - j = k by omega]
  · rw [if_neg h]
    by_cases h2 : j ≤ i ∧ i < j + k
    · rw [if_pos h2, if_pos (by omega)]
    · rw [if_neg h2, if_neg (by omega)]
theorem put_lt {l m : List Nat} (hl : BL l) (i k j : Nat) : put l m i k j < 2 := by
  unfold put
  split
  · omega
  · exact getD_lt hl j
/-- all of m's: they are the number's, moved -/
theorem val_put {l m l' : List Nat} {i : Nat} (hl : BL l) (hm : BL m) (hl' : BL l') (hm1 : 1 ≤ m.length) (hi : m.length - 1 ≤ i) (h : ∀ j, l'.getD j 0 = put l m i m.length j) : val l' = val l ^^^ (val m * 2 ^ (i - (m.length - 1))) := by
  apply Nat.eq_of_testBit_eq
  intro j
  rw [val_bit hl', Nat.testBit_xor, val_bit hl, Nat.testBit_mul_two_pow, h j]
  unfold put
  by_cases h1 : j ≤ i ∧ i < j + m.length
  · rw [if_pos h1, xor_mod2 (getD_lt hl j) (getD_lt hm _), decide_eq_true (show i - (m.length - 1) ≤ j by omega), Bool.true_and, val_bit hm,
      show m.length - 1 - (i - j) = j - (i - (m.length - 1)) by omega]
  · rw [if_neg h1]
    by_cases h2 : i - (m.length - 1) ≤ j
    · have h3 : m.length ≤ j - (i - (m.length - 1)) := by omega
      have : (val m).testBit (j - (i - (m.length - 1))) = false := by
        rw [val_bit hm, List.getD_eq_getElem?_getD, List.getElem?_eq_none h3]; rfl
      rw [this, Bool.and_false, Bool.xor_false]
    · rw [decide_eq_false h2, Bool.false_and, Bool.xor_false]
theorem val_take {l : List Nat} (hl : BL l) (n : Nat) (h : ∀ j, n ≤ j → l.getD j 0 = 0) : val (l.take n) = val l := by
  have hb : BL (l.take n) := fun b hb => hl b (List.mem_of_mem_take hb)
  apply Nat.eq_of_testBit_eq
  intro j
  rw [val_bit hb, val_bit hl]
  by_cases hj : j < n
  · rw [List.getD_eq_getElem?_getD, List.getElem?_take, if_pos hj, List.getD_eq_getElem?_getD]
  · rw [h j (by omega), List.getD_eq_getElem?_getD, List.getElem?_take, if_neg hj]; rfl
theorem getD_none {l : List Nat} {j : Nat} (h : l.length ≤ j) : l.getD j 0 = 0 := by
  rw [List.getD_eq_getElem?_getD, List.getElem?_eq_none h]; rfl
section
variable {m : List Nat} (hB : BL m) (hm1 : 1 ≤ m.length) (hm64 : m.length ≤ 64)
include hB hm1 hm64
/-- the inner loop -/
theorem ev_rest_in {l : List Nat} (hl : BL l) (hl128 : l.length ≤ 128) {i : Nat} (hi : m.length - 1 ≤ i) (hil : i < l.length) {r : List Int}
    (next : ∀ l' : List Nat, BL l' → l'.length = l.length → val l' = val l ^^^ (val m * 2 ^ (i - (m.length - 1))) → (∀ j, i < j → l'.getD j 0 = l.getD j 0) → l'.getD i 0 = (l.getD i 0 + m.getD (m.length - 1) 0) % 2 →
      Ev (fun k => hypogeumref12_rest.l0 k (ci m) (ci l') ((i : Int) - 1)) r)
    (n : Nat) : ∀ (k : Nat) (l' : List Nat), k + n = m.length → BL l' → l'.length = l.length → (∀ j, l'.getD j 0 = put l m i k j) →
      Ev (fun q => hypogeumref12_rest.l1 q (ci m) (ci l') (i : Int) (k : Int)) r := by
  induction n with
  | zero =>
    intro k l' hk hb hlen h
    obtain rfl : k = m.length := by omega
    refine Ev.step (fun q => ?_) (next l' hb hlen (val_put hl hB hb hm1 hi h) (fun j hj => by rw [h j]; unfold put; rw [if_neg (by omega)]) (by rw [h i]; unfold put; rw [if_pos (by omega), Nat.sub_self, Nat.sub_zero]))
    simp only [hypogeumref12_rest.l1]
    rw [if_neg (by rw [ci_length]; omega), w64 (by omega) (by omega)]
  | succ n ih =>
    intro k l' hk hb hlen h
    have hv : (l.getD (i - k) 0 + m.getD (m.length - 1 - k) 0) % 2 < 2 := Nat.mod_lt _ (by omega)
    refine Ev.step (f := fun q => hypogeumref12_rest.l1 q (ci m) (ci (l'.set (i - k) ((l.getD (i - k) 0 + m.getD (m.length - 1 - k) 0) % 2))) (i : Int) ((k + 1 : Nat) : Int)) (fun q => ?_)
      (ih (k + 1) (l'.set (i - k) ((l.getD (i - k) 0 + m.getD (m.length - 1 - k) 0) % 2)) (by omega) (hb.set _ hv) (by rw [List.length_set, hlen]) (fun j => ?_))
    · have g1 := getD_lt hl (i - k)
      have g2 := getD_lt hB (m.length - 1 - k)
      have e0 : l'.getD (i - k) 0 = l.getD (i - k) 0 := by
        rw [h]; unfold put; rw [if_neg (by omega)]
      simp only [hypogeumref12_rest.l1]
      rw [ci_length, ci_length, if_pos (by omega)]
      have e1 : wrap64 ((i : Int) - (k : Int)) = ((i - k : Nat) : Int) := by rw [w64 (by omega) (by omega)]; omega
      have e2 : wrap64 ((wrap64 ((m.length : Int) - 1)) - (k : Int)) = ((m.length - 1 - k : Nat) : Int) := by
        rw [w64 (n := (m.length : Int) - 1) (by omega) (by omega), w64 (by omega) (by omega)]; omega
      rw [e1, e2, if_pos (by omega), if_pos (by rw [hlen]; omega), if_pos (by omega), if_pos (by omega), rd_ci, rd_ci, e0,
        show (((l.getD (i - k) 0 : Nat) : Int) + ((m.getD (m.length - 1 - k) 0 : Nat) : Int)) = ((l.getD (i - k) 0 + m.getD (m.length - 1 - k) 0 : Nat) : Int) by omega,
        w64 (by omega) (by omega), show (2 : Int) = ((2 : Nat) : Int) from rfl, tmod_nat, show (((i - k : Nat) : Int)).toNat = i - k from rfl, set_ci, w64 (by omega) (by omega)]
      rfl
    · rw [getD_set _ _ _ _ (by omega), put_next]
      by_cases e : i - k = j
      · rw [if_pos e, if_pos (by omega), e]
      · rw [if_neg e, if_neg (by omega), h j]
/-- the outer loop, from place n - 1 down -/
theorem ev_rest_out (hlast : m.getD (m.length - 1) 0 = 1) {l : List Nat} (hl128 : l.length ≤ 128) (n : Nat) : ∀ l' : List Nat, BL l' → l'.length = l.length → n ≤ l.length →
    Gf.Dvd (val m) (val l' ^^^ val l) → (∀ j, n ≤ j → l'.getD j 0 = 0) →
    ∃ r : List Nat, Ev (fun k => hypogeumref12_rest.l0 k (ci m) (ci l') ((n : Int) - 1)) (ci r) ∧ BL r ∧ r.length ≤ 63 ∧ val r < 2 ^ (m.length - 1) ∧ Gf.Dvd (val m) (val r ^^^ val l) := by
  have fin : ∀ l' : List Nat, BL l' → l'.length = l.length → Gf.Dvd (val m) (val l' ^^^ val l) → ∀ n : Nat, n ≤ m.length - 1 → (∀ j, m.length - 1 ≤ j → l'.getD j 0 = 0) →
      ∃ r : List Nat, Ev (fun k => hypogeumref12_rest.l0 k (ci m) (ci l') ((n : Int) - 1)) (ci r) ∧ BL r ∧ r.length ≤ 63 ∧ val r < 2 ^ (m.length - 1) ∧ Gf.Dvd (val m) (val r ^^^ val l) := by
    intro l' hb hlen hd n hn hz
    have hbt : BL (l'.take (m.length - 1)) := fun b h => hb b (List.mem_of_mem_take h)
    have hvt := val_take hb (m.length - 1) hz
    have hlt : val (l'.take (m.length - 1)) < 2 ^ (m.length - 1) := by
      have h1 := val_lt hbt
      have h2 : 2 ^ (l'.take (m.length - 1)).length ≤ 2 ^ (m.length - 1) := Nat.pow_le_pow_right (by omega) (by rw [List.length_take]; omega)
      omega
    have w1 : wrap64 ((m.length : Int) - 1) = ((m.length - 1 : Nat) : Int) := by rw [w64 (by omega) (by omega)]; omega
    by_cases hc : m.length ≤ l'.length
    · refine ⟨l'.take (m.length - 1), Ev.step (f := fun _ => some (ci (l'.take (m.length - 1)))) (fun k => ?_) (Ev.now _), hbt, by rw [List.length_take]; omega, hlt, by rw [hvt]; exact hd⟩
      simp only [hypogeumref12_rest.l0]
      rw [ci_length, ci_length, w1, if_neg (by omega), if_pos (by omega), if_pos (by omega), if_pos (by omega), show ((m.length - 1 : Nat) : Int).toNat = m.length - 1 from rfl]
      unfold ci; rw [List.map_take]
    · refine ⟨l', Ev.step (f := fun _ => some (ci l')) (fun k => ?_) (Ev.now _), hb, by omega, by rw [← hvt]; exact hlt, hd⟩
      simp only [hypogeumref12_rest.l0]
      rw [ci_length, ci_length, w1, if_neg (by omega), if_neg (by omega)]
  induction n with
  | zero =>
    intro l' hb hlen _ hd hz
    exact fin l' hb hlen hd 0 (by omega) (fun j _ => hz j (by omega))
  | succ n ih =>
    intro l' hb hlen hn hd hz
    by_cases hc : n < m.length - 1
    · exact fin l' hb hlen hd (n + 1) (by omega) (fun j hj => hz j (by omega))
    · have w1 : wrap64 ((m.length : Int) - 1) = ((m.length - 1 : Nat) : Int) := by rw [w64 (by omega) (by omega)]; omega
      have hg := getD_lt hb n
      by_cases h1 : l'.getD n 0 = 1
      · have key : ∃ r : List Nat, Ev (fun q => hypogeumref12_rest.l1 q (ci m) (ci l') (n : Int) ((0 : Nat) : Int)) (ci r) ∧ BL r ∧ r.length ≤ 63 ∧ val r < 2 ^ (m.length - 1) ∧ Gf.Dvd (val m) (val r ^^^ val l) := by
          -- what the inner loop makes is one list: take the outer loop's answer at it
          obtain ⟨l2, b2, len2, p2⟩ : ∃ l2 : List Nat, BL l2 ∧ l2.length = l'.length ∧ ∀ j, l2.getD j 0 = put l' m n m.length j := by
            have step : ∀ k, k ≤ m.length → ∃ l2 : List Nat, BL l2 ∧ l2.length = l'.length ∧ ∀ j, l2.getD j 0 = put l' m n k j := by
              intro k
              induction k with
              | zero => intro _; exact ⟨l', hb, rfl, fun j => by unfold put; rw [if_neg (by omega)]⟩
              | succ k ihk =>
                intro hk
                obtain ⟨l2, b2, len2, p2⟩ := ihk (by omega)
                refine ⟨l2.set (n - k) ((l'.getD (n - k) 0 + m.getD (m.length - 1 - k) 0) % 2), b2.set _ (Nat.mod_lt _ (by omega)), by rw [List.length_set, len2], fun j => ?_⟩
                rw [getD_set _ _ _ _ (by omega), put_next]
                by_cases e : n - k = j
                · rw [if_pos e, if_pos (by omega), e]
                · rw [if_neg e, if_neg (by omega), p2 j]
            exact step m.length (Nat.le_refl _)
          have v2 := val_put hb hB b2 hm1 (show m.length - 1 ≤ n by omega) p2
          obtain ⟨r, e, br, lr, vr, dr⟩ := ih l2 b2 (by omega) (by omega) (by
            rw [v2, Nat.xor_assoc, Nat.xor_comm (val m * _), ← Nat.xor_assoc]
            refine hd.xor ?_
            rw [← Gf.mul_pow]; exact (Gf.Dvd.refl _).mul_right _) (fun j hj => by
            rw [p2 j]; unfold put
            by_cases ej : j = n
            · rw [if_pos (by omega), ej, Nat.sub_self, Nat.sub_zero, h1, hlast]
            · rw [if_neg (by omega), hz j (by omega)])
          refine ⟨r, ev_rest_in hB hm1 hm64 hb (by omega) (show m.length - 1 ≤ n by omega) (by omega) (fun l3 b3 len3 v3 z3 z4 => ?_) m.length 0 l' (by omega) hb rfl (fun j => by unfold put; rw [if_neg (by omega)]), br, lr, vr, dr⟩
          have : l3 = l2 := by
            apply List.ext_getElem (by omega)
            intro j h3 h2
            have q3 := val_bit b3 j
            have q2 := val_bit b2 j
            rw [v3, ← v2, q2] at q3
            have g3 : l3.getD j 0 = l3[j] := by rw [List.getD_eq_getElem?_getD, List.getElem?_eq_getElem h3]; rfl
            have g2 : l2.getD j 0 = l2[j] := by rw [List.getD_eq_getElem?_getD, List.getElem?_eq_getElem h2]; rfl
            have l3' := getD_lt b3 j
            have l2' := getD_lt b2 j
            rw [g3] at q3 l3'; rw [g2] at q3 l2'
            by_cases hx : l2[j] = 1
            · rw [hx] at q3; simp at q3; omega
            · rw [decide_eq_false hx] at q3; have := of_decide_eq_false q3.symm; omega
          rw [this]; exact e
        obtain ⟨r, e, rest⟩ := key
        refine ⟨r, Ev.step (fun k => ?_) e, rest⟩
        simp only [hypogeumref12_rest.l0]
        rw [ci_length, ci_length, w1, show (((n + 1 : Nat) : Int) - 1) = (n : Int) by omega, if_pos (by omega), if_pos (by omega), if_pos (by omega), rd_ci, h1, if_pos (show ((1 : Nat) : Int) = 1 from rfl)]
        rfl
      · obtain ⟨r, e, rest⟩ := ih l' hb hlen (by omega) hd (fun j hj => by
          by_cases ej : j = n
          · rw [ej]; omega
          · exact hz j (by omega))
        refine ⟨r, Ev.step (fun k => ?_) e, rest⟩
        simp only [hypogeumref12_rest.l0]
        rw [ci_length, ci_length, w1, show (((n + 1 : Nat) : Int) - 1) = (n : Int) by omega, if_pos (by omega), if_pos (by omega), if_pos (by omega), rd_ci, if_neg (by omega), w64 (by omega) (by omega)]
end
theorem cof_last {M : Nat} (h0 : M ≠ 0) : (cof M).getD ((cof M).length - 1) 0 = 1 := by
  obtain ⟨h1, h2, h3⟩ := cof_spec M
  have hl : len M = M.log2 + 1 := by unfold len; rw [if_neg h0]
  have hb := val_bit h1 M.log2
  rw [h2, Gf.tb_top (Gf.lt_log2 M), decide_eq_true (Gf.log2_le h0)] at hb
  rw [h3, hl, Nat.add_sub_cancel]
  exact of_decide_eq_true hb.symm
theorem ev_rest {l : List Nat} (hl : BL l) (hl128 : l.length ≤ 128) {M : Nat} (hM : U M) (h0 : M ≠ 0) :
    ∃ r : List Nat, Ev (fun k => hypogeumref12_rest.f k (ci l) (ci (cof M))) (ci r) ∧ BL r ∧ r.length ≤ 63 ∧ val r = Gf.rem (val l) M := by
  obtain ⟨h1, h2, h3⟩ := cof_spec M
  have hu := len_u hM
  have hl1 : len M = M.log2 + 1 := by unfold len; rw [if_neg h0]
  obtain ⟨r, e, br, lr, vr, q, hq⟩ := ev_rest_out h1 (by omega) (by omega) (cof_last h0) hl128 l.length l hl rfl (Nat.le_refl _) (by rw [Nat.xor_self]; exact Gf.Dvd.zero _) (fun j hj => getD_none hj)
  refine ⟨r, Ev.congr (fun k => ?_) e, br, lr, ?_⟩
  · unfold hypogeumref12_rest.f
    rw [Option.bind_some, List.length_nil, Nat.zero_add, List.nil_append, ci_length, if_pos (by omega), Option.bind_some, ci_length, w64 (by omega) (by omega)]
  · rw [h2] at hq
    rw [h3, hl1, Nat.add_sub_cancel] at vr
    refine (Gf.rem_uniq h0 (q := q) ?_ vr).symm
    rw [← hq, Nat.xor_comm (val r), Gf.xor_xor_cancel]
theorem ev_rmod {a m : Nat} (ha : U a) (hm : U m) (h0 : m ≠ 0) : Ev (fun k => hypogeumref12_Mod.f k (a : Int) (m : Int)) (Gf.rem a m : Int) := by
  obtain ⟨h1, h2, h3⟩ := cof_spec a
  have hu := len_u ha
  obtain ⟨r, e, br, lr, vr⟩ := ev_rest h1 (by omega) hm h0
  rw [h2] at vr
  refine Ev.bind (ev_coef ha) (Ev.bind (ev_coef hm) (Ev.bind e ?_))
  rw [← vr]
  exact Ev.bind (f := fun _ t => some t) (ev_of br lr) (Ev.now _)
/-! the degree -/
theorem ev_rdeg_l (a : Nat) : ∀ x : Int, U a → -1 ≤ x → x + len a ≤ 1000 → Ev (fun k => hypogeumref12_Degree.l0 k (a : Int) x) (x + len a) := by
  induction a using Nat.strongRecOn with
  | ind a ih =>
    intro x ha hx hl
    by_cases h : a = 0
    · subst h
      refine Ev.step (f := fun _ => some x) (fun k => rfl) ?_
      rw [show ((len 0 : Nat) : Int) = 0 from rfl, Int.add_zero]; exact Ev.now _
    · have hlen : len a = len (a / 2) + 1 := by
        by_cases h4 : 2 ≤ a
        · have := len_shift (a := a) 1 (by omega)
          rw [Nat.pow_one] at this; exact this
        · obtain rfl : a = 1 := by omega
          decide
      have := ih (a / 2) (by omega) (x + 1) (u_le ha (by omega)) (by omega) (by omega)
      rw [hlen, show x + ((len (a / 2) + 1 : Nat) : Int) = x + 1 + (len (a / 2) : Int) by omega]
      refine Ev.step (fun k => ?_) this
      simp only [hypogeumref12_Degree.l0]
      unfold U at ha
      rw [if_pos (by omega), show (2 : Int) = ((2 : Nat) : Int) from rfl, tdiv_nat, wrapU, w64 (by omega) (by omega), show ((a / 2 : Nat) : Int) % 18446744073709551616 = ((a / 2 : Nat) : Int) by omega]
theorem ev_rdeg {a : Nat} (ha : U a) : Ev (fun k => hypogeumref12_Degree.f k (a : Int)) (deg a) := by
  have hu := len_u ha
  have := ev_rdeg_l a (-1) ha (by omega) (by omega)
  rw [show (-1 : Int) + len a = deg a by unfold deg; omega] at this
  exact this
/-! products of coefficients -/
def put2 (l y : List Nat) (xi i k : Nat) : Nat → Nat := fun j => if i ≤ j ∧ j < i + k then (l.getD j 0 + xi * y.getD (j - i) 0) % 2 else l.getD j 0
theorem put2_next {l y : List Nat} {xi i k : Nat} (j : Nat) : put2 l y xi i (k + 1) j = if i + k = j then (l.getD j 0 + xi * y.getD k 0) % 2 else put2 l y xi i k j := by
  unfold put2
  by_cases h : i + k = j
  · rw [if_pos h, if_pos (by omega), show j - i = k by omega]
  · rw [if_neg h]
    by_cases h2 : i ≤ j ∧ j < i + k
    · rw [if_pos h2, if_pos (by omega)]
    · rw [if_neg h2, if_neg (by omega)]
theorem val_put2 {l y l' : List Nat} {xi i : Nat} (hl : BL l) (hy : BL y) (hl' : BL l') (hx : xi < 2) (h : ∀ j, l'.getD j 0 = put2 l y xi i y.length j) :
    val l' = val l ^^^ (if xi = 1 then val y * 2 ^ i else 0) := by
  apply Nat.eq_of_testBit_eq
  intro j
  have hx2 : xi = 0 ∨ xi = 1 := by omega
  rw [val_bit hl', Nat.testBit_xor, val_bit hl, h j]
  unfold put2
  rcases hx2 with rfl | rfl
  · rw [if_neg (show ¬ (0 : Nat) = 1 by omega), Nat.zero_testBit, Bool.xor_false]
    have := getD_lt hl j
    split
    · rw [Nat.zero_mul, Nat.add_zero, Nat.mod_eq_of_lt this]
    · rfl
  · rw [if_pos rfl, Nat.testBit_mul_two_pow]
    by_cases h1 : i ≤ j ∧ j < i + y.length
    · rw [if_pos h1, Nat.one_mul, xor_mod2 (getD_lt hl j) (getD_lt hy _), decide_eq_true h1.1, Bool.true_and, val_bit hy]
    · rw [if_neg h1]
      by_cases h2 : i ≤ j
      · have : (val y).testBit (j - i) = false := by rw [val_bit hy, getD_none (by omega)]; rfl
        rw [this, Bool.and_false, Bool.xor_false]
      · rw [decide_eq_false h2, Bool.false_and, Bool.xor_false]
section
variable {x y : List Nat} (hx : BL x) (hy : BL y) (hx64 : x.length ≤ 64) (hy64 : y.length ≤ 64)
include hx hy hx64 hy64
theorem ev_mul_in {m : Int} {l : List Nat} (hl : BL l) (hlen0 : l.length = x.length + y.length) {i : Nat} (hi : i < x.length) {r : Int}
    (next : ∀ l' : List Nat, BL l' → l'.length = l.length → val l' = val l ^^^ (if x.getD i 0 = 1 then val y * 2 ^ i else 0) →
      Ev (fun k => hypogeumref12_Mul.l0 k m (ci x) (ci y) (ci l') ((i + 1 : Nat) : Int)) r)
    (n : Nat) : ∀ (k : Nat) (l' : List Nat), k + n = y.length → BL l' → l'.length = l.length → (∀ j, l'.getD j 0 = put2 l y (x.getD i 0) i k j) →
      Ev (fun q => hypogeumref12_Mul.l1 q m (ci x) (ci y) (ci l') (i : Int) (k : Int)) r := by
  have gx := getD_lt hx i
  induction n with
  | zero =>
    intro k l' hk hb hlen h
    obtain rfl : k = y.length := by omega
    refine Ev.step (fun q => ?_) (next l' hb hlen (val_put2 hl hy hb gx h))
    simp only [hypogeumref12_Mul.l1]
    rw [if_neg (by rw [ci_length]; omega), wrap_succ (by omega) (by omega)]; rfl
  | succ n ih =>
    intro k l' hk hb hlen h
    have hv : (l.getD (i + k) 0 + x.getD i 0 * y.getD k 0) % 2 < 2 := Nat.mod_lt _ (by omega)
    refine Ev.step (f := fun q => hypogeumref12_Mul.l1 q m (ci x) (ci y) (ci (l'.set (i + k) ((l.getD (i + k) 0 + x.getD i 0 * y.getD k 0) % 2))) (i : Int) ((k + 1 : Nat) : Int)) (fun q => ?_)
      (ih (k + 1) (l'.set (i + k) ((l.getD (i + k) 0 + x.getD i 0 * y.getD k 0) % 2)) (by omega) (hb.set _ hv) (by rw [List.length_set, hlen]) (fun j => ?_))
    · have g1 := getD_lt hl (i + k)
      have g2 := getD_lt hy k
      have hmul : x.getD i 0 * y.getD k 0 < 2 := by
        have : x.getD i 0 = 0 ∨ x.getD i 0 = 1 := by omega
        rcases this with e | e <;> rw [e] <;> omega
      have e0 : l'.getD (i + k) 0 = l.getD (i + k) 0 := by
        rw [h]; unfold put2; rw [if_neg (by omega)]
      have e2 : ((x.getD i 0 : Nat) : Int) * ((y.getD k 0 : Nat) : Int) = ((x.getD i 0 * y.getD k 0 : Nat) : Int) := by simp
      have e1 : wrap64 ((i : Int) + (k : Int)) = ((i + k : Nat) : Int) := by rw [w64 (by omega) (by omega)]; omega
      have e3 : Int.tmod (wrap64 ((rd (ci l') ((i + k : Nat) : Int)) + (wrap64 ((rd (ci x) (i : Int)) * (rd (ci y) (k : Int)))))) 2 = (((l.getD (i + k) 0 + x.getD i 0 * y.getD k 0) % 2 : Nat) : Int) := by
        rw [rd_ci, rd_ci, rd_ci, e0, e2]
        clear e2 hv
        generalize x.getD i 0 * y.getD k 0 = p at hmul ⊢
        generalize l.getD (i + k) 0 = q at g1 ⊢
        rw [w64 (n := (p : Int)) (by omega) (by omega), show ((q : Int) + (p : Int)) = ((q + p : Nat) : Int) by omega, w64 (by omega) (by omega), show (2 : Int) = ((2 : Nat) : Int) from rfl, tmod_nat]
      clear e2 hmul
      generalize (l.getD (i + k) 0 + x.getD i 0 * y.getD k 0) % 2 = v at hv e3 ⊢
      simp only [hypogeumref12_Mul.l1]
      rw [ci_length, ci_length, ci_length, e1, e3]
      clear e1 e3 e0 h
      rw [if_pos (by omega), if_pos (by omega), if_pos (by omega), if_pos (by omega), if_pos (by omega), if_pos (by omega),
        show (((i + k : Nat) : Int)).toNat = i + k from rfl, set_ci, wrap_succ (by omega) (by omega)]
      rfl
    · rw [getD_set _ _ _ _ (by omega), put2_next]
      by_cases e : i + k = j
      · rw [if_pos e, if_pos e, ← e]
      · rw [if_neg e, if_neg e, h j]
theorem ev_mul_out {M : Nat} (hM : U M) (h0 : M ≠ 0) (n : Nat) : ∀ (i : Nat) (l : List Nat), i + n = x.length → BL l → l.length = x.length + y.length →
    Ev (fun k => hypogeumref12_Mul.l0 k (M : Int) (ci x) (ci y) (ci l) (i : Int)) ((Gf.rem (val l ^^^ (Gf.mul (val y) (val (x.drop i))) * 2 ^ i) M : Nat) : Int) := by
  induction n with
  | zero =>
    intro i l hi hb hlen
    obtain rfl : i = x.length := by omega
    rw [List.drop_length, show val [] = 0 from rfl, Gf.mul_zero, Nat.zero_mul, Nat.xor_zero]
    obtain ⟨r, e, br, lr, vr⟩ := ev_rest hb (by omega) hM h0
    refine Ev.step (f := fun k => (hypogeumref12_coefficients.f k (M : Int)).bind fun t173 => ((hypogeumref12_rest.f k (ci l) t173).bind fun t176 => ((hypogeumref12_of.f k t176).bind fun t179 => (some t179)))) (fun k => ?_) ?_
    · simp only [hypogeumref12_Mul.l0]
      rw [if_neg (by rw [ci_length]; omega)]
    · refine Ev.bind (ev_coef hM) (Ev.bind e ?_)
      rw [← vr]
      exact Ev.bind (f := fun _ t => some t) (ev_of br lr) (Ev.now _)
  | succ n ih =>
    intro i l hi hb hlen
    have hd : x.drop i = x.getD i 0 :: x.drop (i + 1) := by
      rw [List.drop_eq_getElem_cons (by omega)]
      congr 1
      rw [List.getD_eq_getElem?_getD, List.getElem?_eq_getElem (by omega)]; rfl
    have gx := getD_lt hx i
    refine Ev.step (f := fun q => hypogeumref12_Mul.l1 q (M : Int) (ci x) (ci y) (ci l) (i : Int) ((0 : Nat) : Int)) (fun k => ?_)
      (ev_mul_in hx hy hx64 hy64 hb hlen (show i < x.length by omega) (fun l' b' len' v' => ?_) y.length 0 l (by omega) hb rfl (fun j => by unfold put2; rw [if_neg (by omega)]))
    · simp only [hypogeumref12_Mul.l0]
      rw [if_pos (by rw [ci_length]; omega)]; rfl
    · have e : val l ^^^ (Gf.mul (val y) (val (x.drop i))) * 2 ^ i = val l' ^^^ (Gf.mul (val y) (val (x.drop (i + 1)))) * 2 ^ (i + 1) := by
        rw [hd]
        show val l ^^^ (Gf.mul (val y) (x.getD i 0 + 2 * val (x.drop (i + 1)))) * 2 ^ i = _
        rw [Gf.mul_step, show (x.getD i 0 + 2 * val (x.drop (i + 1))) / 2 = val (x.drop (i + 1)) by omega, show (x.getD i 0 + 2 * val (x.drop (i + 1))) % 2 = x.getD i 0 by omega,
          ← Nat.shiftLeft_eq, Nat.shiftLeft_xor_distrib, Nat.shiftLeft_eq, Nat.shiftLeft_eq, v', Nat.xor_assoc]
        congr 2
        · by_cases h : x.getD i 0 = 1
          · rw [if_pos h, if_pos h]
          · rw [if_neg h, if_neg h, Nat.zero_mul]
        · rw [Nat.pow_succ, Nat.mul_comm (2 ^ i) 2, ← Nat.mul_assoc, Nat.mul_comm _ 2]
      rw [e]
      exact ih (i + 1) l' (by omega) b' (by omega)
end
theorem ev_rmul {a b m : Nat} (ha : U a) (hb : U b) (hm : U m) (h0 : m ≠ 0) : Ev (fun k => hypogeumref12_Mul.f k (a : Int) (b : Int) (m : Int)) (Gf.rem (Gf.mul a b) m : Int) := by
  obtain ⟨a1, a2, a3⟩ := cof_spec a
  obtain ⟨b1, b2, b3⟩ := cof_spec b
  have ua := len_u ha
  have ub := len_u hb
  have hz : BL (List.replicate ((cof a).length + (cof b).length) 0) := fun c hc => by rw [(List.mem_replicate.mp hc).2]; omega
  have vz : val (List.replicate ((cof a).length + (cof b).length) 0) = 0 := by
    generalize (cof a).length + (cof b).length = n
    induction n with
    | zero => rfl
    | succ n ih => rw [List.replicate_succ]; show 0 + 2 * val _ = 0; rw [ih]
  have key := ev_mul_out a1 b1 (by omega) (by omega) hm h0 (cof a).length 0 _ (by omega) hz (by simp)
  rw [vz, Nat.zero_xor, List.drop_zero, a2, b2, Nat.pow_zero, Nat.mul_one, Gf.mul_comm b a] at key
  refine Ev.bind (ev_coef ha) (Ev.bind (ev_coef hb) (Ev.congr (fun k => ?_) key))
  rw [ci_length, ci_length, show ((cof a).length : Int) + ((cof b).length : Int) = (((cof a).length + (cof b).length : Nat) : Int) by omega, w64 (by omega) (by omega), if_pos (by omega),
    show ((((cof a).length + (cof b).length : Nat) : Int)).toNat = (cof a).length + (cof b).length from rfl, if_pos (by omega)]
  unfold ci
  rw [List.map_replicate]; rfl
theorem ev_rsquare_l {m : Nat} (hm : U m) (h0 : m ≠ 0) (n : Nat) (hn : n ≤ 64) (j : Nat) : ∀ (i x : Nat), i + j = n → x < 2 ^ m.log2 →
    Ev (fun k => hypogeumref12_Square.l0 k (x : Int) (m : Int) (n : Int) (i : Int)) (Gf.rem (Gf.frob j x) m : Int) := by
  induction j with
  | zero =>
    intro i x hi hx
    refine Ev.step (f := fun k => some (x : Int)) (fun k => by simp only [hypogeumref12_Square.l0]; rw [if_neg (by omega)]) ?_
    rw [show Gf.frob 0 x = x from rfl, Gf.rem_small hx]; exact Ev.now _
  | succ j ih =>
    intro i x hi hx
    have hux : U x := by
      have := Gf.log2_le h0; unfold U at *; omega
    refine Ev.step (f := fun k => (hypogeumref12_Mul.f k (x : Int) (x : Int) (m : Int)).bind fun t => hypogeumref12_Square.l0 k t (m : Int) (n : Int) ((i + 1 : Nat) : Int)) (fun k => ?_) ?_
    · simp only [hypogeumref12_Square.l0]
      rw [if_pos (by omega), wrap_succ (by omega) (by omega)]; rfl
    · refine Ev.bind (ev_rmul hux hux hm h0) ?_
      rw [show Gf.frob (j + 1) x = Gf.frob j (Gf.mul x x) from rfl, ← rem_frob j (Gf.mul x x) h0]
      exact ih (i + 1) _ (by omega) (Gf.rem_lt _ h0)
theorem ev_rsquare {a m n : Nat} (ha : U a) (hm : U m) (h0 : m ≠ 0) (hn : n ≤ 64) : Ev (fun k => hypogeumref12_Square.f k (a : Int) (m : Int) (n : Int)) (Gf.rem (Gf.frob n a) m : Int) := by
  refine Ev.bind (ev_rmod ha hm h0) ?_
  rw [← rem_frob n a h0]
  exact ev_rsquare_l hm h0 n hn n 0 _ (by omega) (Gf.rem_lt _ h0)
theorem ev_divides {d a : Nat} (hd : U d) (ha : U a) (h0 : d ≠ 0) : Ev (fun k => hypogeumref12_Divides.f k (d : Int) (a : Int)) (((Gf.rem a d : Nat) : Int) == 0) :=
  Ev.bind (f := fun _ t => some (t == 0)) (ev_rmod ha hd h0) (Ev.now _)
theorem div_true {d a : Nat} (h0 : d ≠ 0) : (((Gf.rem a d : Nat) : Int) == 0) = true ↔ Gf.Dvd d a := by
  rw [beq_iff_eq, Gf.dvd_rem h0]; omega
/-! by trying -/
theorem ev_rirr_l {m : Nat} (hm : U m) (h2 : 2 ≤ m) (n : Nat) : ∀ f : Nat, 2 ≤ f → 2 ^ (m.log2 / 2 + 1) ≤ f + n → f ≤ 2 ^ (m.log2 / 2 + 1) → (∀ g, 2 ≤ g → g < f → ¬ Gf.Dvd g m) →
    Ev (fun k => hypogeumref12_Irreducible.l0 k (m : Int) (m.log2 : Int) (f : Int)) (irr m) := by
  have h0 : m ≠ 0 := by omega
  have hl := log2_u hm h0
  have h32 : 2 ^ (m.log2 / 2 + 1) ≤ 2 ^ 32 := Nat.pow_le_pow_right (by omega) (by omega)
  have e32 : (2 : Nat) ^ 32 = 4294967296 := by decide
  have small : ∀ f, f ≠ 0 → 2 * f.log2 ≤ m.log2 → f < 2 ^ (m.log2 / 2 + 1) := fun f _ h => by
    have h3 := Gf.lt_log2 f
    have : 2 ^ (f.log2 + 1) ≤ 2 ^ (m.log2 / 2 + 1) := Nat.pow_le_pow_right (by omega) (by omega)
    omega
  induction n with
  | zero =>
    intro f hf hn hle hall
    have huf : U f := by unfold U; omega
    have hbig : ¬ 2 * f.log2 ≤ m.log2 := fun h => by have := small f (by omega) h; omega
    have hu : f.log2 ≤ 63 := log2_u huf (by omega)
    have : irr m = true := irr_true.mpr ((Gf.irr_iff_try h2).mpr fun g g1 g2 => hall g g1 (by have := small g (by omega) g2; omega))
    rw [this]
    refine Ev.step (f := fun k => (hypogeumref12_Degree.f k (f : Int)).bind fun t210 => (if (wrap64 (2 * t210)) ≤ (m.log2 : Int) then ((hypogeumref12_Divides.f k (f : Int) (m : Int)).bind fun t211 => (if t211 = true then (some false) else (hypogeumref12_Irreducible.l0 k (m : Int) (m.log2 : Int) (IntKind.u64.wrap ((f : Int) + 1))))) else (some true))) (fun k => rfl) ?_
    refine Ev.bind (ev_rdeg huf) ?_
    rw [deg_ne (by omega)]
    exact Ev.congr (fun k => by rw [if_neg (by rw [w64 (by omega) (by omega)]; omega)]) (Ev.now _)
  | succ n ih =>
    intro f hf hn hle hall
    have huf : U f := by unfold U; omega
    have hu : f.log2 ≤ 63 := log2_u huf (by omega)
    refine Ev.step (f := fun k => (hypogeumref12_Degree.f k (f : Int)).bind fun t210 => (if (wrap64 (2 * t210)) ≤ (m.log2 : Int) then ((hypogeumref12_Divides.f k (f : Int) (m : Int)).bind fun t211 => (if t211 = true then (some false) else (hypogeumref12_Irreducible.l0 k (m : Int) (m.log2 : Int) (IntKind.u64.wrap ((f : Int) + 1))))) else (some true))) (fun k => rfl) ?_
    refine Ev.bind (ev_rdeg huf) ?_
    rw [deg_ne (show f ≠ 0 by omega)]
    by_cases hc : 2 * f.log2 ≤ m.log2
    · have hlt := small f (by omega) hc
      refine Ev.congr (f := fun k => (hypogeumref12_Divides.f k (f : Int) (m : Int)).bind fun t211 => (if t211 = true then (some false) else (hypogeumref12_Irreducible.l0 k (m : Int) (m.log2 : Int) ((f + 1 : Nat) : Int)))) (fun k => ?_) ?_
      · rw [if_pos (by rw [w64 (by omega) (by omega)]; omega), wrapU, show ((f : Int) + 1) % 18446744073709551616 = ((f + 1 : Nat) : Int) by omega]
      · refine Ev.bind (ev_divides huf hm (by omega)) ?_
        by_cases hd : Gf.Dvd f m
        · have : irr m = false := irr_false.mpr fun hi => (Gf.irr_iff_try h2).mp hi f hf hc hd
          rw [this]
          exact Ev.congr (fun k => by rw [if_pos ((div_true (by omega)).mpr hd)]) (Ev.now _)
        · refine Ev.congr (fun k => by rw [if_neg (fun h => hd ((div_true (by omega)).mp h))]) (ih (f + 1) (by omega) (by omega) (by omega) (fun g g1 g2 => ?_))
          by_cases e : g = f
          · rw [e]; exact hd
          · exact hall g g1 (by omega)
    · have : irr m = true := irr_true.mpr ((Gf.irr_iff_try h2).mpr fun g g1 g2 => hall g g1 (by
        refine Classical.byContradiction fun hn => ?_
        have h3 : f.log2 ≤ g.log2 := by
          have := (Nat.log2_lt (show f ≠ 0 by omega) (k := g.log2 + 1)).mpr (by have := Gf.lt_log2 g; omega)
          omega
        omega))
      rw [this]
      exact Ev.congr (fun k => by rw [if_neg (by rw [w64 (by omega) (by omega)]; omega)]) (Ev.now _)
theorem ev_rirr {m : Nat} (hm : U m) : Ev (fun k => hypogeumref12_Irreducible.f k (m : Int)) (irr m) := by
  refine Ev.bind (ev_rdeg hm) ?_
  by_cases h2 : m < 2
  · rw [small_not_irr h2]
    refine Ev.congr (f := fun _ => some false) (fun k => ?_) (Ev.now _)
    have : m = 0 ∨ m = 1 := by omega
    rcases this with rfl | rfl <;> rfl
  · have h0 : m ≠ 0 := by omega
    have hl1 : 1 ≤ m.log2 := by
      refine Classical.byContradiction fun hn => ?_
      have := Gf.log2_zero_one h0 (by omega); omega
    rw [deg_ne h0]
    refine Ev.congr (fun k => by rw [if_neg (by omega)]; rfl) (ev_rirr_l hm (by omega) (2 ^ (m.log2 / 2 + 1)) 2 (by omega) (by omega) ?_ (fun g g1 g2 => by omega))
    have := Nat.pow_le_pow_right (n := 2) (by omega) (show 1 ≤ m.log2 / 2 + 1 by omega)
    simpa using this
/-! Find -/
theorem rcand {d s : Nat} (h1 : 2 ≤ d) (h2 : d ≤ 53) (hs : s < 2 ^ (d - 1)) :
    IntKind.u64.wrap ((IntKind.u64.wrap ((IntKind.u64.wrap (2 * ((2 ^ (d - 1) : Nat) : Int))) + (IntKind.u64.wrap (2 * (s : Int))))) + 1) = (cand d s : Int) := by
  have hh := half_le h2
  have hp := pow_half h1
  unfold cand
  rw [hp]
  generalize 2 ^ (d - 1) = H at hh hs ⊢
  simp only [wrapU]
  omega
theorem ev_rfind_l {d : Nat} (h1 : 2 ≤ d) (h2 : d ≤ 53) (j : Nat) : ∀ s, s < 2 ^ (d - 1) → (∀ i, i < j → irr (cand d ((s + i) % 2 ^ (d - 1))) = false) →
    irr (cand d ((s + j) % 2 ^ (d - 1))) = true →
    Ev (fun k => hypogeumref12_Find.l1 k ((2 ^ (d - 1) : Nat) : Int) (s : Int)) ((cand d ((s + j) % 2 ^ (d - 1)) : Int), (0 : Int)) := by
  have hh := half_le h2
  have hpos := Nat.two_pow_pos (d - 1)
  induction j with
  | zero =>
    intro s hs _ hi
    rw [Nat.add_zero, Nat.mod_eq_of_lt hs] at hi ⊢
    refine Ev.step (f := fun k => (hypogeumref12_Irreducible.f k (cand d s : Int)).bind fun t215 => (if t215 = true then (some ((cand d s : Int), (0 : Int))) else (if ((2 ^ (d - 1) : Nat) : Int) = 0 then (none) else (hypogeumref12_Find.l1 k ((2 ^ (d - 1) : Nat) : Int) (Int.tmod (IntKind.u64.wrap ((s : Int) + 1)) ((2 ^ (d - 1) : Nat) : Int)))))) (fun k => ?_) ?_
    · simp only [hypogeumref12_Find.l1]
      rw [rcand h1 h2 hs]
    · refine Ev.bind (ev_rirr (cand_u h2 hs h1)) ?_
      rw [hi]; exact Ev.congr (f := fun _ => some ((cand d s : Int), (0 : Int))) (fun k => by rw [if_pos rfl]) (Ev.now _)
  | succ j ih =>
    intro s hs hall hi
    have hf := hall 0 (by omega)
    rw [Nat.add_zero, Nat.mod_eq_of_lt hs] at hf
    refine Ev.step (f := fun k => (hypogeumref12_Irreducible.f k (cand d s : Int)).bind fun t215 => (if t215 = true then (some ((cand d s : Int), (0 : Int))) else (hypogeumref12_Find.l1 k ((2 ^ (d - 1) : Nat) : Int) (((s + 1) % 2 ^ (d - 1) : Nat) : Int)))) (fun k => ?_) ?_
    · simp only [hypogeumref12_Find.l1]
      rw [rcand h1 h2 hs, if_neg (show ¬ ((2 ^ (d - 1) : Nat) : Int) = 0 by omega), wrapU, show ((s : Int) + 1) % 18446744073709551616 = ((s + 1 : Nat) : Int) by omega, tmod_nat]
    · refine Ev.bind (ev_rirr (cand_u h2 hs h1)) ?_
      rw [hf]
      have hmod : ∀ i, ((s + 1) % 2 ^ (d - 1) + i) % 2 ^ (d - 1) = (s + (i + 1)) % 2 ^ (d - 1) := by
        intro i; rw [Nat.mod_add_mod]; congr 1; omega
      refine Ev.congr (f := fun k => hypogeumref12_Find.l1 k ((2 ^ (d - 1) : Nat) : Int) (((s + 1) % 2 ^ (d - 1) : Nat) : Int)) (fun k => by rw [if_neg (by decide)]) ?_
      have := ih ((s + 1) % 2 ^ (d - 1)) (Nat.mod_lt _ hpos) (fun i hi' => by rw [hmod]; exact hall (i + 1) (by omega)) (by rw [hmod]; exact hi)
      rw [hmod] at this; exact this
theorem ev_rhalf {d seed : Nat} (h2 : d ≤ 53) {r : Int × Int} (next : Ev (fun k => hypogeumref12_Find.l1 k ((2 ^ (d - 1) : Nat) : Int) ((seed % 2 ^ (d - 1) : Nat) : Int)) r) (n : Nat) :
    ∀ i, 1 ≤ i → i + n = d → Ev (fun k => hypogeumref12_Find.l0 k (seed : Int) (d : Int) ((2 ^ (i - 1) : Nat) : Int) (i : Int)) r := by
  induction n with
  | zero =>
    intro i h1 hi
    obtain rfl : i = d := by omega
    have hpos := Nat.two_pow_pos (i - 1)
    refine Ev.step (fun k => ?_) next
    simp only [hypogeumref12_Find.l0]
    rw [if_neg (by omega), if_neg (show ¬ ((2 ^ (i - 1) : Nat) : Int) = 0 by omega), tmod_nat]
  | succ n ih =>
    intro i h1 hi
    have hle := Nat.pow_le_pow_right (n := 2) (by omega) (show i - 1 ≤ 52 by omega)
    have e52 : (2 : Nat) ^ 52 = 4503599627370496 := by decide
    have hs : 2 ^ (i + 1 - 1) = 2 ^ (i - 1) * 2 := by rw [← Nat.pow_succ]; congr 1; omega
    have := ih (i + 1) (by omega) (by omega)
    rw [hs] at this
    refine Ev.step (fun k => ?_) this
    simp only [hypogeumref12_Find.l0]
    rw [if_pos (by omega), wrapU, wrap_succ (by omega) (by omega), show ((2 ^ (i - 1) : Nat) : Int) * 2 % 18446744073709551616 = ((2 ^ (i - 1) * 2 : Nat) : Int) by omega]
    rfl
theorem ev_rfind {d seed j : Nat} (h1 : 2 ≤ d) (h2 : d ≤ 53) (hj : irr (cand d ((seed + j) % 2 ^ (d - 1))) = true) (hall : ∀ i, i < j → irr (cand d ((seed + i) % 2 ^ (d - 1))) = false) :
    Ev (fun k => hypogeumref12_Find.f k (seed : Int) (d : Int)) ((cand d ((seed + j) % 2 ^ (d - 1)) : Int), (0 : Int)) := by
  have hpos := Nat.two_pow_pos (d - 1)
  have hmod : ∀ i, (seed % 2 ^ (d - 1) + i) % 2 ^ (d - 1) = (seed + i) % 2 ^ (d - 1) := fun i => by rw [Nat.mod_add_mod]
  have key := ev_rfind_l h1 h2 j (seed % 2 ^ (d - 1)) (Nat.mod_lt _ hpos) (fun i hi => by rw [hmod]; exact hall i hi) (by rw [hmod]; exact hj)
  rw [hmod] at key
  refine Ev.congr (f := fun k => hypogeumref12_Find.j0 k (seed : Int) (d : Int) false) (fun k => ?_) ?_
  · unfold hypogeumref12_Find.f
    rw [if_neg (by omega), show decide ((d : Int) > 53) = false from decide_eq_false (by omega)]
  · exact Ev.step (fun k => rfl) (ev_rhalf h2 key (d - 1) 1 (by omega) (by omega))
theorem ev_rfind_bad {a d : Int} (h : d < 2 ∨ d > 53) : Ev (fun k => hypogeumref12_Find.f k a d) ((0 : Int), (6 : Int)) := by
  refine Ev.congr (f := fun k => hypogeumref12_Find.j0 k a d true) (fun k => ?_) (Ev.step (f := fun _ => some (0, 6)) (fun k => rfl) (Ev.now _))
  unfold hypogeumref12_Find.f
  by_cases h1 : d < 2
  · rw [if_pos h1]
  · rw [if_neg h1, show decide (d > 53) = true from decide_eq_true (by omega)]
end Go.Proofs.Ytgkkimonpfhbdaa.Law
