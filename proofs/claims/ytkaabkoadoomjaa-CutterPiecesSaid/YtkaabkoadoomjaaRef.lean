/- What the document's functions of chapter 12 come to (turned from layer 12's text). -/
import Derived.Test.YtkaabkoadoomjaaDx4
import Derived.Test.YtkaabkoadoomjaaBase
import Derived.Test.YtkaabkoadoomjaaFp
namespace Go.Proofs.Ytkaabkoadoomjaa.Law
open Go.RowKit Go.Proofs.Ytkaabkoadoomjaa.D Go.Proofs.YtkaabkoadoomjaaW.PrintWords Go.Proofs.YtkaabkoadoomjaaW.PrintLast Go.Proofs.YtkaabkoadoomjaaW.PrintMore
/-! lists of coefficients -/
def ci (l : List Nat) : List Int := l.map fun (n : Nat) => (n : Int)
def BL (l : List Nat) : Prop := ∀ b ∈ l, b < 2
def val : List Nat → Nat
  | [] => 0
  | b :: l => b + 2 * val l
theorem ci_length (l : List Nat) : (ci l).length = l.length := by simp [ci]
theorem rd_ci (l : List Nat) (j : Nat) : rd (ci l) (j : Int) = ((l.getD j 0 : Nat) : Int) := by
  unfold rd ci
  rw [show (j : Int).toNat = j from rfl, List.getD_eq_getElem?_getD, List.getD_eq_getElem?_getD, List.getElem?_map]
  cases l[j]? <;> rfl
theorem set_ci (l : List Nat) (j v : Nat) : (ci l).set j (v : Int) = ci (l.set j v) := by
  unfold ci; rw [List.map_set]
theorem getD_lt {l : List Nat} (h : BL l) (j : Nat) : l.getD j 0 < 2 := by
  rw [List.getD_eq_getElem?_getD]
  cases hj : l[j]? with
  | none => simp
  | some b => exact h b (List.mem_of_getElem? hj)
theorem BL.set {l : List Nat} (h : BL l) (j : Nat) {v : Nat} (hv : v < 2) : BL (l.set j v) := by
  intro b hb
  rcases List.mem_or_eq_of_mem_set hb with h1 | h1
  · exact h b h1
  · rw [h1]; exact hv
theorem val_bit {l : List Nat} (h : BL l) : ∀ i, (val l).testBit i = decide (l.getD i 0 = 1) := by
  induction l with
  | nil => intro i; simp [val]
  | cons b l ih =>
    have hb := h b (by simp)
    have hl : BL l := fun x hx => h x (by simp [hx])
    intro i
    cases i with
    | zero =>
      show (b + 2 * val l).testBit 0 = decide (b = 1)
      rw [Nat.testBit_zero]
      congr 1
      rw [eq_iff_iff]; omega
    | succ i =>
      show (b + 2 * val l).testBit (i + 1) = decide (l.getD i 0 = 1)
      rw [← ih hl i, Nat.testBit_succ]; congr 1; omega
theorem val_lt {l : List Nat} (h : BL l) : val l < 2 ^ l.length := by
  induction l with
  | nil => simp [val]
  | cons b l ih =>
    have hb := h b (by simp)
    have := ih fun x hx => h x (by simp [hx])
    show b + 2 * val l < 2 ^ (l.length + 1)
    rw [Nat.pow_succ]; omega
/-- a number's coefficients -/
def cof (a : Nat) : List Nat := if a = 0 then [] else a % 2 :: cof (a / 2)
termination_by a
decreasing_by omega
theorem cof_zero : cof 0 = [] := by rw [cof]; simp
theorem cof_step {a : Nat} (h : a ≠ 0) : cof a = a % 2 :: cof (a / 2) := by rw [cof, if_neg h]
theorem cof_spec (a : Nat) : BL (cof a) ∧ val (cof a) = a ∧ (cof a).length = len a := by
  induction a using Nat.strongRecOn with
  | ind a ih =>
    by_cases h : a = 0
    · subst h; rw [cof_zero]; exact ⟨fun b hb => by simp at hb, rfl, rfl⟩
    · obtain ⟨h1, h2, h3⟩ := ih (a / 2) (by omega)
      rw [cof_step h]
      refine ⟨?_, ?_, ?_⟩
      · intro b hb
        rcases List.mem_cons.mp hb with e | e
        · omega
        · exact h1 b e
      · show a % 2 + 2 * val (cof (a / 2)) = a
        rw [h2]; omega
      · rw [List.length_cons, h3]
        by_cases h4 : 2 ≤ a
        · have := len_shift (a := a) 1 (by omega)
          rw [Nat.pow_one] at this; omega
        · obtain rfl : a = 1 := by omega
          decide
theorem ev_coef_l (a : Nat) : ∀ l : List Int, U a → l.length + len a ≤ 1000 → Ev (fun k => hypogeumref12_coefficients.l0 k (a : Int) l) (l ++ ci (cof a)) := by
  induction a using Nat.strongRecOn with
  | ind a ih =>
    intro l ha hl
    by_cases h : a = 0
    · subst h
      rw [cof_zero]
      refine Ev.step (f := fun _ => some l) (fun k => rfl) ?_
      simp only [ci, List.map_nil, List.append_nil]; exact Ev.now _
    · have hlen : (cof a).length = len a := (cof_spec a).2.2
      have hlen2 : (cof (a / 2)).length = len (a / 2) := (cof_spec (a / 2)).2.2
      rw [cof_step h, List.length_cons] at hlen
      refine Ev.step (f := fun k => hypogeumref12_coefficients.l0 k ((a / 2 : Nat) : Int) (l ++ [((a % 2 : Nat) : Int)])) (fun k => ?_) ?_
      · simp only [hypogeumref12_coefficients.l0]
        unfold U at ha
        rw [if_pos (by omega), if_pos (by omega), show (2 : Int) = ((2 : Nat) : Int) from rfl, tdiv_nat, tmod_nat, wrapU, w64 (by omega) (by omega),
          show ((a / 2 : Nat) : Int) % 18446744073709551616 = ((a / 2 : Nat) : Int) by omega]
      · have := ih (a / 2) (by omega) (l ++ [((a % 2 : Nat) : Int)]) (u_le ha (by omega)) (by simp; omega)
        rw [cof_step h]
        simpa [ci] using this
theorem ev_coef {a : Nat} (ha : U a) : Ev (fun k => hypogeumref12_coefficients.f k (a : Int)) (ci (cof a)) := by
  have := ev_coef_l a [] ha (by have := len_u ha; simp; omega)
  rw [List.nil_append] at this; exact this
/-- the number that coefficients tell, from place n - 1 down -/
theorem ev_of_l {l : List Nat} (hB : BL l) (hl : l.length ≤ 63) (n : Nat) : ∀ x : Nat, n ≤ l.length → x = val (l.drop n) →
    Ev (fun k => hypogeumref12_of.l0 k (ci l) (x : Int) ((n : Int) - 1)) (val l : Int) := by
  induction n with
  | zero =>
    intro x _ hx
    rw [hx, List.drop_zero]
    exact Ev.step (f := fun _ => some (val l : Int)) (fun k => by simp only [hypogeumref12_of.l0]; rw [if_neg (by omega)]) (Ev.now _)
  | succ n ih =>
    intro x hn hx
    have hBd : BL (l.drop n) := fun b hb => hB b (List.mem_of_mem_drop hb)
    have hBd1 : BL (l.drop (n + 1)) := fun b hb => hB b (List.mem_of_mem_drop hb)
    have hd : l.drop n = l.getD n 0 :: l.drop (n + 1) := by
      rw [List.drop_eq_getElem_cons (by omega)]
      congr 1
      rw [List.getD_eq_getElem?_getD, List.getElem?_eq_getElem (by omega)]; rfl
    have hv : val (l.drop n) = l.getD n 0 + 2 * x := by rw [hd, hx]; rfl
    have hlt := val_lt hBd
    have hle : 2 ^ (l.drop n).length ≤ 2 ^ 63 := Nat.pow_le_pow_right (by omega) (by rw [List.length_drop]; omega)
    have h63 : (2 : Nat) ^ 63 = 9223372036854775808 := by decide
    have hg := getD_lt hB n
    refine Ev.step (f := fun k => hypogeumref12_of.l0 k (ci l) ((val (l.drop n) : Nat) : Int) ((n : Int) - 1)) (fun k => ?_) (ih _ (by omega) rfl)
    simp only [hypogeumref12_of.l0]
    rw [if_pos (by omega), if_pos (by omega), if_pos (by rw [ci_length]; omega), show (((n + 1 : Nat) : Int) - 1) = (n : Int) by omega, rd_ci, wrapU, wrapU, wrapU, w64 (by omega) (by omega)]
    congr 1
    rw [hv]; omega
theorem ev_of {l : List Nat} (hB : BL l) (hl : l.length ≤ 63) : Ev (fun k => hypogeumref12_of.f k (ci l)) (val l : Int) := by
  refine Ev.congr (fun k => ?_) (ev_of_l hB hl l.length 0 (Nat.le_refl _) (by rw [List.drop_length]; rfl))
  unfold hypogeumref12_of.f
  rw [ci_length, w64 (by omega) (by omega)]; rfl
/-! what is left of coefficients -/
theorem xor_mod2 {x y : Nat} (hx : x < 2) (hy : y < 2) : decide ((x + y) % 2 = 1) = (decide (x = 1) ^^ decide (y = 1)) := by
  have h1 : x = 0 ∨ x = 1 := by omega
  have h2 : y = 0 ∨ y = 1 := by omega
  rcases h1 with rfl | rfl <;> rcases h2 with rfl | rfl <;> decide
theorem getD_set (l : List Nat) (j v i : Nat) (hj : j < l.length) : (l.set j v).getD i 0 = if j = i then v else l.getD i 0 := by
  rw [List.getD_eq_getElem?_getD, List.getD_eq_getElem?_getD, List.getElem?_set]
  by_cases h : j = i
  · subst h; rw [if_pos rfl, if_pos rfl, if_pos hj]; rfl
  · rw [if_neg h, if_neg h]
/-- the bits of a list after k of m's (from its last one) were put upon it below place i -/
def put (l m : List Nat) (i k : Nat) : Nat → Nat := fun j => if j ≤ i ∧ i < j + k then (l.getD j 0 + m.getD (m.length - 1 - (i - j)) 0) % 2 else l.getD j 0
theorem put_next {l m : List Nat} {i k : Nat} (j : Nat) : put l m i (k + 1) j = if j + k = i then (l.getD j 0 + m.getD (m.length - 1 - k) 0) % 2 else put l m i k j := by
  unfold put
  by_cases h : j + k = i
  · rw [if_pos h, if_pos (by omega), show i - j = k by omega]
  · rw [if_neg h]
    by_cases h2 : j ≤ i ∧ i < j + k
    · rw [if_pos h2, if_pos (by omega)]
    · rw [if_neg h2, if_neg (by omega)]
theorem put_lt {l m : List Nat} (hl : BL l) (i k j : Nat) : put l m i k j < 2 := by
  unfold put
  split
  · omega
  · exact getD_lt hl j
/-- all of m's: they are the number's, moved -/
theorem val_put {l m l' : List Nat} {i : Nat} (hl : BL l) (hm : BL m) (hl' : BL l') (hm1 : 1 ≤ m.length) (hi : m.length - 1 ≤ i) (h : ∀ j, l'.getD j 0 = put l m i m.length j) : val l' = val l ^^^ (val m * 2 ^ (i - (m.length - 1))) := by
  apply Nat.eq_of_testBit_eq
  intro j
  rw [val_bit hl', Nat.testBit_xor, val_bit hl, Nat.testBit_mul_two_pow, h j]
  unfold put
  by_cases h1 : j ≤ i ∧ i < j + m.length
  · rw [if_pos h1, xor_mod2 (getD_lt hl j) (getD_lt hm _), decide_eq_true (show i - (m.length - 1) ≤ j by omega), Bool.true_and, val_bit hm,
      show m.length - 1 - (i - j) = j - (i - (m.length - 1)) by omega]
  · rw [if_neg h1]
    by_cases h2 : i - (m.length - 1) ≤ j
    · have h3 : m.length ≤ j - (i - (m.length - 1)) := by omega
      have : (val m).testBit (j - (i - (m.length - 1))) = false := by
        rw [val_bit hm, List.getD_eq_getElem?_getD, List.getElem?_eq_none h3]; rfl
      rw [this, Bool.and_false, Bool.xor_false]
    · rw [decide_eq_false h2, Bool.false_and, Bool.xor_false]
theorem val_take {l : List Nat} (hl : BL l) (n : Nat) (h : ∀ j, n ≤ j → l.getD j 0 = 0) : val (l.take n) = val l := by
  have hb : BL (l.take n) := fun b hb => hl b (List.mem_of_mem_take hb)
  apply Nat.eq_of_testBit_eq
  intro j
  rw [val_bit hb, val_bit hl]
  by_cases hj : j < n
  · rw [List.getD_eq_getElem?_getD, List.getElem?_take, if_pos hj, List.getD_eq_getElem?_getD]
  · rw [h j (by omega), List.getD_eq_getElem?_getD, List.getElem?_take, if_neg hj]; rfl
theorem getD_none {l : List Nat} {j : Nat} (h : l.length ≤ j) : l.getD j 0 = 0 := by
  rw [List.getD_eq_getElem?_getD, List.getElem?_eq_none h]; rfl
section
variable {m : List Nat} (hB : BL m) (hm1 : 1 ≤ m.length) (hm64 : m.length ≤ 64)
include hB hm1 hm64
/-- the inner loop -/
theorem ev_rest_in {l : List Nat} (hl : BL l) (hl128 : l.length ≤ 128) {i : Nat} (hi : m.length - 1 ≤ i) (hil : i < l.length) {r : List Int}
    (next : ∀ l' : List Nat, BL l' → l'.length = l.length → val l' = val l ^^^ (val m * 2 ^ (i - (m.length - 1))) → (∀ j, i < j → l'.getD j 0 = l.getD j 0) → l'.getD i 0 = (l.getD i 0 + m.getD (m.length - 1) 0) % 2 →
      Ev (fun k => hypogeumref12_rest.l0 k (ci m) (ci l') ((i : Int) - 1)) r)
    (n : Nat) : ∀ (k : Nat) (l' : List Nat), k + n = m.length → BL l' → l'.length = l.length → (∀ j, l'.getD j 0 = put l m i k j) →
      Ev (fun q => hypogeumref12_rest.l1 q (ci m) (ci l') (i : Int) (k : Int)) r := by
  induction n with
  | zero =>
    intro k l' hk hb hlen h
    obtain rfl : k = m.length := by omega
    refine Ev.step (fun q => ?_) (next l' hb hlen (val_put hl hB hb hm1 hi h) (fun j hj => by rw [h j]; unfold put; rw [if_neg (by omega)]) (by rw [h i]; unfold put; rw [if_pos (by omega), Nat.sub_self, Nat.sub_zero]))
    simp only [hypogeumref12_rest.l1]
    rw [if_neg (by rw [ci_length]; omega), w64 (by omega) (by omega)]
  | succ n ih =>
    intro k l' hk hb hlen h
    have hv : (l.getD (i - k) 0 + m.getD (m.length - 1 - k) 0) % 2 < 2 := Nat.mod_lt _ (by omega)
    refine Ev.step (f := fun q => hypogeumref12_rest.l1 q (ci m) (ci (l'.set (i - k) ((l.getD (i - k) 0 + m.getD (m.length - 1 - k) 0) % 2))) (i : Int) ((k + 1 : Nat) : Int)) (fun q => ?_)
      (ih (k + 1) (l'.set (i - k) ((l.getD (i - k) 0 + m.getD (m.length - 1 - k) 0) % 2)) (by omega) (hb.set _ hv) (by rw [List.length_set, hlen]) (fun j => ?_))
    · have g1 := getD_lt hl (i - k)
      have g2 := getD_lt hB (m.length - 1 - k)
      have e0 : l'.getD (i - k) 0 = l.getD (i - k) 0 := by
        rw [h]; unfold put; rw [if_neg (by omega)]
      simp only [hypogeumref12_rest.l1]
      rw [ci_length, ci_length, if_pos (by omega)]
      have e1 : wrap64 ((i : Int) - (k : Int)) = ((i - k : Nat) : Int) := by rw [w64 (by omega) (by omega)]; omega
      have e2 : wrap64 ((wrap64 ((m.length : Int) - 1)) - (k : Int)) = ((m.length - 1 - k : Nat) : Int) := by
        rw [w64 (n := (m.length : Int) - 1) (by omega) (by omega), w64 (by omega) (by omega)]; omega
      rw [e1, e2, if_pos (by omega), if_pos (by rw [hlen]; omega), if_pos (by omega), if_pos (by omega), rd_ci, rd_ci, e0,
        show (((l.getD (i - k) 0 : Nat) : Int) + ((m.getD (m.length - 1 - k) 0 : Nat) : Int)) = ((l.getD (i - k) 0 + m.getD (m.length - 1 - k) 0 : Nat) : Int) by omega,
        w64 (by omega) (by omega), show (2 : Int) = ((2 : Nat) : Int) from rfl, tmod_nat, show (((i - k : Nat) : Int)).toNat = i - k from rfl, set_ci, w64 (by omega) (by omega)]
      rfl
    · rw [getD_set _ _ _ _ (by omega), put_next]
      by_cases e : i - k = j
      · rw [if_pos e, if_pos (by omega), e]
      · rw [if_neg e, if_neg (by omega), h j]
/-- the outer loop, from place n - 1 down -/
theorem ev_rest_out (hlast : m.getD (m.length - 1) 0 = 1) {l : List Nat} (hl128 : l.length ≤ 128) (n : Nat) : ∀ l' : List Nat, BL l' → l'.length = l.length → n ≤ l.length →
    Gf.Dvd (val m) (val l' ^^^ val l) → (∀ j, n ≤ j → l'.getD j 0 = 0) →
    ∃ r : List Nat, Ev (fun k => hypogeumref12_rest.l0 k (ci m) (ci l') ((n : Int) - 1)) (ci r) ∧ BL r ∧ r.length ≤ 63 ∧ val r < 2 ^ (m.length - 1) ∧ Gf.Dvd (val m) (val r ^^^ val l) := by
  have fin : ∀ l' : List Nat, BL l' → l'.length = l.length → Gf.Dvd (val m) (val l' ^^^ val l) → ∀ n : Nat, n ≤ m.length - 1 → (∀ j, m.length - 1 ≤ j → l'.getD j 0 = 0) →
      ∃ r : List Nat, Ev (fun k => hypogeumref12_rest.l0 k (ci m) (ci l') ((n : Int) - 1)) (ci r) ∧ BL r ∧ r.length ≤ 63 ∧ val r < 2 ^ (m.length - 1) ∧ Gf.Dvd (val m) (val r ^^^ val l) := by
    intro l' hb hlen hd n hn hz
    have hbt : BL (l'.take (m.length - 1)) := fun b h => hb b (List.mem_of_mem_take h)
    have hvt := val_take hb (m.length - 1) hz
    have hlt : val (l'.take (m.length - 1)) < 2 ^ (m.length - 1) := by
      have h1 := val_lt hbt
      have h2 : 2 ^ (l'.take (m.length - 1)).length ≤ 2 ^ (m.length - 1) := Nat.pow_le_pow_right (by omega) (by rw [List.length_take]; omega)
      omega
    have w1 : wrap64 ((m.length : Int) - 1) = ((m.length - 1 : Nat) : Int) := by rw [w64 (by omega) (by omega)]; omega
    by_cases hc : m.length ≤ l'.length
    · refine ⟨l'.take (m.length - 1), Ev.step (f := fun _ => some (ci (l'.take (m.length - 1)))) (fun k => ?_) (Ev.now _), hbt, by rw [List.length_take]; omega, hlt, by rw [hvt]; exact hd⟩
      simp only [hypogeumref12_rest.l0]
      rw [ci_length, ci_length, w1, if_neg (by omega), if_pos (by omega), if_pos (by omega), if_pos (by omega), show ((m.length - 1 : Nat) : Int).toNat = m.length - 1 from rfl]
      unfold ci; rw [List.map_take]
    · refine ⟨l', Ev.step (f := fun _ => some (ci l')) (fun k => ?_) (Ev.now _), hb, by omega, by rw [← hvt]; exact hlt, hd⟩
      simp only [hypogeumref12_rest.l0]
      rw [ci_length, ci_length, w1, if_neg (by omega), if_neg (by omega)]
  induction n with
  | zero =>
    intro l' hb hlen _ hd hz
    exact fin l' hb hlen hd 0 (by omega) (fun j _ => hz j (by omega))
  | succ n ih =>
    intro l' hb hlen hn hd hz
    by_cases hc : n < m.length - 1
    · exact fin l' hb hlen hd (n + 1) (by omega) (fun j hj => hz j (by omega))
    · have w1 : wrap64 ((m.length : Int) - 1) = ((m.length - 1 : Nat) : Int) := by rw [w64 (by omega) (by omega)]; omega
      have hg := getD_lt hb n
      by_cases h1 : l'.getD n 0 = 1
      · have key : ∃ r : List Nat, Ev (fun q => hypogeumref12_rest.l1 q (ci m) (ci l') (n : Int) ((0 : Nat) : Int)) (ci r) ∧ BL r ∧ r.length ≤ 63 ∧ val r < 2 ^ (m.length - 1) ∧ Gf.Dvd (val m) (val r ^^^ val l) := by
          -- what the inner loop makes is one list: take the outer loop's answer at it
          obtain ⟨l2, b2, len2, p2⟩ : ∃ l2 : List Nat, BL l2 ∧ l2.length = l'.length ∧ ∀ j, l2.getD j 0 = put l' m n m.length j := by
            have step : ∀ k, k ≤ m.length → ∃ l2 : List Nat, BL l2 ∧ l2.length = l'.length ∧ ∀ j, l2.getD j 0 = put l' m n k j := by
              intro k
              induction k with
              | zero => intro _; exact ⟨l', hb, rfl, fun j => by unfold put; rw [if_neg (by omega)]⟩
              | succ k ihk =>
                intro hk
                obtain ⟨l2, b2, len2, p2⟩ := ihk (by omega)
                refine ⟨l2.set (n - k) ((l'.getD (n - k) 0 + m.getD (m.length - 1 - k) 0) % 2), b2.set _ (Nat.mod_lt _ (by omega)), by rw [List.length_set, len2], fun j => ?_⟩
                rw [getD_set _ _ _ _ (by omega), put_next]
                by_cases e : n - k = j
                · rw [if_pos e, if_pos (by omega), e]
                · rw [if_neg e, if_neg (by omega), p2 j]
            exact step m.length (Nat.le_refl _)
          have v2 := val_put hb hB b2 hm1 (show m.length - 1 ≤ n by omega) p2
          obtain ⟨r, e, br, lr, vr, dr⟩ := ih l2 b2 (by omega) (by omega) (by
            rw [v2, Nat.xor_assoc, Nat.xor_comm (val m * _), ← Nat.xor_assoc]
            refine hd.xor ?_
            rw [← Gf.mul_pow]; exact (Gf.Dvd.refl _).mul_right _) (fun j hj => by
            rw [p2 j]; unfold put
            by_cases ej : j = n
            · rw [if_pos (by omega), ej, Nat.sub_self, Nat.sub_zero, h1, hlast]
            · rw [if_neg (by omega), hz j (by omega)])
          refine ⟨r, ev_rest_in hB hm1 hm64 hb (by omega) (show m.length - 1 ≤ n by omega) (by omega) (fun l3 b3 len3 v3 z3 z4 => ?_) m.length 0 l' (by omega) hb rfl (fun j => by unfold put; rw [if_neg (by omega)]), br, lr, vr, dr⟩
          have : l3 = l2 := by
            apply List.ext_getElem (by omega)
            intro j h3 h2
            have q3 := val_bit b3 j
            have q2 := val_bit b2 j
            rw [v3, ← v2, q2] at q3
            have g3 : l3.getD j 0 = l3[j] := by rw [List.getD_eq_getElem?_getD, List.getElem?_eq_getElem h3]; rfl
            have g2 : l2.getD j 0 = l2[j] := by rw [List.getD_eq_getElem?_getD, List.getElem?_eq_getElem h2]; rfl
            have l3' := getD_lt b3 j
            have l2' := getD_lt b2 j
            rw [g3] at q3 l3'; rw [g2] at q3 l2'
            by_cases hx : l2[j] = 1
            · rw [hx] at q3; simp at q3; omega
            · rw [decide_eq_false hx] at q3; have := of_decide_eq_false q3.symm; omega
          rw [this]; exact e
        obtain ⟨r, e, rest⟩ := key
        refine ⟨r, Ev.step (fun k => ?_) e, rest⟩
        simp only [hypogeumref12_rest.l0]
        rw [ci_length, ci_length, w1, show (((n + 1 : Nat) : Int) - 1) = (n : Int) by omega, if_pos (by omega), if_pos (by omega), if_pos (by omega), rd_ci, h1, if_pos (show ((1 : Nat) : Int) = 1 from rfl)]
        rfl
      · obtain ⟨r, e, rest⟩ := ih l' hb hlen (by omega) hd (fun j hj => by
          by_cases ej : j = n
          · rw [ej]; omega
          · exact hz j (by omega))
        refine ⟨r, Ev.step (fun k => ?_) e, rest⟩
        simp only [hypogeumref12_rest.l0]
        rw [ci_length, ci_length, w1, show (((n + 1 : Nat) : Int) - 1) = (n : Int) by omega, if_pos (by omega), if_pos (by omega), if_pos (by omega), rd_ci, if_neg (by omega), w64 (by omega) (by omega)]
end
theorem cof_last {M : Nat} (h0 : M ≠ 0) : (cof M).getD ((cof M).length - 1) 0 = 1 := by
  obtain ⟨h1, h2, h3⟩ := cof_spec M
  have hl : len M = M.log2 + 1 := by unfold len; rw [if_neg h0]
  have hb := val_bit h1 M.log2
  rw [h2, Gf.tb_top (Gf.lt_log2 M), decide_eq_true (Gf.log2_le h0)] at hb
  rw [h3, hl, Nat.add_sub_cancel]
  exact of_decide_eq_true hb.symm
theorem ev_rest {l : List Nat} (hl : BL l) (hl128 : l.length ≤ 128) {M : Nat} (hM : U M) (h0 : M ≠ 0) :
    ∃ r : List Nat, Ev (fun k => hypogeumref12_rest.f k (ci l) (ci (cof M))) (ci r) ∧ BL r ∧ r.length ≤ 63 ∧ val r = Gf.rem (val l) M := by
  obtain ⟨h1, h2, h3⟩ := cof_spec M
  have hu := len_u hM
  have hl1 : len M = M.log2 + 1 := by unfold len; rw [if_neg h0]
  obtain ⟨r, e, br, lr, vr, q, hq⟩ := ev_rest_out h1 (by omega) (by omega) (cof_last h0) hl128 l.length l hl rfl (Nat.le_refl _) (by rw [Nat.xor_self]; exact Gf.Dvd.zero _) (fun j hj => getD_none hj)
  refine ⟨r, Ev.congr (fun k => ?_) e, br, lr, ?_⟩
  · unfold hypogeumref12_rest.f
    rw [Option.bind_some, List.length_nil, Nat.zero_add, List.nil_append, ci_length, if_pos (by omega), Option.bind_some, ci_length, w64 (by omega) (by omega)]
  · rw [h2] at hq
    rw [h3, hl1, Nat.add_sub_cancel] at vr
    refine (Gf.rem_uniq h0 (q := q) ?_ vr).symm
    rw [← hq, Nat.xor_comm (val r), Gf.xor_xor_cancel]
theorem ev_rmod {a m : Nat} (ha : U a) (hm : U m) (h0 : m ≠ 0) : Ev (fun k => hypogeumref12_Mod.f k (a : Int) (m : Int)) (Gf.rem a m : Int) := by
  obtain ⟨h1, h2, h3⟩ := cof_spec a
  have hu := len_u ha
  obtain ⟨r, e, br, lr, vr⟩ := ev_rest h1 (by omega) hm h0
  rw [h2] at vr
  refine Ev.bind (ev_coef ha) (Ev.bind (ev_coef hm) (Ev.bind e ?_))
  rw [← vr]
  exact Ev.bind (f := fun _ t => some t) (ev_of br lr) (Ev.now _)
/-! the degree -/
theorem ev_rdeg_l (a : Nat) : ∀ x : Int, U a → -1 ≤ x → x + len a ≤ 1000 → Ev (fun k => hypogeumref12_Degree.l0 k (a : Int) x) (x + len a) := by
  induction a using Nat.strongRecOn with
  | ind a ih =>
    intro x ha hx hl
    by_cases h : a = 0
    · subst h
      refine Ev.step (f := fun _ => some x) (fun k => rfl) ?_
      rw [show ((len 0 : Nat) : Int) = 0 from rfl, Int.add_zero]; exact Ev.now _
    · have hlen : len a = len (a / 2) + 1 := by
        by_cases h4 : 2 ≤ a
        · have := len_shift (a := a) 1 (by omega)
          rw [Nat.pow_one] at this; exact this
        · obtain rfl : a = 1 := by omega
          decide
      have := ih (a / 2) (by omega) (x + 1) (u_le ha (by omega)) (by omega) (by omega)
      rw [hlen, show x + ((len (a / 2) + 1 : Nat) : Int) = x + 1 + (len (a / 2) : Int) by omega]
      refine Ev.step (fun k => ?_) this
      simp only [hypogeumref12_Degree.l0]
      unfold U at ha
      rw [if_pos (by omega), show (2 : Int) = ((2 : Nat) : Int) from rfl, tdiv_nat, wrapU, w64 (by omega) (by omega), show ((a / 2 : Nat) : Int) % 18446744073709551616 = ((a / 2 : Nat) : Int) by omega]
theorem ev_rdeg {a : Nat} (ha : U a) : Ev (fun k => hypogeumref12_Degree.f k (a : Int)) (deg a) := by
  have hu := len_u ha
  have := ev_rdeg_l a (-1) ha (by omega) (by omega)
  rw [show (-1 : Int) + len a = deg a by unfold deg; omega] at this
  exact this
/-! products of coefficients -/
end Go.Proofs.Ytkaabkoadoomjaa.Law
