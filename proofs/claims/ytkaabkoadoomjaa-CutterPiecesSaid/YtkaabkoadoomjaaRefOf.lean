/- What the document's own fingerprint (hypogeumref13) comes to. -/
import Derived.Test.YtkaabkoadoomjaaRef
import Derived.Test.YtkaabkoadoomjaaOf
namespace Go.Proofs.Ytkaabkoadoomjaa.Law
open Go.RowKit Go.Proofs.Ytkaabkoadoomjaa.D Go.Proofs.YtkaabkoadoomjaaW.PrintWords Go.Proofs.YtkaabkoadoomjaaW.PrintLast Go.Proofs.YtkaabkoadoomjaaW.PrintMore
theorem xor_bit (c b : Nat) (hb : b < 2) : 2 * c ^^^ b = 2 * c + b := by
  have h : 2 * c ^^^ b = 2 * c ||| b := by
    apply Nat.eq_of_testBit_eq
    intro i
    rw [Nat.testBit_xor, Nat.testBit_or]
    cases i with
    | zero => simp
    | succ i =>
      have : b.testBit (i + 1) = false := Nat.testBit_lt_two_pow (Nat.lt_of_lt_of_le hb (by rw [Nat.pow_succ]; have := Nat.two_pow_pos i; omega))
      rw [this]; simp
  rw [h, show 2 * c = 2 ^ 1 * c by rw [Nat.pow_one], ← Nat.two_pow_add_eq_or_of_lt (i := 1) (by simpa using hb)]
/-- one bit more: what is left of it -/
theorem rem_bit {m : Nat} (h0 : m ≠ 0) (c b : Nat) (hb : b < 2) : Gf.rem (2 * Gf.rem c m + b) m = Gf.rem (2 * c + b) m := by
  rw [← xor_bit _ b hb, ← xor_bit _ b hb, Gf.rem_xor _ _ h0, Gf.rem_xor _ _ h0, rem_two _ h0]
/-- the bits of byte b, put one by one: j are still to come -/
theorem ev_bits {m : Nat} (hm : May m) (l : List Int) (i : Nat) (b : Nat) (hrd : rd l (i : Int) = (b : Int)) (hl : (i : Int) < l.length) (a : Nat) {r : Int}
    (next : Ev (fun k => hypogeumref13_Of.l0 k (m : Int) l (Gf.rem (a * 256 ^^^ b) m : Int) (wrap64 ((i : Int) + 1))) r) (j : Nat) (hj : j ≤ 8) :
    Ev (fun k => hypogeumref13_Of.l1 k (m : Int) l (Gf.rem (a * 2 ^ (8 - j) ^^^ b / 2 ^ j) m : Int) (i : Int) ((2 ^ j / 2 : Nat) : Int)) r := by
  have h0 := hm.ne
  have hlo := hm.lo
  have hhi := hm.hi
  induction j with
  | zero =>
    refine Ev.step (fun k => ?_) next
    simp only [hypogeumref13_Of.l1]
    rw [if_neg (by decide)]
    rw [show (8 - 0 : Nat) = 8 from rfl, show (2 : Nat) ^ 8 = 256 from rfl, Nat.pow_zero, Nat.div_one]
  | succ j ih =>
    have hp : (2 ^ (j + 1) / 2 : Nat) = 2 ^ j := by rw [Nat.pow_succ]; omega
    have hpos := Nat.two_pow_pos j
    have hle : 2 ^ j ≤ 2 ^ 7 := Nat.pow_le_pow_right (by omega) (by omega)
    have h7 : (2 : Nat) ^ 7 = 128 := by decide
    have hx := Gf.rem_lt (a * 2 ^ (8 - (j + 1)) ^^^ b / 2 ^ (j + 1)) h0
    have hx2 : 2 ^ m.log2 ≤ 2 ^ 53 := Nat.pow_le_pow_right (by omega) hhi
    have h53 : (2 : Nat) ^ 53 = 9007199254740992 := by decide
    have hbit : b / 2 ^ j % 2 < 2 := Nat.mod_lt _ (by omega)
    have hdiv : b / 2 ^ j ≤ b := Nat.div_le_self _ _
    have hstep : 2 * (a * 2 ^ (8 - (j + 1)) ^^^ b / 2 ^ (j + 1)) + b / 2 ^ j % 2 = a * 2 ^ (8 - j) ^^^ b / 2 ^ j := by
      rw [← xor_bit _ _ hbit, Nat.mul_comm 2, show (a * 2 ^ (8 - (j + 1)) ^^^ b / 2 ^ (j + 1)) * 2 = (a * 2 ^ (8 - (j + 1)) ^^^ b / 2 ^ (j + 1)) * 2 ^ 1 by rw [Nat.pow_one], mul_xor256, Nat.xor_assoc, Nat.mul_assoc, ← Nat.pow_add, show 8 - (j + 1) + 1 = 8 - j by omega]
      congr 1
      rw [Nat.pow_one, Nat.mul_comm, xor_bit _ _ hbit, Nat.pow_succ, ← Nat.div_div_eq_div_mul]
      omega
    generalize hX : Gf.rem (a * 2 ^ (8 - (j + 1)) ^^^ b / 2 ^ (j + 1)) m = x at *
    have hu : U (2 * x + b / 2 ^ j % 2) := by unfold U; omega
    have hmod := ev_rmod hu hm.u h0
    rw [← hX, rem_bit h0 _ _ hbit, hstep, hX] at hmod
    refine Ev.step (f := fun k => (hypogeumref12_Mod.f k ((2 * x + b / 2 ^ j % 2 : Nat) : Int) (m : Int)).bind fun t => hypogeumref13_Of.l1 k (m : Int) l t (i : Int) ((2 ^ j / 2 : Nat) : Int)) (fun k => ?_) (Ev.bind (f := fun k t => hypogeumref13_Of.l1 k (m : Int) l t (i : Int) ((2 ^ j / 2 : Nat) : Int)) hmod (ih (by omega)))
    simp only [hypogeumref13_Of.l1]
    rw [hp, if_pos (by omega), if_pos (by omega), if_pos (by omega), if_neg (by omega), hrd, tdiv_nat, show (2 : Int) = ((2 : Nat) : Int) from rfl, tdiv_nat]
    rw [show (((b / 2 ^ j : Nat) : Int) % 256 % ((2 : Nat) : Int)) = ((b / 2 ^ j % 2 : Nat) : Int) by omega, show (((2 ^ j / 2 : Nat) : Int) % 256) = ((2 ^ j / 2 : Nat) : Int) by omega]
    rw [wrapU, wrapU, show ((x : Int) * ((2 : Nat) : Int) % 18446744073709551616 + ((b / 2 ^ j % 2 : Nat) : Int)) % 18446744073709551616 = ((2 * x + b / 2 ^ j % 2 : Nat) : Int) by omega]
theorem ev_rof_l {m : Nat} (hm : May m) (l : List Int) (hb : Bytes l) (hl : l.length ≤ 1000000000000000) (off : Nat) (n : Nat) : ∀ i : Nat, i + n = l.length → off ≤ i →
    Ev (fun k => hypogeumref13_Of.l0 k (m : Int) l (Gf.rem (poly (((nat l).drop off).take (i - off))) m : Int) (i : Int)) (fp m ((nat l).drop off) : Int) := by
  have h0 := hm.ne
  induction n with
  | zero =>
    intro i hi ho
    refine Ev.step (f := fun _ => some (fp m ((nat l).drop off) : Int)) (fun k => ?_) (Ev.now _)
    simp only [hypogeumref13_Of.l0]
    rw [if_neg (by omega), List.take_of_length_le (by rw [List.length_drop, nat_len]; omega)]; rfl
  | succ n ih =>
    intro i hi ho
    have hil : i < l.length := by omega
    have hrd : rd l (i : Int) = l[i] := by
      unfold rd
      rw [show (i : Int).toNat = i from rfl, List.getD_eq_getElem?_getD, List.getElem?_eq_getElem hil]; rfl
    have hby := hb _ (List.getElem_mem hil)
    obtain ⟨b, hbb⟩ : ∃ b : Nat, l[i] = (b : Int) := ⟨_, (Int.toNat_of_nonneg hby.1).symm⟩
    have h1 := ih (i + 1) (by omega) (by omega)
    have htake : ((nat l).drop off).take (i + 1 - off) = ((nat l).drop off).take (i - off) ++ [b] := by
      rw [show i + 1 - off = (i - off) + 1 by omega, List.take_succ_eq_append_getElem (by rw [List.length_drop, nat_len]; omega)]
      congr 2
      rw [List.getElem_drop]
      unfold nat
      rw [List.getElem_map]
      have : (l[off + (i - off)]'(by omega)) = l[i] := by congr 1; omega
      rw [this, hbb]; rfl
    rw [htake, poly_snoc] at h1
    have h2 := ev_bits hm l i b (by rw [hrd, hbb]) (by omega) (poly (((nat l).drop off).take (i - off))) (r := (fp m ((nat l).drop off) : Int)) (by
      rw [w64 (by omega) (by omega)]; exact h1) 8 (Nat.le_refl _)
    refine Ev.step (fun k => ?_) h2
    simp only [hypogeumref13_Of.l0]
    rw [if_pos (by omega), show b / 2 ^ 8 = 0 from Nat.div_eq_of_lt (by omega), Nat.xor_zero, Nat.sub_self, Nat.pow_zero, Nat.mul_one]; rfl
theorem ev_rof {m : Nat} (hm : May m) (l : List Int) (hb : Bytes l) (hl : l.length ≤ 1000000000000000) : Ev (fun k => hypogeumref13_Of.f k (m : Int) l) (fp m ((nat l).drop (l.length - 16)) : Int) := by
  have := ev_rof_l hm l hb hl (l.length - 16) (l.length - (l.length - 16)) (l.length - 16) (by omega) (Nat.le_refl _)
  rw [Nat.sub_self, List.take_zero, show poly [] = 0 from rfl, Gf.rem_small (Nat.two_pow_pos _)] at this
  refine Ev.congr (fun k => ?_) this
  unfold hypogeumref13_Of.f
  rw [w64 (by omega) (by omega)]
  have : mx 0 ((l.length : Int) - 16) = ((l.length - 16 : Nat) : Int) := by unfold mx; split <;> omega
  rw [this]; rfl
theorem may_iff {m : Nat} (hu : U m) : May m ↔ 9 ≤ deg m ∧ deg m ≤ 53 := by
  by_cases h0 : m = 0
  · subst h0
    rw [deg_zero]
    exact ⟨fun h => absurd rfl h.ne, fun h => by omega⟩
  · rw [deg_ne h0]
    exact ⟨fun h => by have := h.lo; have := h.hi; omega, fun h => ⟨hu, by omega, by omega⟩⟩
theorem ev_right {m : Nat} (hu : U m) : Ev (fun k => hypogeumref13_Right.f k (m : Int)) (decide (May m)) := by
  refine Ev.bind (f := fun _ t => if t ≥ 9 then some (decide (t ≤ 53)) else some false) (ev_rdeg hu) (Ev.congr (f := fun _ => some (decide (May m))) (fun _ => ?_) (Ev.now _))
  have := may_iff hu
  by_cases h9 : deg m ≥ 9
  · rw [if_pos h9]; congr 1
    by_cases h53 : deg m ≤ 53
    · rw [decide_eq_true h53, decide_eq_true (this.mpr ⟨h9, h53⟩)]
    · rw [decide_eq_false h53, decide_eq_false (fun h => h53 (this.mp h).2)]
  · rw [if_neg h9, decide_eq_false (fun h => h9 (this.mp h).1)]
theorem bytes_wf {l : List Int} (h : ∀ x ∈ l, (Lit.int .u8 x).wf = true) : Bytes l := fun x hx => by
  have := h x hx
  simp only [Lit.wf, IntKind.min, IntKind.max, IntKind.signed, IntKind.bits, Bool.and_eq_true] at this
  simp at this
  omega
end Go.Proofs.Ytkaabkoadoomjaa.Law
