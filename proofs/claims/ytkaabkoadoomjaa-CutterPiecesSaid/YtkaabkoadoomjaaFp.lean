/- The fingerprint as polynomials: what is left of the window's bits; what shift and Push come to. Plain Lean. -/
import Derived.Test.YtkaabkoadoomjaaBase
import Derived.Test.YtkaabkoadoomjaaRoll
namespace Go.Proofs.Ytkaabkoadoomjaa.Law
open Go.RowKit Go.Proofs.Ytkaabkoadoomjaa Go.Proofs.Ytkaabkoadoomjaa.D Go.Proofs.Ytkaabkoadoomjaa.Roll Go.Proofs.YtkaabkoadoomjaaW.PrintWords Go.Proofs.YtkaabkoadoomjaaW.PrintLast Go.Proofs.YtkaabkoadoomjaaW.PrintMore
theorem rem_two (a : Nat) {m : Nat} (h0 : m ≠ 0) : Gf.rem (2 * Gf.rem a m) m = Gf.rem (2 * a) m := by
  have e : ∀ a, 2 * a = Gf.mul a 2 := fun a => by rw [show (2 : Nat) = 2 * 1 from rfl, Gf.mul_two, Gf.mul_one]
  rw [e, Gf.rem_mul_left _ _ h0, ← e]
theorem sh1_rem {m y : Nat} (hm : U m) (h0 : m ≠ 0) (hy : y < 2 ^ m.log2) : sh1 (m : Int) (m.log2 : Int) (y : Int) = (Gf.rem (2 * y) m : Int) := by
  have h2 := u_two hm h0 hy
  obtain ⟨_, hr⟩ := deg_two h0 hy
  have hup : 2 * y < 2 ^ (m.log2 + 1) := by rw [Nat.pow_succ]; omega
  have hpos := Nat.two_pow_pos m.log2
  have e1 : ((2 * y : Nat) : Int) / 2 ^ ((m.log2 : Int)).toNat = ((2 * y / 2 ^ m.log2 : Nat) : Int) := by
    rw [show ((m.log2 : Int)).toNat = m.log2 from rfl]; simp
  unfold sh1
  rw [two_wrap h2, e1]
  by_cases hc : 2 ^ m.log2 ≤ 2 * y
  · have eq : 2 * y / 2 ^ m.log2 = 1 := by
      apply Nat.div_eq_of_lt_le
      · omega
      · rw [Nat.pow_succ] at hup; omega
    rw [eq, and_one (by unfold U; omega), show ((1 % 2 : Nat) : Int) = 1 from rfl, wrapU, show (-1 : Int) % 18446744073709551616 = ((18446744073709551615 : Nat) : Int) from rfl,
      and64 hm (by unfold U; omega), show m &&& 18446744073709551615 = m % 2 ^ 64 from Nat.and_two_pow_sub_one_eq_mod m 64, Nat.mod_eq_of_lt hm, xor64 h2 hm, hr hc]
  · have eq : 2 * y / 2 ^ m.log2 = 0 := Nat.div_eq_of_lt (by omega)
    rw [eq, and_one (by unfold U; omega), show ((0 % 2 : Nat) : Int) = 0 from rfl, wrapU, show (-0 : Int) % 18446744073709551616 = ((0 : Nat) : Int) from rfl,
      and64 hm (by unfold U; omega), Nat.and_zero, xor64 h2 (by unfold U; omega), Nat.xor_zero, Gf.rem_small (by omega)]
theorem shN_rem {m x : Nat} (hm : U m) (h0 : m ≠ 0) (hx : x < 2 ^ m.log2) (k : Nat) : shN (m : Int) (m.log2 : Int) k (x : Int) = (Gf.rem (x * 2 ^ k) m : Int) := by
  induction k with
  | zero => rw [Nat.pow_zero, Nat.mul_one, Gf.rem_small hx]; rfl
  | succ k ih =>
    show sh1 _ _ (shN _ _ k _) = _
    rw [ih, sh1_rem hm h0 (Gf.rem_lt _ h0), rem_two _ h0]
    congr 2
    rw [Nat.pow_succ]; ac_rfl
/-- bytes as a polynomial, the first the highest -/
def poly (l : List Nat) : Nat := l.foldl (fun a b => a * 256 ^^^ b) 0
theorem mul_xor256 (a b : Nat) (k : Nat) : (a ^^^ b) * 2 ^ k = a * 2 ^ k ^^^ b * 2 ^ k := by
  rw [← Nat.shiftLeft_eq, ← Nat.shiftLeft_eq, ← Nat.shiftLeft_eq, Nat.shiftLeft_xor_distrib]
theorem poly_acc (l : List Nat) : ∀ a, l.foldl (fun a b => a * 256 ^^^ b) a = a * 2 ^ (8 * l.length) ^^^ poly l := by
  induction l with
  | nil => intro a; show a = a * 2 ^ 0 ^^^ 0; rw [Nat.pow_zero, Nat.mul_one, Nat.xor_zero]
  | cons b l ih =>
    intro a
    show l.foldl _ (a * 256 ^^^ b) = a * 2 ^ (8 * (l.length + 1)) ^^^ l.foldl _ (0 * 256 ^^^ b)
    rw [ih, ih (0 * 256 ^^^ b), Nat.zero_mul, Nat.zero_xor, mul_xor256, Nat.xor_assoc]
    congr 1
    rw [show (256 : Nat) = 2 ^ 8 from rfl, Nat.mul_assoc, ← Nat.pow_add]; congr 2; omega
theorem poly_cons (b : Nat) (l : List Nat) : poly (b :: l) = b * 2 ^ (8 * l.length) ^^^ poly l := by
  show l.foldl _ (0 * 256 ^^^ b) = _
  rw [Nat.zero_mul, Nat.zero_xor, poly_acc]
theorem poly_snoc (l : List Nat) (b : Nat) : poly (l ++ [b]) = poly l * 256 ^^^ b := by
  unfold poly; rw [List.foldl_append]; rfl
theorem poly_zeros (n : Nat) (l : List Nat) : poly (List.replicate n 0 ++ l) = poly l := by
  induction n with
  | zero => rfl
  | succ n ih => rw [List.replicate_succ, List.cons_append, poly_cons, Nat.zero_mul, Nat.zero_xor, ih]
/-- the fingerprint of a window by m -/
def fp (m : Nat) (l : List Nat) : Nat := Gf.rem (poly l) m
theorem rem_pow (a k : Nat) {m : Nat} (h0 : m ≠ 0) : Gf.rem (Gf.rem a m * 2 ^ k) m = Gf.rem (a * 2 ^ k) m := by
  rw [← Gf.mul_pow, Gf.rem_mul_left _ _ h0, Gf.mul_pow]
/-- a byte more: the oldest goes -/
theorem fp_push {m : Nat} (h0 : m ≠ 0) (h9 : 9 ≤ m.log2) (o : Nat) (t : List Nat) (ht : t.length = 15) (b : Nat) (hb : b < 256) :
    Gf.rem ((fp m (o :: t) ^^^ Gf.rem (o * 2 ^ 120) m) * 2 ^ 8) m ^^^ b = fp m (t ++ [b]) := by
  have hbm : b < 2 ^ m.log2 := by
    have := Nat.pow_le_pow_right (n := 2) (by omega) h9
    have : (2 : Nat) ^ 9 = 512 := by decide
    omega
  have e : poly (o :: t) ^^^ o * 2 ^ 120 = poly t := by
    rw [poly_cons, ht]
    simp only [Nat.reduceMul]
    generalize o * 2 ^ 120 = z
    rw [Nat.xor_comm z, Gf.xor_xor_cancel]
  unfold fp
  rw [← Gf.rem_xor _ _ h0, rem_pow _ _ h0, e, poly_snoc, Gf.rem_xor _ _ h0, Gf.rem_small hbm, show (256 : Nat) = 2 ^ 8 from rfl]
end Go.Proofs.Ytkaabkoadoomjaa.Law
