/- Gf2Factors: a product of two polynomials of degree 1 or more is not irreducible. No condition: for all uint32. -/
import Derived.Test.YtgkkimonpfhbdaaAx7
import Derived.Test.YtgkkimonpfhbdaaBase
namespace Go.Proofs.Ytgkkimonpfhbdaa.Pure
open Go.RowKit Go.Proofs.Ytgkkimonpfhbdaa.A Go.Proofs.Ytgkkimonpfhbdaa.Law Go.Proofs.YtgkkimonpfhbdaaW.PrintWords Go.Proofs.YtgkkimonpfhbdaaW.PrintLast Go.Proofs.YtgkkimonpfhbdaaW.PrintMore

theorem of_wf32 {a : Int} (h : (Lit.int .u32 a).wf = true) : ∃ n : Nat, a = (n : Int) ∧ n < 4294967296 := by
  simp only [Lit.wf, IntKind.min, IntKind.max, IntKind.signed, IntKind.bits, Bool.and_eq_true] at h
  refine ⟨a.toNat, ?_, ?_⟩
  · simp at h; omega
  · simp at h; omega
theorem xor_mul_pow (x y i : Nat) : (x ^^^ y) * 2 ^ i = (x * 2 ^ i) ^^^ (y * 2 ^ i) := by
  rw [← Nat.shiftLeft_eq, ← Nat.shiftLeft_eq, ← Nat.shiftLeft_eq, Nat.shiftLeft_xor_distrib]
theorem and1_32 {x : Nat} (h : x < 4294967296) : Go.bits .and .u32 (x : Int) 1 = ((x % 2 : Nat) : Int) := by
  have := u32_and_nat x 1 h (by omega)
  rw [Nat.and_one_is_mod] at this; exact this
theorem ev_l {a b : Nat} (ha : a < 4294967296) (hb : b < 4294967296) (h2 : 2 ≤ a) (h3 : 2 ≤ b) (n : Nat) : ∀ (i p : Nat), i + n = 32 → U p →
    p ^^^ (Gf.mul a (b / 2 ^ i)) * 2 ^ i = Gf.mul a b → Ev (fun k => hypogeumlaw12_Gf2Factors.l0 k (a : Int) (b : Int) (p : Int) (i : Int)) true := by
  induction n with
  | zero =>
    intro i p hi hp e
    obtain rfl : i = 32 := by omega
    rw [Nat.div_eq_of_lt (by omega), Gf.mul_zero, Nat.zero_mul, Nat.xor_zero] at e
    have hirr : irr p = false := irr_false.mpr fun h => by
      rcases h.2 a b e with z | z <;> omega
    refine Ev.step (f := fun k => (gf2_Irreducible.f k (p : Int)).bind fun t252 => (if t252 = true then (some false) else ((hypogeumlaw12_awake.f k).bind fun t253 => (some t253)))) (fun k => by simp only [hypogeumlaw12_Gf2Factors.l0]; rw [if_neg (by omega)]) ?_
    refine Ev.bind (ev_irr hp) ?_
    rw [hirr]
    exact Ev.congr (fun k => by rw [if_neg (by decide)]) then_awake
  | succ n ih =>
    intro i p hi hp e
    have hshr : shr .u32 (b : Int) (i : Int) = ((b / 2 ^ i : Nat) : Int) := by
      unfold shr
      rw [show min (i : Int).toNat IntKind.u32.bits = i by show min i 32 = i; omega]
      simp
    have hbi : b / 2 ^ i < 4294967296 := Nat.lt_of_le_of_lt (Nat.div_le_self _ _) hb
    have hdd : b / 2 ^ i / 2 = b / 2 ^ (i + 1) := by rw [Nat.div_div_eq_div_mul, ← Nat.pow_succ]
    have e2 : (p ^^^ (if b / 2 ^ i % 2 = 1 then a * 2 ^ i else 0)) ^^^ (Gf.mul a (b / 2 ^ (i + 1))) * 2 ^ (i + 1) = Gf.mul a b := by
      rw [← e, Gf.mul_step a (b / 2 ^ i), hdd, xor_mul_pow, Nat.xor_assoc]
      congr 2
      · by_cases h : b / 2 ^ i % 2 = 1 <;> simp [h]
      · rw [Nat.pow_succ, Nat.mul_comm (2 ^ i) 2, ← Nat.mul_assoc, Nat.mul_comm _ 2]
    have hsa : U (a * 2 ^ i) := by
      have := Nat.mul_lt_mul_of_lt_of_le ha (Nat.pow_le_pow_right (n := 2) (by omega) (show i ≤ 31 by omega)) (Nat.two_pow_pos _)
      unfold U; omega
    by_cases h : b / 2 ^ i % 2 = 1
    · rw [if_pos h] at e2
      refine Ev.step (f := fun k => hypogeumlaw12_Gf2Factors.l0 k (a : Int) (b : Int) ((p ^^^ a * 2 ^ i : Nat) : Int) ((i + 1 : Nat) : Int)) (fun k => ?_) (ih (i + 1) _ (by omega) (u_xor hp hsa) e2)
      simp only [hypogeumlaw12_Gf2Factors.l0]
      rw [if_pos (by omega), if_pos (by omega), hshr, and1_32 hbi, h, if_pos (show ((1 : Nat) : Int) = 1 from rfl), wrapU, show (a : Int) % 18446744073709551616 = (a : Int) by omega,
        shl_u (by omega) hsa, xor64 hp hsa, wrap_succ (by omega) (by omega)]; rfl
    · rw [if_neg h, Nat.xor_zero] at e2
      refine Ev.step (f := fun k => hypogeumlaw12_Gf2Factors.l0 k (a : Int) (b : Int) (p : Int) ((i + 1 : Nat) : Int)) (fun k => ?_) (ih (i + 1) _ (by omega) hp e2)
      simp only [hypogeumlaw12_Gf2Factors.l0]
      rw [if_pos (by omega), if_pos (by omega), hshr, and1_32 hbi, if_neg (by omega), wrap_succ (by omega) (by omega)]; rfl
theorem Gf2Factors : hypogeumlaw12_Gf2Factors.Pure := by
  intro a b wa wb
  obtain ⟨a, rfl, ha⟩ := of_wf32 wa
  obtain ⟨b, rfl, hb⟩ := of_wf32 wb
  by_cases h2 : a < 2
  · exact Ev.rounds (Ev.step (fun k => by unfold hypogeumlaw12_Gf2Factors.f; rw [if_pos (by omega)]; rfl) then_awake)
  · by_cases h3 : b < 2
    · exact Ev.rounds (Ev.step (fun k => by unfold hypogeumlaw12_Gf2Factors.f; rw [if_neg (by omega), show decide ((b : Int) < 2) = true from decide_eq_true (by omega)]; rfl) then_awake)
    · refine Ev.rounds (Ev.step (f := fun k => hypogeumlaw12_Gf2Factors.l0 k (a : Int) (b : Int) 0 0) (fun k => by unfold hypogeumlaw12_Gf2Factors.f; rw [if_neg (by omega), show decide ((b : Int) < 2) = false from decide_eq_false (by omega)]; rfl) ?_)
      exact ev_l ha hb (by omega) (by omega) 32 0 0 (by omega) (by unfold U; omega) (by simp)
end Go.Proofs.Ytgkkimonpfhbdaa.Pure
