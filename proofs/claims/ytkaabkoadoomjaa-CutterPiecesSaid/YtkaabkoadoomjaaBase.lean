/- The degree of a polynomial as the printed bits.Len64 and gf2.Degree tell it; whole numbers of 64 bits. -/
import Derived.Test.YtkaabkoadoomjaaDx1
import Derived.Test.YtkaabkoadoomjaaGf
import Derived.Laws.BitsAllLaws
import Derived.Laws.Bits64
import Derived.Laws.Bits64b
namespace Go.Proofs.Ytkaabkoadoomjaa.Law
open Go.RowKit Go.Proofs.Ytkaabkoadoomjaa.D Go.Proofs.YtkaabkoadoomjaaW.PrintWords Go.Proofs.YtkaabkoadoomjaaW.PrintLast Go.Proofs.YtkaabkoadoomjaaW.PrintMore
/-! ### what the functions of gf2 come to -/
def len (a : Nat) : Nat := if a = 0 then 0 else a.log2 + 1
theorem len_le {a k : Nat} : len a ≤ k ↔ a < 2 ^ k := by
  unfold len
  by_cases h : a = 0
  · subst h; simp [Nat.two_pow_pos]
  · rw [if_neg h, ← Nat.log2_lt h]; omega
theorem len_shift {a : Nat} (s : Nat) (h : 2 ^ s ≤ a) : len a = len (a / 2 ^ s) + s := by
  have hp := Nat.two_pow_pos s
  have ha : a ≠ 0 := by omega
  have hq : a / 2 ^ s ≠ 0 := by
    have := Nat.div_le_div_right (c := 2 ^ s) h
    rw [Nat.div_self hp] at this; omega
  unfold len
  rw [if_neg ha, if_neg hq]
  have hl : s ≤ a.log2 := by
    have := Nat.log2_lt ha (k := s); omega
  have : (a / 2 ^ s).log2 = a.log2 - s := by
    apply Gf.log2_eq
    · rw [Nat.le_div_iff_mul_le hp, ← Nat.pow_add, show a.log2 - s + s = a.log2 by omega]; exact Gf.log2_le ha
    · rw [Nat.div_lt_iff_lt_mul hp, ← Nat.pow_add, show a.log2 - s + 1 + s = a.log2 + 1 by omega]; exact Gf.lt_log2 a
  omega
theorem tab_ex : ∃ tab : ByteArray, (∀ k x0 x2, bits_Len64.j0 (k + 1) x0 x2 = (if x0 ≥ 65536 then (if (x0 / 65536) ≥ 256 then (if 0 ≤ (((x0 / 65536) / 256) % 256) then (if (((x0 / 65536) / 256) % 256) < 256 then (some (wrap64 ((wrap64 ((wrap64 (x2 + 16)) + 8)) + (wrap64 (bt tab (((x0 / 65536) / 256) % 256)))))) else (none)) else (none)) else (if 0 ≤ ((x0 / 65536) % 256) then (if ((x0 / 65536) % 256) < 256 then (some (wrap64 ((wrap64 (x2 + 16)) + (wrap64 (bt tab ((x0 / 65536) % 256)))))) else (none)) else (none))) else (if x0 ≥ 256 then (if 0 ≤ ((x0 / 256) % 256) then (if ((x0 / 256) % 256) < 256 then (some (wrap64 ((wrap64 (x2 + 8)) + (wrap64 (bt tab ((x0 / 256) % 256)))))) else (none)) else (none)) else (if 0 ≤ (x0 % 256) then (if (x0 % 256) < 256 then (some (wrap64 (x2 + (wrap64 (bt tab (x0 % 256)))))) else (none)) else (none)))))
    ∧ ∀ i : Fin 256, bt tab (i.1 : Int) = (len i.1 : Int) := ⟨_, fun _ _ _ => rfl, by decide +kernel⟩
theorem w64 {n : Int} (h0 : -9223372036854775808 ≤ n) (h1 : n ≤ 9223372036854775807) : wrap64 n = n := by unfold wrap64; omega
theorem len64_j (k : Nat) (x n : Nat) (hx : x < 4294967296) (hn : n ≤ 32) : bits_Len64.j0 (k + 1) (x : Int) (n : Int) = some ((n + len x : Nat) : Int) := by
  obtain ⟨tab, h, ht⟩ := tab_ex
  rw [h]
  have hb : ∀ i : Nat, i < 256 → len i ≤ 8 := fun i hi => len_le.mpr (by omega)
  by_cases c1 : (x : Int) ≥ 65536
  · rw [if_pos c1]
    by_cases c2 : ((x : Int) / 65536) ≥ 256
    · rw [if_pos c2]
      have e : ((x : Int) / 65536 / 256) % 256 = ((x / 16777216 : Nat) : Int) := by omega
      have hi : x / 16777216 < 256 := by omega
      rw [e, if_pos (by omega), if_pos (by omega), ht ⟨_, hi⟩]
      have hl : len x = len (x / 16777216) + 24 := len_shift (a := x) 24 (by omega)
      have h8 := hb _ hi
      simp (disch := omega) only [w64]
      congr 1
      omega
    · rw [if_neg c2]
      have e : ((x : Int) / 65536) % 256 = ((x / 65536 : Nat) : Int) := by omega
      have hi : x / 65536 < 256 := by omega
      rw [e, if_pos (by omega), if_pos (by omega), ht ⟨_, hi⟩]
      have hl : len x = len (x / 65536) + 16 := len_shift (a := x) 16 (by omega)
      have h8 := hb _ hi
      simp (disch := omega) only [w64]
      congr 1
      omega
  · rw [if_neg c1]
    by_cases c2 : (x : Int) ≥ 256
    · rw [if_pos c2]
      have e : ((x : Int) / 256) % 256 = ((x / 256 : Nat) : Int) := by omega
      have hi : x / 256 < 256 := by omega
      rw [e, if_pos (by omega), if_pos (by omega), ht ⟨_, hi⟩]
      have hl : len x = len (x / 256) + 8 := len_shift (a := x) 8 (by omega)
      have h8 := hb _ hi
      simp (disch := omega) only [w64]
      congr 1
      omega
    · rw [if_neg c2]
      have e : (x : Int) % 256 = (x : Int) := by omega
      have hi : x < 256 := by omega
      rw [e, if_pos (by omega), if_pos (by omega), ht ⟨_, hi⟩]
      have h8 := hb _ hi
      simp (disch := omega) only [w64]
      rfl
def U (a : Nat) : Prop := a < 18446744073709551616
theorem len_u {a : Nat} (h : U a) : len a ≤ 64 := len_le.mpr h
theorem len64 (k : Nat) (a : Nat) (h : U a) : bits_Len64.f (k + 1) (a : Int) = some (len a : Int) := by
  unfold bits_Len64.f
  unfold U at h
  by_cases c : (a : Int) ≥ 4294967296
  · rw [if_pos c]
    have e : (a : Int) / 4294967296 = ((a / 4294967296 : Nat) : Int) := by omega
    have := len64_j k (a / 4294967296) 32 (by omega) (by omega)
    rw [e]; rw [show ((32 : Nat) : Int) = 32 from rfl] at this; rw [this, len_shift (a := a) 32 (by omega), Nat.add_comm]
  · rw [if_neg c]
    have := len64_j k a 0 (by omega) (by omega)
    rw [show ((0 : Nat) : Int) = 0 from rfl] at this; rw [this, Nat.zero_add]
def deg (a : Nat) : Int := (len a : Int) - 1
theorem deg_ne {a : Nat} (h : a ≠ 0) : deg a = (a.log2 : Int) := by unfold deg len; rw [if_neg h]; omega
theorem deg_zero : deg 0 = -1 := rfl
theorem degree (k : Nat) (a : Nat) (h : U a) : gf2_Degree.f (k + 1) (a : Int) = some (deg a) := by
  unfold gf2_Degree.f
  rw [len64 k a h]
  have := len_u h
  simp only [Option.bind_some, deg]
  congr 1
  unfold wrap64; omega
theorem ev_degree {a : Nat} (h : U a) : Ev (fun k => gf2_Degree.f k (a : Int)) (deg a) := ⟨1, fun k hk => by obtain ⟨k, rfl⟩ : ∃ m, k = m + 1 := ⟨k - 1, by omega⟩; exact degree k a h⟩
theorem xor64 {a b : Nat} (ha : U a) (hb : U b) : Go.bits .xor .u64 (a : Int) (b : Int) = ((a ^^^ b : Nat) : Int) := bits_xor_u64_nat a b ha hb
theorem and64 {a b : Nat} (ha : U a) (hb : U b) : Go.bits .and .u64 (a : Int) (b : Int) = ((a &&& b : Nat) : Int) := bits_and_u64_nat a b ha hb
theorem or64 {a b : Nat} (ha : U a) (hb : U b) : Go.bits .or .u64 (a : Int) (b : Int) = ((a ||| b : Nat) : Int) := bits_or_u64_nat a b ha hb
theorem wrapU (n : Int) : IntKind.u64.wrap n = n % 18446744073709551616 := IntKind.wrap_u64 n
theorem u_xor {a b : Nat} (ha : U a) (hb : U b) : U (a ^^^ b) := Nat.xor_lt_two_pow (n := 64) ha hb
theorem u_le {a b : Nat} (ha : U a) (h : b ≤ a) : U b := Nat.lt_of_le_of_lt h ha
theorem log2_u {a : Nat} (h : U a) (h0 : a ≠ 0) : a.log2 ≤ 63 := by
  have := (Nat.log2_lt h0 (k := 64)).mpr h; omega
theorem shl_u {m n : Nat} (hn : n ≤ 64) (h : U (m * 2 ^ n)) : shl .u64 (m : Int) (n : Int) = ((m * 2 ^ n : Nat) : Int) := by
  unfold shl
  rw [show min (n : Int).toNat IntKind.u64.bits = n by show min n 64 = n; omega, wrapU]
  have : (m : Int) * 2 ^ n = ((m * 2 ^ n : Nat) : Int) := by simp
  rw [this]; unfold U at h; omega
theorem u_two {a m : Nat} (hm : U m) (h0 : m ≠ 0) (h : a < 2 ^ m.log2) : U (2 * a) := by
  have hl := log2_u hm h0
  have : 2 ^ (m.log2 + 1) ≤ 2 ^ 64 := Nat.pow_le_pow_right (by omega) (by omega)
  rw [Nat.pow_succ] at this
  unfold U; omega
theorem deg_two {a m : Nat} (h0 : m ≠ 0) (h : a < 2 ^ m.log2) : (deg (2 * a) = deg m ↔ 2 ^ m.log2 ≤ 2 * a) ∧ (2 ^ m.log2 ≤ 2 * a → Gf.rem (2 * a) m = (2 * a) ^^^ m) := by
  have hup : 2 * a < 2 ^ (m.log2 + 1) := by rw [Nat.pow_succ]; omega
  constructor
  · rw [deg_ne h0]
    by_cases ha : 2 * a = 0
    · rw [ha, deg_zero]; have := Nat.two_pow_pos m.log2; omega
    · rw [deg_ne ha]
      constructor
      · intro e
        have := Gf.log2_le ha
        rw [show (2 * a).log2 = m.log2 by omega] at this; exact this
      · intro e; rw [Gf.log2_eq e hup]
  · intro e
    have hl := Gf.log2_eq e hup
    rw [Gf.rem_go h0 e, hl, Nat.sub_self, Nat.pow_zero, Nat.mul_one]
    apply Gf.rem_small
    exact Gf.xor_tops e hup (Gf.log2_le h0) (Gf.lt_log2 m)
theorem two_wrap {a : Nat} (h : U (2 * a)) : IntKind.u64.wrap ((a : Int) * 2) = ((2 * a : Nat) : Int) := by
  rw [wrapU]; unfold U at h; omega
theorem and_one {b : Nat} (hb : U b) : Go.bits .and .u64 (b : Int) 1 = ((b % 2 : Nat) : Int) := by
  have := and64 (a := b) (b := 1) hb (by unfold U; omega)
  rw [Nat.and_one_is_mod] at this; exact this
theorem u_rem (a : Nat) {m : Nat} (hm : U m) (h0 : m ≠ 0) : U (Gf.rem a m) := by
  have := Gf.rem_lt_self a h0
  exact u_le hm (by omega)
theorem nz {m : Nat} (h0 : m ≠ 0) : ¬ ((m : Nat) : Int) = 0 := by omega
theorem wrap_succ {i : Int} (h0 : 0 ≤ i) (h1 : i < 1000000) : wrap64 (i + 1) = i + 1 := w64 (by omega) (by omega)
theorem tmod_nat (a b : Nat) : Int.tmod (a : Int) (b : Int) = ((a % b : Nat) : Int) := rfl
theorem tdiv_nat (a b : Nat) : Int.tdiv (a : Int) (b : Int) = ((a / b : Nat) : Int) := rfl
theorem of_wf {a : Int} (h : (Lit.int .u64 a).wf = true) : ∃ n : Nat, a = (n : Int) ∧ U n := by
  simp only [Lit.wf, IntKind.min, IntKind.max, IntKind.signed, IntKind.bits, Bool.and_eq_true] at h
  refine ⟨a.toNat, ?_, ?_⟩
  · simp at h; omega
  · unfold U; simp at h; omega
end Go.Proofs.Ytkaabkoadoomjaa.Law
