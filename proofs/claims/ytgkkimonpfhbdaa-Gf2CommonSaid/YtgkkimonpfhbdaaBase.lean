/- What the printed functions of package gf2 come to, in terms of polynomials as numbers. -/
import Derived.Test.YtgkkimonpfhbdaaAx2
import Derived.Test.YtgkkimonpfhbdaaGf
import Derived.Laws.BitsAllLaws
import Derived.Laws.Bits64
import Derived.Laws.Bits64b
namespace Go.Proofs.Ytgkkimonpfhbdaa.Law
open Go.RowKit Go.Proofs.Ytgkkimonpfhbdaa.A Go.Proofs.YtgkkimonpfhbdaaW.PrintWords Go.Proofs.YtgkkimonpfhbdaaW.PrintLast Go.Proofs.YtgkkimonpfhbdaaW.PrintMore
/-! ### what the functions of gf2 come to -/
def len (a : Nat) : Nat := if a = 0 then 0 else a.log2 + 1
theorem len_le {a k : Nat} : len a ≤ k ↔ a < 2 ^ k := by
  unfold len
  by_cases h : a = 0
  · subst h; simp [Nat.two_pow_pos]
  · rw [if_neg h, ← Nat.log2_lt h]; omega
theorem len_shift {a : Nat} (s : Nat) (h : 2 ^ s ≤ a) : len a = len (a / 2 ^ s) + s := by
  have hp := Nat.two_pow_pos s
  have ha : a ≠ 0 := by omega
  have hq : a / 2 ^ s ≠ 0 := by
    have := Nat.div_le_div_right (c := 2 ^ s) h
    rw [Nat.div_self hp] at this; omega
  unfold len
  rw [if_neg ha, if_neg hq]
  have hl : s ≤ a.log2 := by
    have := Nat.log2_lt ha (k := s); omega
  have : (a / 2 ^ s).log2 = a.log2 - s := by
    apply Gf.log2_eq
    · rw [Nat.le_div_iff_mul_le hp, ← Nat.pow_add, show a.log2 - s + s = a.log2 by omega]; exact Gf.log2_le ha
    · rw [Nat.div_lt_iff_lt_mul hp, ← Nat.pow_add, show a.log2 - s + 1 + s = a.log2 + 1 by omega]; exact Gf.lt_log2 a
  omega
theorem tab_ex : ∃ tab : ByteArray, (∀ k x0 x2, bits_Len64.j0 (k + 1) x0 x2 = (if x0 ≥ 65536 then (if (x0 / 65536) ≥ 256 then (if 0 ≤ (((x0 / 65536) / 256) % 256) then (if (((x0 / 65536) / 256) % 256) < 256 then (some (wrap64 ((wrap64 ((wrap64 (x2 + 16)) + 8)) + (wrap64 (bt tab (((x0 / 65536) / 256) % 256)))))) else (none)) else (none)) else (if 0 ≤ ((x0 / 65536) % 256) then (if ((x0 / 65536) % 256) < 256 then (some (wrap64 ((wrap64 (x2 + 16)) + (wrap64 (bt tab ((x0 / 65536) % 256)))))) else (none)) else (none))) else (if x0 ≥ 256 then (if 0 ≤ ((x0 / 256) % 256) then (if ((x0 / 256) % 256) < 256 then (some (wrap64 ((wrap64 (x2 + 8)) + (wrap64 (bt tab ((x0 / 256) % 256)))))) else (none)) else (none)) else (if 0 ≤ (x0 % 256) then (if (x0 % 256) < 256 then (some (wrap64 (x2 + (wrap64 (bt tab (x0 % 256)))))) else (none)) else (none)))))
    ∧ ∀ i : Fin 256, bt tab (i.1 : Int) = (len i.1 : Int) := ⟨_, fun _ _ _ => rfl, by decide +kernel⟩
theorem w64 {n : Int} (h0 : -9223372036854775808 ≤ n) (h1 : n ≤ 9223372036854775807) : wrap64 n = n := by unfold wrap64; omega
theorem len64_j (k : Nat) (x n : Nat) (hx : x < 4294967296) (hn : n ≤ 32) : bits_Len64.j0 (k + 1) (x : Int) (n : Int) = some ((n + len x : Nat) : Int) := by
  obtain ⟨tab, h, ht⟩ := tab_ex
  rw [h]
  have hb : ∀ i : Nat, i < 256 → len i ≤ 8 := fun i hi => len_le.mpr (by omega)
  by_cases c1 : (x : Int) ≥ 65536
  · rw [if_pos c1]
    by_cases c2 : ((x : Int) / 65536) ≥ 256
    · rw [if_pos c2]
      have e : ((x : Int) / 65536 / 256) % 256 = ((x / 16777216 : Nat) : Int) := by omega
      have hi : x / 16777216 < 256 := by omega
      rw [e, if_pos (by omega), if_pos (by omega), ht ⟨_, hi⟩]
      have hl : len x = len (x / 16777216) + 24 := len_shift (a := x) 24 (by omega)
      have h8 := hb _ hi
      simp (disch := omega) only [w64]
      congr 1
      omega
    · rw [if_neg c2]
      have e : ((x : Int) / 65536) % 256 = ((x / 65536 : Nat) : Int) := by omega
      have hi : x / 65536 < 256 := by omega
      rw [e, if_pos (by omega), if_pos (by omega), ht ⟨_, hi⟩]
      have hl : len x = len (x / 65536) + 16 := len_shift (a := x) 16 (by omega)
      have h8 := hb _ hi
      simp (disch := omega) only [w64]
      congr 1
      omega
  · rw [if_neg c1]
    by_cases c2 : (x : Int) ≥ 256
    · rw [if_pos c2]
      have e : ((x : Int) / 256) % 256 = ((x / 256 : Nat) : Int) := by omega
      have hi : x / 256 < 256 := by omega
      rw [e, if_pos (by omega), if_pos (by omega), ht ⟨_, hi⟩]
      have hl : len x = len (x / 256) + 8 := len_shift (a := x) 8 (by omega)
      have h8 := hb _ hi
      simp (disch := omega) only [w64]
      congr 1
      omega
    · rw [if_neg c2]
      have e : (x : Int) % 256 = (x : Int) := by omega
      have hi : x < 256 := by omega
      rw [e, if_pos (by omega), if_pos (by omega), ht ⟨_, hi⟩]
      have h8 := hb _ hi
      simp (disch := omega) only [w64]
      rfl
def U (a : Nat) : Prop := a < 18446744073709551616
theorem len_u {a : Nat} (h : U a) : len a ≤ 64 := len_le.mpr h
theorem len64 (k : Nat) (a : Nat) (h : U a) : bits_Len64.f (k + 1) (a : Int) = some (len a : Int) := by
  unfold bits_Len64.f
  unfold U at h
  by_cases c : (a : Int) ≥ 4294967296
  · rw [if_pos c]
    have e : (a : Int) / 4294967296 = ((a / 4294967296 : Nat) : Int) := by omega
    have := len64_j k (a / 4294967296) 32 (by omega) (by omega)
    rw [e]; rw [show ((32 : Nat) : Int) = 32 from rfl] at this; rw [this, len_shift (a := a) 32 (by omega), Nat.add_comm]
  · rw [if_neg c]
    have := len64_j k a 0 (by omega) (by omega)
    rw [show ((0 : Nat) : Int) = 0 from rfl] at this; rw [this, Nat.zero_add]
def deg (a : Nat) : Int := (len a : Int) - 1
theorem deg_ne {a : Nat} (h : a ≠ 0) : deg a = (a.log2 : Int) := by unfold deg len; rw [if_neg h]; omega
theorem deg_zero : deg 0 = -1 := rfl
theorem degree (k : Nat) (a : Nat) (h : U a) : gf2_Degree.f (k + 1) (a : Int) = some (deg a) := by
  unfold gf2_Degree.f
  rw [len64 k a h]
  have := len_u h
  simp only [Option.bind_some, deg]
  congr 1
  unfold wrap64; omega
theorem ev_degree {a : Nat} (h : U a) : Ev (fun k => gf2_Degree.f k (a : Int)) (deg a) := ⟨1, fun k hk => by obtain ⟨k, rfl⟩ : ∃ m, k = m + 1 := ⟨k - 1, by omega⟩; exact degree k a h⟩
theorem xor64 {a b : Nat} (ha : U a) (hb : U b) : Go.bits .xor .u64 (a : Int) (b : Int) = ((a ^^^ b : Nat) : Int) := bits_xor_u64_nat a b ha hb
theorem and64 {a b : Nat} (ha : U a) (hb : U b) : Go.bits .and .u64 (a : Int) (b : Int) = ((a &&& b : Nat) : Int) := bits_and_u64_nat a b ha hb
theorem or64 {a b : Nat} (ha : U a) (hb : U b) : Go.bits .or .u64 (a : Int) (b : Int) = ((a ||| b : Nat) : Int) := bits_or_u64_nat a b ha hb
theorem wrapU (n : Int) : IntKind.u64.wrap n = n % 18446744073709551616 := IntKind.wrap_u64 n
theorem u_xor {a b : Nat} (ha : U a) (hb : U b) : U (a ^^^ b) := Nat.xor_lt_two_pow (n := 64) ha hb
theorem u_le {a b : Nat} (ha : U a) (h : b ≤ a) : U b := Nat.lt_of_le_of_lt h ha
theorem log2_u {a : Nat} (h : U a) (h0 : a ≠ 0) : a.log2 ≤ 63 := by
  have := (Nat.log2_lt h0 (k := 64)).mpr h; omega
theorem shl_u {m n : Nat} (hn : n ≤ 64) (h : U (m * 2 ^ n)) : shl .u64 (m : Int) (n : Int) = ((m * 2 ^ n : Nat) : Int) := by
  unfold shl
  rw [show min (n : Int).toNat IntKind.u64.bits = n by show min n 64 = n; omega, wrapU]
  have : (m : Int) * 2 ^ n = ((m * 2 ^ n : Nat) : Int) := by simp
  rw [this]; unfold U at h; omega
/-- left: what is left -/
theorem ev_left_l {m : Nat} (hm : U m) (h0 : m ≠ 0) (a : Nat) : U a → Ev (fun k => gf2_left.l0 k (a : Int) (m : Int) (deg m)) (Gf.rem a m : Int) := by
  induction a using Nat.strongRecOn with
  | ind a ih =>
    intro ha
    have hlm := log2_u hm h0
    refine Ev.step (f := fun k => (gf2_Degree.f k (a : Int)).bind fun t => if wrap64 (t - deg m) < 0 then some (a : Int) else gf2_left.l0 k (Go.bits .xor .u64 (a : Int) (shl .u64 (m : Int) (wrap64 (t - deg m)))) (m : Int) (deg m)) (fun k => rfl) ?_
    refine Ev.bind (ev_degree ha) ?_
    by_cases hr : 2 ^ m.log2 ≤ a
    · have ha0 : a ≠ 0 := by have := Nat.two_pow_pos m.log2; omega
      have hla := log2_u ha ha0
      have hle : m.log2 ≤ a.log2 := by
        have := (Nat.log2_lt ha0 (k := m.log2)); omega
      have hw : wrap64 (deg a - deg m) = ((a.log2 - m.log2 : Nat) : Int) := by
        rw [deg_ne ha0, deg_ne h0]; unfold wrap64; omega
      rw [hw]
      have hlt := Gf.xor_shift_lt h0 hr
      have hs : U (m * 2 ^ (a.log2 - m.log2)) := by
        have := Nat.mul_lt_mul_of_pos_right (Gf.lt_log2 m) (Nat.two_pow_pos (a.log2 - m.log2))
        rw [← Nat.pow_add, show m.log2 + 1 + (a.log2 - m.log2) = a.log2 + 1 by omega] at this
        have h2 : 2 ^ (a.log2 + 1) ≤ 2 ^ 64 := Nat.pow_le_pow_right (by omega) (by omega)
        exact Nat.lt_of_lt_of_le this h2
      have hal := Gf.log2_le ha0
      refine Ev.congr (f := fun k => gf2_left.l0 k ((a ^^^ (m * 2 ^ (a.log2 - m.log2)) : Nat) : Int) (m : Int) (deg m)) (fun k => ?_) ?_
      · rw [if_neg (by omega), shl_u (by omega) hs, xor64 ha hs]
      · rw [Gf.rem_go h0 hr]
        exact ih _ (by omega) (u_xor ha hs)
    · rw [Gf.rem_small (by omega)]
      have hneg : wrap64 (deg a - deg m) < 0 := by
        rw [deg_ne h0]
        have : deg a < m.log2 := by
          by_cases ha0 : a = 0
          · subst ha0; rw [deg_zero]; omega
          · rw [deg_ne ha0]
            have := (Nat.log2_lt ha0 (k := m.log2)).mpr (by omega); omega
        have : -1 ≤ deg a := by unfold deg; omega
        unfold wrap64; omega
      refine Ev.congr (f := fun k => some (a : Int)) (fun k => by rw [if_pos hneg]) (Ev.now _)
theorem ev_left {a m : Nat} (ha : U a) (hm : U m) (h0 : m ≠ 0) : Ev (fun k => gf2_left.f k (a : Int) (m : Int)) (Gf.rem a m : Int) :=
  Ev.bind (f := fun k t => gf2_left.l0 k (a : Int) (m : Int) t) (ev_degree hm) (ev_left_l hm h0 a ha)
/-! times -/
theorem u_two {a m : Nat} (hm : U m) (h0 : m ≠ 0) (h : a < 2 ^ m.log2) : U (2 * a) := by
  have hl := log2_u hm h0
  have : 2 ^ (m.log2 + 1) ≤ 2 ^ 64 := Nat.pow_le_pow_right (by omega) (by omega)
  rw [Nat.pow_succ] at this
  unfold U; omega
theorem deg_two {a m : Nat} (h0 : m ≠ 0) (h : a < 2 ^ m.log2) : (deg (2 * a) = deg m ↔ 2 ^ m.log2 ≤ 2 * a) ∧ (2 ^ m.log2 ≤ 2 * a → Gf.rem (2 * a) m = (2 * a) ^^^ m) := by
  have hup : 2 * a < 2 ^ (m.log2 + 1) := by rw [Nat.pow_succ]; omega
  constructor
  · rw [deg_ne h0]
    by_cases ha : 2 * a = 0
    · rw [ha, deg_zero]; have := Nat.two_pow_pos m.log2; omega
    · rw [deg_ne ha]
      constructor
      · intro e
        have := Gf.log2_le ha
        rw [show (2 * a).log2 = m.log2 by omega] at this; exact this
      · intro e; rw [Gf.log2_eq e hup]
  · intro e
    have hl := Gf.log2_eq e hup
    rw [Gf.rem_go h0 e, hl, Nat.sub_self, Nat.pow_zero, Nat.mul_one]
    apply Gf.rem_small
    exact Gf.xor_tops e hup (Gf.log2_le h0) (Gf.lt_log2 m)
theorem two_wrap {a : Nat} (h : U (2 * a)) : IntKind.u64.wrap ((a : Int) * 2) = ((2 * a : Nat) : Int) := by
  rw [wrapU]; unfold U at h; omega
theorem and_one {b : Nat} (hb : U b) : Go.bits .and .u64 (b : Int) 1 = ((b % 2 : Nat) : Int) := by
  have := and64 (a := b) (b := 1) hb (by unfold U; omega)
  rw [Nat.and_one_is_mod] at this; exact this
theorem ev_times_l {m : Nat} (hm : U m) (h0 : m ≠ 0) (b : Nat) : ∀ a out : Nat, a < 2 ^ m.log2 → U b → U out →
    Ev (fun k => gf2_times.l0 k (a : Int) (b : Int) (m : Int) (deg m) (out : Int)) ((out ^^^ Gf.rem (Gf.mul a b) m : Nat) : Int) := by
  induction b using Nat.strongRecOn with
  | ind b ih =>
    intro a out ha hb ho
    by_cases hz : b = 0
    · subst hz
      refine Ev.step (f := fun k => some (out : Int)) (fun k => rfl) ?_
      rw [Gf.mul_zero, Gf.rem_small (Nat.two_pow_pos _), Nat.xor_zero]; exact Ev.now _
    · have h2 := u_two hm h0 ha
      obtain ⟨hd, hr⟩ := deg_two h0 ha
      have hbi : ((b : Nat) : Int) / 2 = ((b / 2 : Nat) : Int) := by omega
      have hua : U a := by
        have : a ≤ 2 * a := by omega
        exact u_le h2 this
      -- what the rest of the round does, whatever was put aside
      have rest : ∀ o : Nat, U o → Ev (fun k => (gf2_Degree.f k (IntKind.u64.wrap ((a : Int) * 2))).bind fun t104 => (if t104 = deg m then (gf2_times.l0 k (Go.bits .xor .u64 (IntKind.u64.wrap ((a : Int) * 2)) (m : Int)) ((b : Int) / 2) (m : Int) (deg m) (o : Int)) else (gf2_times.l0 k (IntKind.u64.wrap ((a : Int) * 2)) ((b : Int) / 2) (m : Int) (deg m) (o : Int)))) ((o ^^^ Gf.rem (Gf.mul (2 * a) (b / 2)) m : Nat) : Int) := by
        intro o ho
        rw [two_wrap h2, hbi]
        refine Ev.bind (f := fun k t104 => (if t104 = deg m then (gf2_times.l0 k (Go.bits .xor .u64 ((2 * a : Nat) : Int) (m : Int)) ((b / 2 : Nat) : Int) (m : Int) (deg m) (o : Int)) else (gf2_times.l0 k ((2 * a : Nat) : Int) ((b / 2 : Nat) : Int) (m : Int) (deg m) (o : Int)))) (ev_degree h2) ?_
        by_cases hc : 2 ^ m.log2 ≤ 2 * a
        · refine Ev.congr (f := fun k => gf2_times.l0 k (((2 * a) ^^^ m : Nat) : Int) ((b / 2 : Nat) : Int) (m : Int) (deg m) (o : Int)) (fun k => by rw [if_pos (hd.mpr hc), xor64 h2 hm]) ?_
          rw [← hr hc, ← Gf.rem_mul_left (2 * a) (b / 2) h0]
          exact ih (b / 2) (by omega) _ _ (Gf.rem_lt _ h0) (u_le hb (by omega)) ho
        · refine Ev.congr (f := fun k => gf2_times.l0 k ((2 * a : Nat) : Int) ((b / 2 : Nat) : Int) (m : Int) (deg m) (o : Int)) (fun k => by rw [if_neg (fun e => hc (hd.mp e))]) ?_
          exact ih (b / 2) (by omega) _ _ (by omega) (u_le hb (by omega)) ho
      have hm1 : Gf.mul a b = (if b % 2 = 1 then a else 0) ^^^ Gf.mul (2 * a) (b / 2) := by rw [Gf.mul_step, Gf.two_mul]
      have hzi : ¬ ((b : Nat) : Int) = 0 := by omega
      by_cases hodd : b % 2 = 1
      · refine Ev.step (f := fun k => (gf2_Degree.f k (IntKind.u64.wrap ((a : Int) * 2))).bind fun t104 => (if t104 = deg m then (gf2_times.l0 k (Go.bits .xor .u64 (IntKind.u64.wrap ((a : Int) * 2)) (m : Int)) ((b : Int) / 2) (m : Int) (deg m) ((out ^^^ a : Nat) : Int)) else (gf2_times.l0 k (IntKind.u64.wrap ((a : Int) * 2)) ((b : Int) / 2) (m : Int) (deg m) ((out ^^^ a : Nat) : Int)))) (fun k => ?_) ?_
        · simp only [gf2_times.l0]
          rw [if_neg hzi, and_one hb, hodd, if_pos (show ((1 : Nat) : Int) = 1 from rfl), xor64 ho hua]
        · rw [hm1, if_pos hodd, Gf.rem_xor _ _ h0, Gf.rem_small ha, ← Nat.xor_assoc]
          exact rest _ (u_xor ho hua)
      · refine Ev.step (f := fun k => (gf2_Degree.f k (IntKind.u64.wrap ((a : Int) * 2))).bind fun t104 => (if t104 = deg m then (gf2_times.l0 k (Go.bits .xor .u64 (IntKind.u64.wrap ((a : Int) * 2)) (m : Int)) ((b : Int) / 2) (m : Int) (deg m) (out : Int)) else (gf2_times.l0 k (IntKind.u64.wrap ((a : Int) * 2)) ((b : Int) / 2) (m : Int) (deg m) (out : Int)))) (fun k => ?_) ?_
        · simp only [gf2_times.l0]
          rw [if_neg hzi, and_one hb, if_neg (by omega)]
        · rw [hm1, if_neg hodd, Nat.zero_xor]
          exact rest _ ho
theorem u_rem (a : Nat) {m : Nat} (hm : U m) (h0 : m ≠ 0) : U (Gf.rem a m) := by
  have := Gf.rem_lt_self a h0
  exact u_le hm (by omega)
theorem ev_times {a b m : Nat} (hm : U m) (h0 : m ≠ 0) (ha : a < 2 ^ m.log2) (hb : U b) : Ev (fun k => gf2_times.f k (a : Int) (b : Int) (m : Int)) (Gf.rem (Gf.mul a b) m : Int) := by
  have := ev_times_l hm h0 b a 0 ha hb (by unfold U; omega)
  rw [Nat.zero_xor] at this
  exact Ev.bind (f := fun k t => gf2_times.l0 k (a : Int) (b : Int) (m : Int) t 0) (ev_degree hm) this
theorem nz {m : Nat} (h0 : m ≠ 0) : ¬ ((m : Nat) : Int) = 0 := by omega
/-! Mod, Mul -/
theorem ev_mod {a m : Nat} (ha : U a) (hm : U m) (h0 : m ≠ 0) : Ev (fun k => gf2_Mod.f k (a : Int) (m : Int)) ((Gf.rem a m : Int), (0 : Int)) := by
  refine Ev.congr (f := fun k => (gf2_left.f k (a : Int) (m : Int)).bind fun t => some (t, 0)) (fun k => by unfold gf2_Mod.f; rw [if_neg (nz h0)]) ?_
  exact Ev.bind (f := fun k t => some (t, (0 : Int))) (ev_left ha hm h0) (Ev.now _)
theorem ev_mod0 (a : Int) : Ev (fun k => gf2_Mod.f k a 0) ((0 : Int), (6 : Int)) := Ev.congr (f := fun _ => some (0, 6)) (fun k => by unfold gf2_Mod.f; rw [if_pos rfl]) (Ev.now _)
theorem ev_mul {a b m : Nat} (ha : U a) (hb : U b) (hm : U m) (h0 : m ≠ 0) : Ev (fun k => gf2_Mul.f k (a : Int) (b : Int) (m : Int)) ((Gf.rem (Gf.mul a b) m : Int), (0 : Int)) := by
  refine Ev.congr (f := fun k => (gf2_left.f k (a : Int) (m : Int)).bind fun t106 => ((gf2_left.f k (b : Int) (m : Int)).bind fun t107 => ((gf2_times.f k t106 t107 (m : Int)).bind fun t108 => (some (t108, 0))))) (fun k => by unfold gf2_Mul.f; rw [if_neg (nz h0)]) ?_
  refine Ev.bind (f := fun k t106 => (gf2_left.f k (b : Int) (m : Int)).bind fun t107 => ((gf2_times.f k t106 t107 (m : Int)).bind fun t108 => (some (t108, 0)))) (ev_left ha hm h0) ?_
  refine Ev.bind (f := fun k t107 => ((gf2_times.f k (Gf.rem a m : Int) t107 (m : Int)).bind fun t108 => (some (t108, 0)))) (ev_left hb hm h0) ?_
  have := ev_times hm h0 (Gf.rem_lt a h0) (u_rem b hm h0)
  rw [Gf.rem_mul a b h0] at this
  exact Ev.bind (f := fun k t => some (t, (0 : Int))) this (Ev.now _)
theorem ev_mul0 (a b : Int) : Ev (fun k => gf2_Mul.f k a b 0) ((0 : Int), (6 : Int)) := Ev.congr (f := fun _ => some (0, 6)) (fun k => by unfold gf2_Mul.f; rw [if_pos rfl]) (Ev.now _)
set_option maxRecDepth 100000 in
theorem awake_now : hypogeumlaw12_awake.f 30 = some true := by decide +kernel
theorem rem_frob (k : Nat) (a : Nat) {m : Nat} (h0 : m ≠ 0) : Gf.rem (Gf.frob k (Gf.rem a m)) m = Gf.rem (Gf.frob k a) m := by
  rw [Gf.rem_eq_iff h0]
  exact Gf.frob_dvd k (by rw [Nat.xor_comm]; exact Gf.rem_self_dvd a h0)
theorem wrap_succ {i : Int} (h0 : 0 ≤ i) (h1 : i < 1000000) : wrap64 (i + 1) = i + 1 := w64 (by omega) (by omega)
theorem ev_square_l {m : Nat} (hm : U m) (h0 : m ≠ 0) (n : Nat) (hn : n ≤ 64) (j : Nat) : ∀ (i x : Nat), i + j = n → x < 2 ^ m.log2 →
    Ev (fun k => gf2_Square.l0 k (x : Int) (m : Int) (n : Int) (i : Int)) ((Gf.rem (Gf.frob j x) m : Int), (0 : Int)) := by
  induction j with
  | zero =>
    intro i x hi hx
    refine Ev.step (f := fun k => some ((x : Int), (0 : Int))) (fun k => by simp only [gf2_Square.l0]; rw [if_neg (by omega)]) ?_
    rw [show Gf.frob 0 x = x from rfl, Gf.rem_small hx]; exact Ev.now _
  | succ j ih =>
    intro i x hi hx
    have hux : U x := by
      have := Gf.log2_le h0; unfold U at *; omega
    refine Ev.step (f := fun k => (gf2_times.f k (x : Int) (x : Int) (m : Int)).bind fun t => gf2_Square.l0 k t (m : Int) (n : Int) ((i + 1 : Nat) : Int)) (fun k => ?_) ?_
    · simp only [gf2_Square.l0]
      rw [if_pos (by omega), wrap_succ (by omega) (by omega)]; rfl
    · refine Ev.bind (f := fun k t => gf2_Square.l0 k t (m : Int) (n : Int) ((i + 1 : Nat) : Int)) (ev_times hm h0 hx hux) ?_
      rw [show Gf.frob (j + 1) x = Gf.frob j (Gf.mul x x) from rfl, ← rem_frob j (Gf.mul x x) h0]
      exact ih (i + 1) _ (by omega) (Gf.rem_lt _ h0)
theorem ev_square {a m n : Nat} (ha : U a) (hm : U m) (h0 : m ≠ 0) (hn : n ≤ 64) : Ev (fun k => gf2_Square.f k (a : Int) (m : Int) (n : Int)) ((Gf.rem (Gf.frob n a) m : Int), (0 : Int)) := by
  refine Ev.congr (f := fun k => gf2_Square.j0 k (a : Int) (m : Int) (n : Int) false) (fun k => ?_) ?_
  · unfold gf2_Square.f
    rw [if_neg (nz h0), if_neg (by omega), show decide ((n : Int) > 64) = false from decide_eq_false (by omega)]
  · refine Ev.step (f := fun k => (gf2_left.f k (a : Int) (m : Int)).bind fun t => gf2_Square.l0 k t (m : Int) (n : Int) 0) (fun k => rfl) ?_
    refine Ev.bind (f := fun k t => gf2_Square.l0 k t (m : Int) (n : Int) 0) (ev_left ha hm h0) ?_
    rw [← rem_frob n a h0]
    exact ev_square_l hm h0 n hn n 0 _ (by omega) (Gf.rem_lt _ h0)
theorem ev_square_bad {a m n : Int} (h : m = 0 ∨ n < 0 ∨ n > 64) : Ev (fun k => gf2_Square.f k a m n) ((0 : Int), (6 : Int)) := by
  refine Ev.congr (f := fun k => gf2_Square.j0 k a m n true) (fun k => ?_) (Ev.step (f := fun _ => some (0, 6)) (fun k => rfl) (Ev.now _))
  unfold gf2_Square.f
  by_cases h1 : m = 0
  · rw [if_pos h1]
  · rw [if_neg h1]
    by_cases h2 : n < 0
    · rw [if_pos h2]
    · rw [if_neg h2, show decide (n > 64) = true from decide_eq_true (by omega)]
theorem ev_gcd (b : Nat) : ∀ a : Nat, U a → U b → Ev (fun k => gf2_Gcd.f k (a : Int) (b : Int)) (Gf.gcd a b : Int) := by
  induction b using Nat.strongRecOn with
  | ind b ih =>
    intro a ha hb
    by_cases h0 : b = 0
    · subst h0
      rw [Gf.gcd_zero]
      exact Ev.step (f := fun _ => some (a : Int)) (fun k => rfl) (Ev.now _)
    · rw [Gf.gcd_step h0]
      refine Ev.step (f := fun k => (gf2_left.f k (a : Int) (b : Int)).bind fun t => gf2_Gcd.f k (b : Int) t) (fun k => ?_) ?_
      · show gf2_Gcd.l0 (k + 1) _ _ = _
        simp only [gf2_Gcd.l0]
        rw [if_neg (nz h0)]; rfl
      · exact Ev.bind (f := fun k t => gf2_Gcd.f k (b : Int) t) (ev_left ha hb h0) (ih _ (Gf.rem_lt_self a h0) b hb (u_rem a hb h0))
/-! whether a polynomial is irreducible -/
def Pr (p : Nat) : Prop := 2 ≤ p ∧ ∀ q, 2 ≤ q → q ∣ p → q = p
/-- what Rabin's test asks at p -/
def Okp (m p : Nat) : Prop := ∀ c, Gf.Dvd c m → Gf.Dvd c (Gf.frob (m.log2 / p) 2 ^^^ 2) → c = 1
theorem gcd_one_iff {m s : Nat} : Gf.gcd m s = 1 ↔ ∀ c, Gf.Dvd c m → Gf.Dvd c s → c = 1 := by
  constructor
  · intro h c h1 h2
    have := Gf.gcd_greatest h1 h2
    rw [h] at this; exact Gf.dvd_one this
  · intro h
    exact h _ (Gf.gcd_dvd s m).1 (Gf.gcd_dvd s m).2
theorem dvd_rem_iff {c m a : Nat} (h0 : m ≠ 0) (hc : Gf.Dvd c m) : Gf.Dvd c (Gf.rem a m) ↔ Gf.Dvd c a := by
  have h := hc.trans (Gf.rem_self_dvd a h0)
  constructor
  · intro h1; exact Gf.Dvd.of_xor h h1
  · intro h1; exact Gf.Dvd.of_xor (b := a) (by rw [Nat.xor_comm]; exact h) h1
theorem okp_iff {m p : Nat} (h0 : m ≠ 0) : Gf.gcd m (Gf.rem (Gf.frob (m.log2 / p) 2) m ^^^ Gf.rem 2 m) = 1 ↔ Okp m p := by
  rw [gcd_one_iff, ← Gf.rem_xor _ _ h0]
  unfold Okp
  constructor
  · intro h c h1 h2; exact h c h1 ((dvd_rem_iff h0 h1).mpr h2)
  · intro h c h1 h2; exact h c h1 ((dvd_rem_iff h0 h1).mp h2)
theorem tmod_nat (a b : Nat) : Int.tmod (a : Int) (b : Int) = ((a % b : Nat) : Int) := rfl
theorem tdiv_nat (a b : Nat) : Int.tdiv (a : Int) (b : Int) = ((a / b : Nat) : Int) := rfl
theorem pr_dvd_mul {q p r : Nat} (hq : Pr q) (hp : Pr p) (h : q ∣ p * r) : q = p ∨ q ∣ r := by
  by_cases e : q = p
  · exact .inl e
  · right
    refine Nat.Coprime.dvd_of_dvd_mul_left ?_ h
    have hg := Nat.gcd_dvd_left q p
    have hg2 := Nat.gcd_dvd_right q p
    have hpos : 0 < Nat.gcd q p := Nat.gcd_pos_of_pos_left _ (by have := hq.1; omega)
    refine Classical.byContradiction fun hn => ?_
    have h2 : 2 ≤ Nat.gcd q p := by
      have : Nat.gcd q p ≠ 1 := hn
      omega
    have e1 := hq.2 _ h2 hg
    have e2 := hp.2 _ h2 hg2
    exact e (e1.symm.trans e2)
/-- what the loop over the primes tells -/
def Tells (m : Nat) (g : Nat → Option Bool) : Prop :=
  ∃ res : Bool, Ev g res ∧ (res = true → ∀ q, Pr q → q ∣ m.log2 → Okp m q) ∧ (res = false → ∃ p, 2 ≤ p ∧ p ∣ m.log2 ∧ ¬ Okp m p)
theorem Tells.step {m : Nat} {g f : Nat → Option Bool} (h : ∀ k, g (k + 1) = f k) : Tells m f → Tells m g
  | ⟨res, a, b, c⟩ => ⟨res, Ev.step h a, b, c⟩
section
variable {m : Nat} (hm : U m) (h0 : m ≠ 0)
include hm h0
theorem tells_check (p rest : Nat) (hp : 2 ≤ p) (hp64 : p ≤ 64) (hpd : p ∣ m.log2)
    (next : Okp m p → Tells m fun k => gf2_Irreducible.l0 k (m : Int) (m.log2 : Int) (Gf.rem 2 m : Int) (rest : Int) ((p + 1 : Nat) : Int)) :
    Tells m fun k => (gf2_Square.f k 2 (m : Int) (wrap64 (Int.tdiv (m.log2 : Int) (p : Int)))).bind fun bt116 => ((gf2_Gcd.f k (m : Int) (Go.bits .xor .u64 bt116.1 (Gf.rem 2 m : Int))).bind fun t118 => (if t118 = 1 then (gf2_Irreducible.l0 k (m : Int) (m.log2 : Int) (Gf.rem 2 m : Int) (rest : Int) (wrap64 ((p : Int) + 1))) else (some false))) := by
  have hl := log2_u hm h0
  have hdp : m.log2 / p ≤ 64 := by have := Nat.div_le_self m.log2 p; omega
  have hwq : wrap64 ((m.log2 / p : Nat) : Int) = ((m.log2 / p : Nat) : Int) := by
    generalize m.log2 / p = q at hdp ⊢
    exact w64 (by omega) (by omega)
  have hg : ∀ (g : Nat → Option Bool) (res : Bool), Ev (fun k => if ((Gf.gcd m (Gf.rem (Gf.frob (m.log2 / p) 2) m ^^^ Gf.rem 2 m) : Nat) : Int) = 1 then g k else some false) res →
      Ev (fun k => (gf2_Square.f k 2 (m : Int) (wrap64 (Int.tdiv (m.log2 : Int) (p : Int)))).bind fun bt116 => ((gf2_Gcd.f k (m : Int) (Go.bits .xor .u64 bt116.1 (Gf.rem 2 m : Int))).bind fun t118 => (if t118 = 1 then g k else (some false)))) res := by
    intro g res hres
    refine Ev.congr (f := fun k => (gf2_Square.f k ((2 : Nat) : Int) (m : Int) ((m.log2 / p : Nat) : Int)).bind fun bt116 => ((gf2_Gcd.f k (m : Int) (Go.bits .xor .u64 bt116.1 (Gf.rem 2 m : Int))).bind fun t118 => (if t118 = 1 then g k else (some false)))) (fun k => ?_) ?_
    · rw [tdiv_nat, hwq]; rfl
    · refine Ev.bind (f := fun k (bt116 : Int × Int) => ((gf2_Gcd.f k (m : Int) (Go.bits .xor .u64 bt116.1 (Gf.rem 2 m : Int))).bind fun t118 => (if t118 = 1 then g k else (some false)))) (ev_square (by unfold U; omega) hm h0 hdp) ?_
      have hx := u_xor (u_rem (Gf.frob (m.log2 / p) 2) hm h0) (u_rem 2 hm h0)
      refine Ev.congr (f := fun k => (gf2_Gcd.f k (m : Int) ((Gf.rem (Gf.frob (m.log2 / p) 2) m ^^^ Gf.rem 2 m : Nat) : Int)).bind fun t118 => (if t118 = 1 then g k else (some false))) (fun k => ?_) ?_
      · rw [← xor64 (u_rem (Gf.frob (m.log2 / p) 2) hm h0) (u_rem 2 hm h0)]
      · exact Ev.bind (f := fun k t118 => (if t118 = 1 then g k else (some false))) (ev_gcd _ m hm hx) hres
  by_cases hok : Okp m p
  · obtain ⟨res, e1, e2, e3⟩ := next hok
    refine ⟨res, hg _ res (Ev.congr (fun k => ?_) e1), e2, e3⟩
    rw [(okp_iff h0).mpr hok]
    show (if ((1 : Nat) : Int) = 1 then _ else _) = _
    rw [if_pos (show ((1 : Nat) : Int) = 1 from rfl)]
    rw [wrap_succ (by omega) (by omega)]; rfl
  · refine ⟨false, hg _ false (Ev.congr (f := fun _ => some false) (fun k => ?_) (Ev.now _)), (fun h => by cases h), fun _ => ⟨p, hp, hpd, hok⟩⟩
    rw [if_neg]
    intro e
    exact hok ((okp_iff h0).mp (by omega))
theorem tells_strip (p : Nat) (hp : 2 ≤ p) (hp64 : p ≤ 64) (hpp : Pr p) (hpd : p ∣ m.log2) (rest : Nat) : 1 ≤ rest → rest ≤ 64 →
    (∀ r', r' ∣ rest → 1 ≤ r' → ¬ p ∣ r' → (∀ q, Pr q → q ∣ rest → q = p ∨ q ∣ r') → Okp m p → Tells m fun k => gf2_Irreducible.l0 k (m : Int) (m.log2 : Int) (Gf.rem 2 m : Int) (r' : Int) ((p + 1 : Nat) : Int)) →
    Tells m fun k => gf2_Irreducible.l1 k (m : Int) (m.log2 : Int) (Gf.rem 2 m : Int) (rest : Int) (p : Int) := by
  induction rest using Nat.strongRecOn with
  | ind rest ih =>
    intro h1 h64 next
    have hpz : ¬ ((p : Nat) : Int) = 0 := by omega
    by_cases hd : p ∣ rest
    · have hmod : rest % p = 0 := Nat.mod_eq_zero_of_dvd hd
      obtain ⟨r, hr⟩ := hd
      have hdiv : rest / p = r := by rw [hr]; exact Nat.mul_div_cancel_left _ (by omega)
      have hr1 : 1 ≤ r := by
        rcases Nat.eq_zero_or_pos r with z | z
        · rw [z, Nat.mul_zero] at hr; omega
        · exact z
      have hlt : r < rest := by
        have : 2 * r ≤ p * r := Nat.mul_le_mul_right r hp
        omega
      refine Tells.step (f := fun k => gf2_Irreducible.l1 k (m : Int) (m.log2 : Int) (Gf.rem 2 m : Int) (r : Int) (p : Int)) (fun k => ?_) ?_
      · simp only [gf2_Irreducible.l1]
        rw [if_neg hpz, tmod_nat, hmod, if_pos (show ((0 : Nat) : Int) = 0 from rfl), tdiv_nat, hdiv, w64 (by omega) (by omega)]
      · refine ih r hlt hr1 (by omega) (fun r' d1 d2 d3 d4 hok => next r' (Nat.dvd_trans d1 ⟨p, by rw [hr, Nat.mul_comm]⟩) d2 d3 (fun q hq hqd => ?_) hok)
        rw [hr] at hqd
        rcases pr_dvd_mul hq hpp hqd with e | e
        · exact .inl e
        · exact d4 q hq e
    · have hmod : rest % p ≠ 0 := fun z => hd (Nat.dvd_of_mod_eq_zero z)
      refine Tells.step (fun k => ?_) (tells_check hm h0 p rest hp hp64 hpd fun hok => next rest (Nat.dvd_refl _) h1 hd (fun q _ hq => .inr hq) hok)
      simp only [gf2_Irreducible.l1]
      rw [if_neg hpz, tmod_nat, if_neg (by omega)]
theorem tells_loop (hl1 : 1 ≤ m.log2) (n : Nat) : ∀ p rest : Nat, 2 ≤ p → p + n = m.log2 + 2 → 1 ≤ rest → rest ∣ m.log2 →
    (∀ q, Pr q → q ∣ m.log2 → q < p → Okp m q) → (∀ q, 2 ≤ q → q ∣ rest → p ≤ q) → (∀ q, Pr q → q ∣ m.log2 → p ≤ q → q ∣ rest) →
    Tells m fun k => gf2_Irreducible.l0 k (m : Int) (m.log2 : Int) (Gf.rem 2 m : Int) (rest : Int) (p : Int) := by
  have hl := log2_u hm h0
  induction n with
  | zero =>
    intro p rest hp hn hr hrd i1 i2 i3
    have := Nat.le_of_dvd (by omega) hrd
    refine ⟨true, Ev.step (f := fun _ => some true) (fun k => by simp only [gf2_Irreducible.l0]; rw [if_neg (by omega)]) (Ev.now _), fun _ q hq hqd => ?_, fun h => by cases h⟩
    exact i1 q hq hqd (by have := Nat.le_of_dvd (by omega) hqd; omega)
  | succ n ih =>
    intro p rest hp hn hr hrd i1 i2 i3
    have hrl := Nat.le_of_dvd (by omega) hrd
    by_cases hc : p ≤ rest
    · have hpz : ¬ ((p : Nat) : Int) = 0 := by omega
      by_cases hd : p ∣ rest
      · have hmod : rest % p = 0 := Nat.mod_eq_zero_of_dvd hd
        have hpp : Pr p := ⟨hp, fun q h1 h2 => by
          have h3 := i2 q h1 (Nat.dvd_trans h2 hd)
          have h4 := Nat.le_of_dvd (by omega) h2
          omega⟩
        refine Tells.step (f := fun k => gf2_Irreducible.l1 k (m : Int) (m.log2 : Int) (Gf.rem 2 m : Int) (rest : Int) (p : Int)) (fun k => ?_) ?_
        · simp only [gf2_Irreducible.l0]
          rw [if_pos (by omega), if_neg hpz, tmod_nat, hmod, if_pos (show ((0 : Nat) : Int) = 0 from rfl)]
        · refine tells_strip hm h0 p hp (by omega) hpp (Nat.dvd_trans hd hrd) rest hr (by omega) fun r' d1 d2 d3 d4 hok => ?_
          refine ih (p + 1) r' (by omega) (by omega) d2 (Nat.dvd_trans d1 hrd) (fun q hq hqd hlt => ?_) (fun q h1 h2 => ?_) (fun q hq hqd hle => ?_)
          · by_cases e : q = p
            · rw [e]; exact hok
            · exact i1 q hq hqd (by omega)
          · have h3 := i2 q h1 (Nat.dvd_trans h2 d1)
            have : q ≠ p := fun e => d3 (e ▸ h2)
            omega
          · rcases d4 q hq (i3 q hq hqd (by omega)) with e | e
            · omega
            · exact e
      · have hmod : rest % p ≠ 0 := fun z => hd (Nat.dvd_of_mod_eq_zero z)
        refine Tells.step (f := fun k => gf2_Irreducible.l0 k (m : Int) (m.log2 : Int) (Gf.rem 2 m : Int) (rest : Int) ((p + 1 : Nat) : Int)) (fun k => ?_) ?_
        · simp only [gf2_Irreducible.l0]
          rw [if_pos (by omega), if_neg hpz, tmod_nat, if_neg (by omega), wrap_succ (by omega) (by omega)]; rfl
        · refine ih (p + 1) rest (by omega) (by omega) hr hrd (fun q hq hqd hlt => ?_) (fun q h1 h2 => ?_) (fun q hq hqd hle => i3 q hq hqd (by omega))
          · by_cases e : q = p
            · exact absurd (i3 q hq hqd (by omega)) (e ▸ hd)
            · exact i1 q hq hqd (by omega)
          · have h3 := i2 q h1 h2
            have : q ≠ p := fun e => hd (e ▸ h2)
            omega
    · refine ⟨true, Ev.step (f := fun _ => some true) (fun k => by simp only [gf2_Irreducible.l0]; rw [if_neg (by omega)]) (Ev.now _), fun _ q hq hqd => ?_, fun h => by cases h⟩
      by_cases e : q < p
      · exact i1 q hq hqd e
      · have := Nat.le_of_dvd (by omega) (i3 q hq hqd (by omega))
        omega
end
open Classical in
/-- is m irreducible -/
noncomputable def irr (m : Nat) : Bool := decide (Gf.Irr m)
theorem irr_true {m : Nat} : irr m = true ↔ Gf.Irr m := by unfold irr; simp
theorem irr_false {m : Nat} : irr m = false ↔ ¬ Gf.Irr m := by unfold irr; simp
theorem small_not_irr {m : Nat} (h : m < 2) : irr m = false := irr_false.mpr fun h' => by have := h'.1; omega
theorem ev_irr {m : Nat} (hm : U m) : Ev (fun k => gf2_Irreducible.f k (m : Int)) (irr m) := by
  refine Ev.bind (f := fun k t112 => (if t112 < 1 then (some false) else ((gf2_left.f k 2 (m : Int)).bind fun t113 => ((gf2_Square.f k 2 (m : Int) t112).bind fun bt114 => (if bt114.1 = t113 then (gf2_Irreducible.l0 k (m : Int) t112 t113 t112 2) else (some false)))))) (ev_degree hm) ?_
  by_cases h2 : m < 2
  · rw [small_not_irr h2]
    refine Ev.congr (f := fun _ => some false) (fun k => ?_) (Ev.now _)
    have : m = 0 ∨ m = 1 := by omega
    rcases this with rfl | rfl <;> rfl
  · have h0 : m ≠ 0 := by omega
    have hl := log2_u hm h0
    have hl1 : 1 ≤ m.log2 := by
      refine Classical.byContradiction fun hn => ?_
      have := Gf.log2_zero_one h0 (by omega); omega
    rw [deg_ne h0]
    have hU2 : U 2 := by unfold U; omega
    refine Ev.congr (f := fun k => (gf2_left.f k ((2 : Nat) : Int) (m : Int)).bind fun t113 => ((gf2_Square.f k ((2 : Nat) : Int) (m : Int) (m.log2 : Int)).bind fun bt114 => (if bt114.1 = t113 then (gf2_Irreducible.l0 k (m : Int) (m.log2 : Int) t113 (m.log2 : Int) 2) else (some false)))) (fun k => by rw [if_neg (by omega)]; rfl) ?_
    refine Ev.bind (f := fun k t113 => ((gf2_Square.f k ((2 : Nat) : Int) (m : Int) (m.log2 : Int)).bind fun bt114 => (if bt114.1 = t113 then (gf2_Irreducible.l0 k (m : Int) (m.log2 : Int) t113 (m.log2 : Int) 2) else (some false)))) (ev_left hU2 hm h0) ?_
    refine Ev.bind (f := fun k (bt114 : Int × Int) => (if bt114.1 = (Gf.rem 2 m : Int) then (gf2_Irreducible.l0 k (m : Int) (m.log2 : Int) (Gf.rem 2 m : Int) (m.log2 : Int) 2) else (some false))) (ev_square (n := m.log2) hU2 hm h0 (by omega)) ?_
    show Ev (fun k => if ((Gf.rem (Gf.frob m.log2 2) m : Nat) : Int) = _ then _ else _) _
    by_cases hw : Gf.rem (Gf.frob m.log2 2) m = Gf.rem 2 m
    · have hfirst : Gf.Dvd m (Gf.frob m.log2 2 ^^^ 2) := (Gf.rem_eq_iff h0).mp hw
      obtain ⟨res, e1, e2, e3⟩ := tells_loop hm h0 hl1 m.log2 2 m.log2 (by omega) (by omega) hl1 (Nat.dvd_refl _) (fun q hq _ hlt => by have := hq.1; omega) (fun q h1 _ => h1) (fun q _ h1 _ => h1)
      refine Ev.congr (f := fun k => gf2_Irreducible.l0 k (m : Int) (m.log2 : Int) (Gf.rem 2 m : Int) (m.log2 : Int) ((2 : Nat) : Int)) (fun k => by rw [if_pos (by rw [hw])]; rfl) ?_
      have : irr m = res := by
        cases res with
        | true =>
          refine irr_true.mpr (Gf.Test.irr (by omega) ⟨hfirst, fun p p1 p2 p3 c c1 c2 => e2 rfl p ⟨p1, p3⟩ p2 c c1 c2⟩)
        | false =>
          obtain ⟨p, p1, p2, p3⟩ := e3 rfl
          exact irr_false.mpr fun hi => p3 fun c c1 c2 => (Gf.Irr.test hi).2 p p1 p2 c c1 c2
      rw [this]; exact e1
    · have : irr m = false := irr_false.mpr fun hi => hw ((Gf.rem_eq_iff h0).mpr (Gf.Irr.test hi).1)
      rw [this]
      exact Ev.congr (f := fun _ => some false) (fun k => by rw [if_neg (by omega)]) (Ev.now _)
/-! there is an irreducible one of each degree from 2 to 53 -/
def tm : Nat → Nat → Nat → Nat → Nat → Nat → Nat
  | 0, _, _, _, _, out => out
  | k + 1, a, b, m, top, out => tm k (if top ≤ 2 * a then (2 * a) ^^^ m else 2 * a) (b / 2) m top (if b % 2 = 1 then out ^^^ a else out)
theorem tm_dvd (m top k : Nat) : ∀ a b out, b < 2 ^ k → Gf.Dvd m (tm k a b m top out ^^^ (out ^^^ Gf.mul a b)) := by
  induction k with
  | zero =>
    intro a b out hb
    obtain rfl : b = 0 := by simpa using hb
    rw [Gf.mul_zero, Nat.xor_zero]
    show Gf.Dvd m (out ^^^ out)
    rw [Nat.xor_self]; exact Gf.Dvd.zero m
  | succ k ih =>
    intro a b out hb
    have h1 := ih (if top ≤ 2 * a then (2 * a) ^^^ m else 2 * a) (b / 2) (if b % 2 = 1 then out ^^^ a else out) (by rw [Nat.pow_succ] at hb; omega)
    refine Gf.Dvd.of_xor (b := _) ?_ h1
    show Gf.Dvd m ((tm k _ _ m top _ ^^^ _) ^^^ (tm k _ _ m top _ ^^^ _))
    rw [Gf.xor4, Nat.xor_self, Nat.zero_xor, Gf.mul_step a b, ← Gf.two_mul]
    have e : (out ^^^ ((if b % 2 = 1 then a else 0) ^^^ Gf.mul (2 * a) (b / 2))) = (if b % 2 = 1 then out ^^^ a else out) ^^^ Gf.mul (2 * a) (b / 2) := by
      by_cases h : b % 2 = 1 <;> simp [h, Nat.xor_assoc]
    rw [e, Gf.xor4, Nat.xor_self, Nat.zero_xor]
    by_cases h : top ≤ 2 * a
    · rw [if_pos h, ← Gf.mul_xor_left, ← Nat.xor_assoc, Nat.xor_self, Nat.zero_xor]; exact (Gf.Dvd.refl m).mul_right _
    · rw [if_neg h, Nat.xor_self]; exact Gf.Dvd.zero m
def fr : Nat → Nat → Nat → Nat → Nat
  | 0, x, _, _ => x
  | k + 1, x, m, top => fr k (tm (x.log2 + 1) x x m top 0) m top
theorem fr_dvd (m top k : Nat) : ∀ x, Gf.Dvd m (fr k x m top ^^^ Gf.frob k x) := by
  induction k with
  | zero => intro x; show Gf.Dvd m (x ^^^ x); rw [Nat.xor_self]; exact Gf.Dvd.zero m
  | succ k ih =>
    intro x
    have h1 := ih (tm (x.log2 + 1) x x m top 0)
    have h2 := tm_dvd m top (x.log2 + 1) x x 0 (Gf.lt_log2 x)
    rw [Nat.zero_xor] at h2
    have h3 := Gf.frob_dvd k h2
    have := h1.xor h3
    rwa [Nat.xor_assoc, ← Nat.xor_assoc (Gf.frob k (tm _ _ _ _ _ _)), Nat.xor_self, Nat.zero_xor] at this
def remF : Nat → Nat → Nat → Nat
  | 0, a, _ => a
  | k + 1, a, m => if 2 ^ m.log2 ≤ a then remF k (a ^^^ (m * 2 ^ (a.log2 - m.log2))) m else a
theorem remF_dvd {c : Nat} (k : Nat) : ∀ a m, Gf.Dvd c m → Gf.Dvd c a → Gf.Dvd c (remF k a m) := by
  induction k with
  | zero => intro a m _ h; exact h
  | succ k ih =>
    intro a m hm ha
    unfold remF
    by_cases h : 2 ^ m.log2 ≤ a
    · rw [if_pos h]
      refine ih _ m hm (ha.xor ?_)
      rw [← Gf.mul_pow]; exact hm.mul_right _
    · rw [if_neg h]; exact ha
def gcdF : Nat → Nat → Nat → Nat
  | 0, a, _ => a
  | k + 1, a, b => if b = 0 then a else gcdF k b (remF 64 a b)
theorem gcdF_dvd {c : Nat} (k : Nat) : ∀ a b, Gf.Dvd c a → Gf.Dvd c b → Gf.Dvd c (gcdF k a b) := by
  induction k with
  | zero => intro a b h _; exact h
  | succ k ih =>
    intro a b ha hb
    unfold gcdF
    by_cases h : b = 0
    · rw [if_pos h]; exact ha
    · rw [if_neg h]; exact ih _ _ hb (remF_dvd 64 a b hb ha)
def good (d m : Nat) : Bool := m.log2 == d && fr d 2 m (2 ^ d) == 2 && (List.range (d + 1)).all fun p => decide (p < 2) || d % p != 0 || gcdF 64 m (fr (d / p) 2 m (2 ^ d) ^^^ 2) == 1
theorem good_irr {d m : Nat} (hm : 2 ≤ m) (h : good d m = true) : Gf.Irr m := by
  unfold good at h
  simp only [Bool.and_eq_true, beq_iff_eq, List.all_eq_true, Bool.or_eq_true, decide_eq_true_eq, bne_iff_ne] at h
  obtain ⟨⟨h1, h2⟩, h3⟩ := h
  subst h1
  refine Gf.Test.irr hm ⟨?_, fun p p1 p2 _ c c1 c2 => ?_⟩
  · have := fr_dvd m (2 ^ m.log2) m.log2 2
    rw [h2, Nat.xor_comm] at this; exact this
  · by_cases hz : m.log2 = 0
    · have h1 := Gf.lt_log2 m
      rw [hz] at h1; omega
    · have hle := Nat.le_of_dvd (by omega) p2
      rcases h3 p (List.mem_range.mpr (by omega)) with (e | e) | e
      · omega
      · exact absurd (Nat.mod_eq_zero_of_dvd p2) e
      · have h5 := c1.trans (fr_dvd m (2 ^ m.log2) (m.log2 / p) 2)
        have h6 := h5.xor c2
        rw [Nat.xor_assoc, ← Nat.xor_assoc (Gf.frob (m.log2 / p) 2), Nat.xor_self, Nat.zero_xor] at h6
        have h7 := gcdF_dvd 64 m _ c1 h6
        rw [e] at h7; exact Gf.dvd_one h7
def first : List Nat := [1, 1, 1, 2, 1, 1, 13, 1, 4, 2, 4, 13, 16, 1, 21, 4, 4, 19, 4, 2, 1, 16, 13, 4, 13, 19, 1, 2, 1, 4, 70, 37, 13, 2, 26, 31, 49, 8, 28, 4, 19, 44, 16, 13, 1, 16, 22, 56, 14, 37, 4, 35]
set_option maxRecDepth 100000 in
theorem first_good : ∀ i : Fin 52, good (i.1 + 2) (2 ^ (i.1 + 2) + 2 * first.getD i.1 0 + 1) = true ∧ first.getD i.1 0 < 2 ^ (i.1 + 1) := by decide +kernel
/-- of each degree from 2 to 53 there is an odd irreducible one -/
theorem exists_odd {d : Nat} (h1 : 2 ≤ d) (h2 : d ≤ 53) : ∃ s, s < 2 ^ (d - 1) ∧ Gf.Irr (2 ^ d + 2 * s + 1) := by
  obtain ⟨a, b⟩ := first_good ⟨d - 2, by omega⟩
  simp only at a b
  rw [show d - 2 + 2 = d by omega] at a
  rw [show d - 2 + 1 = d - 1 by omega] at b
  refine ⟨_, b, good_irr ?_ a⟩
  have := Nat.pow_le_pow_right (n := 2) (by omega) h1
  omega
/-! Find -/
def cand (d s : Nat) : Nat := 2 ^ d + 2 * s + 1
theorem cand_u {d s : Nat} (h2 : d ≤ 53) (hs : s < 2 ^ (d - 1)) (h1 : 2 ≤ d) : U (cand d s) := by
  have e : 2 ^ d = 2 * 2 ^ (d - 1) := by rw [← Nat.pow_succ']; congr 1; omega
  have := Nat.pow_le_pow_right (n := 2) (by omega) (show d - 1 ≤ 52 by omega)
  unfold U cand
  have : (2 : Nat) ^ 52 = 4503599627370496 := by decide
  omega
theorem half_le {d : Nat} (h2 : d ≤ 53) : 2 ^ (d - 1) ≤ 4503599627370496 := by
  have := Nat.pow_le_pow_right (n := 2) (by omega) (show d - 1 ≤ 52 by omega)
  have : (2 : Nat) ^ 52 = 4503599627370496 := by decide
  omega
theorem pow_half {d : Nat} (h1 : 2 ≤ d) : 2 ^ d = 2 * 2 ^ (d - 1) := by rw [← Nat.pow_succ']; congr 1; omega
theorem or_one (a : Nat) : 2 * a ||| 1 = 2 * a + 1 := by
  have := Nat.two_pow_add_eq_or_of_lt (i := 1) (b := 1) (by omega) a
  rw [Nat.pow_one] at this; exact this.symm
theorem shl_one {d : Nat} (h : d ≤ 63) : shl .u64 1 (d : Int) = ((2 ^ d : Nat) : Int) := by
  have := shl_u (m := 1) (n := d) (by omega) (by
    rw [Nat.one_mul]; unfold U
    have := Nat.pow_le_pow_right (n := 2) (by omega) h
    have : (2 : Nat) ^ 63 = 9223372036854775808 := by decide
    omega)
  rw [Nat.one_mul] at this; exact this
theorem cand_bits {d s : Nat} (h1 : 2 ≤ d) (h2 : d ≤ 53) (hs : s < 2 ^ (d - 1)) :
    Go.bits .or .u64 (Go.bits .or .u64 (shl .u64 1 (d : Int)) (IntKind.u64.wrap ((s : Int) * 2))) 1 = (cand d s : Int) := by
  have hh := half_le h2
  have hp := pow_half h1
  rw [shl_one (by omega), wrapU, show ((s : Int) * 2) % 18446744073709551616 = ((2 * s : Nat) : Int) by omega,
    or64 (by unfold U; omega) (by unfold U; omega)]
  have e : 2 ^ d ||| 2 * s = 2 * (2 ^ (d - 1) + s) := by
    have := Nat.two_pow_add_eq_or_of_lt (i := d) (b := 2 * s) (by omega) 1
    rw [Nat.mul_one] at this
    omega
  rw [e, show (1 : Int) = ((1 : Nat) : Int) from rfl, or64 (by unfold U; omega) (by unfold U; omega), or_one]
  unfold cand; omega
theorem and_low {d x : Nat} (h2 : d ≤ 53) (hx : U x) : Go.bits .and .u64 (x : Int) ((2 ^ (d - 1) - 1 : Nat) : Int) = ((x % 2 ^ (d - 1) : Nat) : Int) := by
  have hh := half_le h2
  rw [and64 hx (by unfold U; omega), Nat.and_two_pow_sub_one_eq_mod]
theorem ev_find_l {d : Nat} (h1 : 2 ≤ d) (h2 : d ≤ 53) (j : Nat) : ∀ s, s < 2 ^ (d - 1) → (∀ i, i < j → irr (cand d ((s + i) % 2 ^ (d - 1))) = false) →
    irr (cand d ((s + j) % 2 ^ (d - 1))) = true →
    Ev (fun k => gf2_Find.l0 k (d : Int) ((2 ^ (d - 1) - 1 : Nat) : Int) (s : Int)) ((cand d ((s + j) % 2 ^ (d - 1)) : Int), (0 : Int)) := by
  induction j with
  | zero =>
    intro s hs _ hi
    rw [Nat.add_zero, Nat.mod_eq_of_lt hs] at hi ⊢
    refine Ev.step (f := fun k => (gf2_Irreducible.f k (cand d s : Int)).bind fun t119 => (if t119 = true then (some ((cand d s : Int), (0 : Int))) else (gf2_Find.l0 k (d : Int) ((2 ^ (d - 1) - 1 : Nat) : Int) (Go.bits .and .u64 (IntKind.u64.wrap ((s : Int) + 1)) ((2 ^ (d - 1) - 1 : Nat) : Int))))) (fun k => ?_) ?_
    · simp only [gf2_Find.l0]
      rw [if_pos (by omega), cand_bits h1 h2 hs]
    · refine Ev.bind (f := fun k t119 => (if t119 = true then (some ((cand d s : Int), (0 : Int))) else (gf2_Find.l0 k (d : Int) ((2 ^ (d - 1) - 1 : Nat) : Int) (Go.bits .and .u64 (IntKind.u64.wrap ((s : Int) + 1)) ((2 ^ (d - 1) - 1 : Nat) : Int))))) (ev_irr (cand_u h2 hs h1)) ?_
      rw [hi]; exact Ev.congr (f := fun _ => some ((cand d s : Int), (0 : Int))) (fun k => by rw [if_pos rfl]) (Ev.now _)
  | succ j ih =>
    intro s hs hall hi
    have hh := half_le h2
    have hpos := Nat.two_pow_pos (d - 1)
    have hf := hall 0 (by omega)
    rw [Nat.add_zero, Nat.mod_eq_of_lt hs] at hf
    refine Ev.step (f := fun k => (gf2_Irreducible.f k (cand d s : Int)).bind fun t119 => (if t119 = true then (some ((cand d s : Int), (0 : Int))) else (gf2_Find.l0 k (d : Int) ((2 ^ (d - 1) - 1 : Nat) : Int) (((s + 1) % 2 ^ (d - 1) : Nat) : Int)))) (fun k => ?_) ?_
    · simp only [gf2_Find.l0]
      rw [if_pos (by omega), cand_bits h1 h2 hs, wrapU, show ((s : Int) + 1) % 18446744073709551616 = ((s + 1 : Nat) : Int) by omega, and_low h2 (by unfold U; omega)]
    · refine Ev.bind (f := fun k t119 => (if t119 = true then (some ((cand d s : Int), (0 : Int))) else (gf2_Find.l0 k (d : Int) ((2 ^ (d - 1) - 1 : Nat) : Int) (((s + 1) % 2 ^ (d - 1) : Nat) : Int)))) (ev_irr (cand_u h2 hs h1)) ?_
      rw [hf]
      have hmod : ∀ i, ((s + 1) % 2 ^ (d - 1) + i) % 2 ^ (d - 1) = (s + (i + 1)) % 2 ^ (d - 1) := by
        intro i; rw [Nat.mod_add_mod]; congr 1; omega
      refine Ev.congr (f := fun k => gf2_Find.l0 k (d : Int) ((2 ^ (d - 1) - 1 : Nat) : Int) (((s + 1) % 2 ^ (d - 1) : Nat) : Int)) (fun k => by rw [if_neg (by decide)]) ?_
      have := ih ((s + 1) % 2 ^ (d - 1)) (Nat.mod_lt _ hpos) (fun i hi' => by rw [hmod]; exact hall (i + 1) (by omega)) (by rw [hmod]; exact hi)
      rw [hmod] at this; exact this
/-- the first irreducible one from s on: how far it lies -/
theorem exists_far {d : Nat} (h1 : 2 ≤ d) (h2 : d ≤ 53) (s : Nat) : ∃ j, irr (cand d ((s + j) % 2 ^ (d - 1))) = true ∧ ∀ i, i < j → irr (cand d ((s + i) % 2 ^ (d - 1))) = false := by
  obtain ⟨t, ht, hi⟩ := exists_odd h1 h2
  have hpos := Nat.two_pow_pos (d - 1)
  have h0 : ∃ j, irr (cand d ((s + j) % 2 ^ (d - 1))) = true := by
    refine ⟨(t + (2 ^ (d - 1) - s % 2 ^ (d - 1))), ?_⟩
    have hlt := Nat.mod_lt s hpos
    have : (s + (t + (2 ^ (d - 1) - s % 2 ^ (d - 1)))) % 2 ^ (d - 1) = t := by
      have hq := Nat.div_add_mod s (2 ^ (d - 1))
      have e : s + (t + (2 ^ (d - 1) - s % 2 ^ (d - 1))) = t + 2 ^ (d - 1) * (s / 2 ^ (d - 1) + 1) := by
        rw [Nat.mul_succ]; omega
      rw [e, Nat.add_mul_mod_self_left, Nat.mod_eq_of_lt ht]
    rw [this]; exact irr_true.mpr hi
  obtain ⟨j, hj⟩ := h0
  induction j using Nat.strongRecOn with
  | ind j ih =>
    by_cases h : ∃ i, i < j ∧ irr (cand d ((s + i) % 2 ^ (d - 1))) = true
    · obtain ⟨i, hi', hi2⟩ := h; exact ih i hi' hi2
    · exact ⟨j, hj, fun i hi' => by
        cases hb : irr (cand d ((s + i) % 2 ^ (d - 1))) with
        | false => rfl
        | true => exact absurd ⟨i, hi', hb⟩ h⟩
theorem ev_find {d seed j : Nat} (hs : U seed) (h1 : 2 ≤ d) (h2 : d ≤ 53) (hj : irr (cand d ((seed + j) % 2 ^ (d - 1))) = true) (hall : ∀ i, i < j → irr (cand d ((seed + i) % 2 ^ (d - 1))) = false) :
    Ev (fun k => gf2_Find.f k (seed : Int) (d : Int)) ((cand d ((seed + j) % 2 ^ (d - 1)) : Int), (0 : Int)) := by
  have hh := half_le h2
  have hpos := Nat.two_pow_pos (d - 1)
  refine Ev.congr (f := fun k => gf2_Find.j0 k (seed : Int) (d : Int) false) (fun k => ?_) ?_
  · unfold gf2_Find.f
    rw [if_neg (by omega), show decide ((d : Int) > 53) = false from decide_eq_false (by omega)]
  · have hw : wrap64 ((d : Int) - 1) = ((d - 1 : Nat) : Int) := by rw [w64 (by omega) (by omega)]; omega
    refine Ev.step (f := fun k => gf2_Find.l0 k (d : Int) ((2 ^ (d - 1) - 1 : Nat) : Int) ((seed % 2 ^ (d - 1) : Nat) : Int)) (fun k => ?_) ?_
    · simp only [gf2_Find.j0]
      rw [if_neg (by decide), hw, if_pos (by omega), shl_one (by omega), wrapU,
        show (((2 ^ (d - 1) : Nat) : Int) - 1) % 18446744073709551616 = ((2 ^ (d - 1) - 1 : Nat) : Int) by omega, and_low h2 hs]
    · have hmod : ∀ i, (seed % 2 ^ (d - 1) + i) % 2 ^ (d - 1) = (seed + i) % 2 ^ (d - 1) := fun i => by rw [Nat.mod_add_mod]
      have := ev_find_l h1 h2 j (seed % 2 ^ (d - 1)) (Nat.mod_lt _ hpos) (fun i hi => by rw [hmod]; exact hall i hi) (by rw [hmod]; exact hj)
      rw [hmod] at this; exact this
theorem ev_find_bad {a d : Int} (h : d < 2 ∨ d > 53) : Ev (fun k => gf2_Find.f k a d) ((0 : Int), (6 : Int)) := by
  refine Ev.congr (f := fun k => gf2_Find.j0 k a d true) (fun k => ?_) (Ev.step (f := fun _ => some (0, 6)) (fun k => rfl) (Ev.now _))
  unfold gf2_Find.f
  by_cases h1 : d < 2
  · rw [if_pos h1]
  · rw [if_neg h1, show decide (d > 53) = true from decide_eq_true (by omega)]
theorem ev_awake : Ev (fun k => hypogeumlaw12_awake.f k) true := Ev.of (fun k => hypogeumlaw12_awake.mono k) awake_now
theorem of_wf {a : Int} (h : (Lit.int .u64 a).wf = true) : ∃ n : Nat, a = (n : Int) ∧ U n := by
  simp only [Lit.wf, IntKind.min, IntKind.max, IntKind.signed, IntKind.bits, Bool.and_eq_true] at h
  refine ⟨a.toNat, ?_, ?_⟩
  · simp at h; omega
  · unfold U; simp at h; omega
theorem then_awake : Ev (fun k => (hypogeumlaw12_awake.f k).bind fun t => some t) true := Ev.bind (f := fun _ t => some t) ev_awake (Ev.now _)
end Go.Proofs.Ytgkkimonpfhbdaa.Law
