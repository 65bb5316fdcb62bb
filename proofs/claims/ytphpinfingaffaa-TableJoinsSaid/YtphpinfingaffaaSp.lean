/- The walks of span's small functions, at spans that are. -/
import Derived.Test.YtphpinfingaffaaFl
import Derived.Test.YtphpinfingaffaaSd
import Derived.WalkLawsBesides
namespace Go.Proofs.Ytphpinfingaffaa.Law
open Go.RowKit Go.Proofs.Ytphpinfingaffaa Go.Proofs.YtphpinfingaffaaW.PrintWords Go.Proofs.YtphpinfingaffaaW.PrintLast Go.Proofs.YtphpinfingaffaaW.PrintMore Go.Proofs.Ytphpinfingaffaa.D Go.Proofs.Ytphpinfingaffaa.Fl
set_option linter.unusedSimpArgs false
set_option linter.unusedVariables false
/-- a whole number as a float; a span as a complex number -/
abbrev F (n : Int) : Value := .float .f64 (floatOfInt .f64 n)
abbrev Cx (b n : Int) : Value := .complex .f64 (floatOfInt .f64 b) (floatOfInt .f64 n)
theorem o_ge {n m : Int} (h : m ≤ n) (k : 0 ≤ m) (h1 : n < 9007199254740992) : (FloatKind.f64.format.order (floatOfInt .f64 n) (floatOfInt .f64 m) == some .gt || FloatKind.f64.format.order (floatOfInt .f64 n) (floatOfInt .f64 m) == some .eq) = true := by
  rcases Int.lt_or_eq_of_le h with h' | rfl
  · rw [f_gt k h1 h']; rfl
  · rw [f_eq k h1]; rfl
theorem o_le {n m : Int} (h : n ≤ m) (k : 0 ≤ n) (h1 : m < 9007199254740992) : (FloatKind.f64.format.order (floatOfInt .f64 n) (floatOfInt .f64 m) == some .lt || FloatKind.f64.format.order (floatOfInt .f64 n) (floatOfInt .f64 m) == some .eq) = true := by
  rcases Int.lt_or_eq_of_le h with h' | rfl
  · rw [f_lt k h1 h']; rfl
  · rw [f_eq k h1]; rfl
theorem o_nle {n m : Int} (h : m < n) (k : 0 ≤ m) (h1 : n < 9007199254740992) : (FloatKind.f64.format.order (floatOfInt .f64 n) (floatOfInt .f64 m) == some .lt || FloatKind.f64.format.order (floatOfInt .f64 n) (floatOfInt .f64 m) == some .eq) = false := by
  rw [f_gt k h1 h]; rfl
theorem o_lt {n m : Int} (h : n < m) (k : 0 ≤ n) (h1 : m < 9007199254740992) : (FloatKind.f64.format.order (floatOfInt .f64 n) (floatOfInt .f64 m) == some .lt) = true := by
  rw [f_lt k h1 h]; rfl
theorem o_nlt {n m : Int} (h : m ≤ n) (k : 0 ≤ m) (h1 : n < 9007199254740992) : (FloatKind.f64.format.order (floatOfInt .f64 n) (floatOfInt .f64 m) == some .lt) = false := by
  rcases Int.lt_or_eq_of_le h with h' | rfl
  · rw [f_gt k h1 h']; rfl
  · rw [f_eq k h1]; rfl
theorem o_gt {n m : Int} (h : m < n) (k : 0 ≤ m) (h1 : n < 9007199254740992) : (FloatKind.f64.format.order (floatOfInt .f64 n) (floatOfInt .f64 m) == some .gt) = true := by
  rw [f_gt k h1 h]; rfl
theorem o_ngt {n m : Int} (h : n ≤ m) (k : 0 ≤ n) (h1 : m < 9007199254740992) : (FloatKind.f64.format.order (floatOfInt .f64 n) (floatOfInt .f64 m) == some .gt) = false := by
  rcases Int.lt_or_eq_of_le h with h' | rfl
  · rw [f_lt k h1 h']; rfl
  · rw [f_eq k h1]; rfl
theorem o_eq {n : Int} (k : 0 ≤ n) (h1 : n < 9007199254740992) : (FloatKind.f64.format.order (floatOfInt .f64 n) (floatOfInt .f64 n) == some .eq) = true := by
  rw [f_eq k h1]; rfl
theorem run_add {n m : Int} (h : 0 ≤ n) (k : 0 ≤ m) (h1 : n + m < 9007199254740992) (t : TypeId) (w : World) : (binOp .add t (F n) (F m)).run Try.prog w = .ok (F (n + m)) w := run_float_arith w .add t .f64 _ _ _ (f_add h k h1)
theorem run_sub {n m : Int} (h : 0 ≤ m) (k : m ≤ n) (h1 : n < 9007199254740992) (t : TypeId) (w : World) : (binOp .sub t (F n) (F m)).run Try.prog w = .ok (F (n - m)) w := run_float_arith w .sub t .f64 _ _ _ (f_sub h k h1)
theorem run_toInt {n : Int} (h : 0 ≤ n) (h1 : n < 9007199254740992) (w : World) : (convert 67 3 (F n)).run Try.prog w = .ok (.int .i64 n) w := run_convert_float_int w 67 3 .f64 .i64 _ n (by rw [Try.underlying67]; rfl) Try.underlying3 (f_int h h1)
set_option maxHeartbeats 4000000 in
set_option maxRecDepth 100000 in
theorem whole_calls {n : Int} (h0 : 0 ≤ n) (h1 : n ≤ 1099511627776) (w : World) : Calls Try.prog 39 #[F n] w fun e w' => e = .returned (.bool true) ∧ Below w.heap.size w w' := by
  have q1 := o_ge (n := n) (m := 0) h0 (by omega) (by omega)
  have q2 := o_le (n := n) (m := 1099511627776) h1 (by omega) (by omega)
  rw [f_zero] at q1
  rw [f_far] at q2
  have q3 := run_toInt h0 (by omega : n < 9007199254740992)
  have q4 := o_eq h0 (by omega : n < 9007199254740992)
  go_enter Try.func39, Try.ntmps39
  go_wp2_with (simp only [q3])
  go_ret
  exact ⟨rfl, Below.refl _ _⟩
/-- may a place be -/
abbrev In (n : Int) : Prop := 0 ≤ n ∧ n ≤ 1099511627776
set_option maxHeartbeats 4000000 in
set_option maxRecDepth 100000 in
theorem right_calls {b n : Int} (hb : In b) (hn : In n) (w : World) : Calls Try.prog 34 #[Cx b n] w fun e w' => e = .returned (.bool true) ∧ Below w.heap.size w w' := by
  have HB := Aside0.mk (Below.refl w.heap.size w)
  go_enter Try.func34, Try.ntmps34
  go_wp2_with (go_at_call 39; first | (with_reducible refine (whole_calls hb.1 hb.2 _).mono ?_; rintro e w1 ⟨rfl, h⟩; have nB_ := Aside0.mk (below_step HB.out h); clear HB h; have HB := nB_; clear nB_) | (with_reducible refine (whole_calls hn.1 hn.2 _).mono ?_; rintro e w2 ⟨rfl, h⟩; have nB_ := Aside0.mk (below_step HB.out h); clear HB h; have HB := nB_; clear nB_))
  go_ret
  exact ⟨rfl, HB.out⟩
set_option maxHeartbeats 4000000 in
set_option maxRecDepth 100000 in
theorem turned_calls {b n : Int} (hb : In b) (hn : In n) (w : World) : Calls Try.prog 35 #[Cx b n] w fun e w' => e = .returned (Cx b (b + n)) ∧ Below w.heap.size w w' := by
  have q := run_add hb.1 hn.1 (by omega) 
  go_enter Try.func35, Try.ntmps35
  go_wp2_with (simp only [q])
  go_ret
  exact ⟨rfl, Below.refl _ _⟩
set_option maxHeartbeats 4000000 in
set_option maxRecDepth 100000 in
theorem back_calls {b c : Int} (hb : 0 ≤ b) (hbc : b ≤ c) (hc : c < 9007199254740992) (w : World) : Calls Try.prog 40 #[Cx b c] w fun e w' => e = .returned (Cx b (c - b)) ∧ Below w.heap.size w w' := by
  have q := run_sub hb hbc hc
  go_enter Try.func40, Try.ntmps40
  go_wp2_with (simp only [q])
  go_ret
  exact ⟨rfl, Below.refl _ _⟩
theorem max_lt {p q : Nat} (h : FloatKind.f64.format.order p q = some .lt) (ts : Array TypeId) (t : TypeId) (w : World) : (Builtin.max_ ts t #[.float .f64 p, .float .f64 q]).run Try.prog w = .ok (.float .f64 q) w := by
  rw [max_two]; unfold Builtin.max2; simp only [h]; rfl
theorem max_gt {p q : Nat} (h : FloatKind.f64.format.order p q = some .gt) (ts : Array TypeId) (t : TypeId) (w : World) : (Builtin.max_ ts t #[.float .f64 p, .float .f64 q]).run Try.prog w = .ok (.float .f64 p) w := by
  rw [max_two]; unfold Builtin.max2; simp only [h]; rfl
theorem max_eq {p : Nat} (h : FloatKind.f64.format.order p p = some .eq) (ts : Array TypeId) (t : TypeId) (w : World) : (Builtin.max_ ts t #[.float .f64 p, .float .f64 p]).run Try.prog w = .ok (.float .f64 p) w := by
  rw [max_two]; unfold Builtin.max2; simp only [h, ite_self]; rfl
theorem min_lt {p q : Nat} (h : FloatKind.f64.format.order p q = some .lt) (ts : Array TypeId) (t : TypeId) (w : World) : (Builtin.min_ ts t #[.float .f64 p, .float .f64 q]).run Try.prog w = .ok (.float .f64 p) w := by
  rw [min_two]; unfold Builtin.min2; simp only [h]; rfl
theorem min_gt {p q : Nat} (h : FloatKind.f64.format.order p q = some .gt) (ts : Array TypeId) (t : TypeId) (w : World) : (Builtin.min_ ts t #[.float .f64 p, .float .f64 q]).run Try.prog w = .ok (.float .f64 q) w := by
  rw [min_two]; unfold Builtin.min2; simp only [h]; rfl
theorem min_eq {p : Nat} (h : FloatKind.f64.format.order p p = some .eq) (ts : Array TypeId) (t : TypeId) (w : World) : (Builtin.min_ ts t #[.float .f64 p, .float .f64 p]).run Try.prog w = .ok (.float .f64 p) w := by
  rw [min_two]; unfold Builtin.min2; simp only [h, ite_self]; rfl
theorem run_max {n m : Int} (h : 0 ≤ n) (k : 0 ≤ m) (h1 : n < 9007199254740992) (k1 : m < 9007199254740992) (ts : Array TypeId) (t : TypeId) (w : World) : (Builtin.max_ ts t #[F n, F m]).run Try.prog w = .ok (F (max n m)) w := by
  by_cases c : n < m
  · rw [show max n m = m by omega]
    exact max_lt (f_lt h k1 c) ts t w
  · by_cases c' : n = m
    · subst c'
      rw [show max n n = n by omega]
      exact max_eq (f_eq h h1) ts t w
    · rw [show max n m = n by omega]
      exact max_gt (f_gt k h1 (by omega)) ts t w
theorem run_min {n m : Int} (h : 0 ≤ n) (k : 0 ≤ m) (h1 : n < 9007199254740992) (k1 : m < 9007199254740992) (ts : Array TypeId) (t : TypeId) (w : World) : (Builtin.min_ ts t #[F n, F m]).run Try.prog w = .ok (F (min n m)) w := by
  by_cases c : n < m
  · rw [show min n m = n by omega]
    exact min_lt (f_lt h k1 c) ts t w
  · by_cases c' : n = m
    · subst c'
      rw [show min n n = n by omega]
      exact min_eq (f_eq h h1) ts t w
    · rw [show min n m = m by omega]
      exact min_gt (f_gt k h1 (by omega)) ts t w
/-- what two spans have in common -/
def meetP (b n c m : Int) : Option (Int × Int) := if min (b + n) (c + m) ≤ max b c then none else some (max b c, min (b + n) (c + m) - max b c)
set_option maxHeartbeats 4000000 in
set_option maxRecDepth 100000 in
theorem meet_no {b n c m : Int} (hb : In b) (hn : In n) (hc : In c) (hm : In m) (h : min (b + n) (c + m) ≤ max b c) (w : World) : Calls Try.prog 37 #[Cx b n, Cx c m] w fun e w' => e = .returned (.tuple #[.complex .f64 0 0, .bool false]) ∧ Below w.heap.size w w' := by
  have HB := Aside0.mk (Below.refl w.heap.size w)
  have m1 := run_max hb.1 hc.1 (by omega) (by omega)
  have m2 := run_min (n := b + n) (m := c + m) (by omega) (by omega) (by omega) (by omega)
  have o1 := o_le h (by omega) (by omega)
  go_enter Try.func37, Try.ntmps37
  go_wp2_with (first | simp only [m1, m2] | (go_at_call 34; first | (with_reducible refine (right_calls hb hn _).mono ?_; rintro e w1 ⟨rfl, h⟩; have nB_ := Aside0.mk (below_step HB.out h); clear HB h; have HB := nB_; clear nB_) | (with_reducible refine (right_calls hc hm _).mono ?_; rintro e w2 ⟨rfl, h⟩; have nB_ := Aside0.mk (below_step HB.out h); clear HB h; have HB := nB_; clear nB_)) | (go_at_call 35; first | (with_reducible refine (turned_calls hb hn _).mono ?_; rintro e w3 ⟨rfl, h⟩; have nB_ := Aside0.mk (below_step HB.out h); clear HB h; have HB := nB_; clear nB_) | (with_reducible refine (turned_calls hc hm _).mono ?_; rintro e w4 ⟨rfl, h⟩; have nB_ := Aside0.mk (below_step HB.out h); clear HB h; have HB := nB_; clear nB_)))
  go_ret2
  exact ⟨rfl, HB.out⟩
set_option maxHeartbeats 4000000 in
set_option maxRecDepth 100000 in
theorem meet_yes {b n c m : Int} (hb : In b) (hn : In n) (hc : In c) (hm : In m) (h : max b c < min (b + n) (c + m)) (w : World) : Calls Try.prog 37 #[Cx b n, Cx c m] w fun e w' => e = .returned (.tuple #[Cx (max b c) (min (b + n) (c + m) - max b c), .bool true]) ∧ Below w.heap.size w w' := by
  have HB := Aside0.mk (Below.refl w.heap.size w)
  have m1 := run_max hb.1 hc.1 (by omega) (by omega)
  have m2 := run_min (n := b + n) (m := c + m) (by omega) (by omega) (by omega) (by omega)
  have o1 := o_nle h (by omega) (by omega)
  go_enter Try.func37, Try.ntmps37
  go_wp2_with (first | simp only [m1, m2] | (go_at_call 34; first | (with_reducible refine (right_calls hb hn _).mono ?_; rintro e w1 ⟨rfl, h⟩; have nB_ := Aside0.mk (below_step HB.out h); clear HB h; have HB := nB_; clear nB_) | (with_reducible refine (right_calls hc hm _).mono ?_; rintro e w2 ⟨rfl, h⟩; have nB_ := Aside0.mk (below_step HB.out h); clear HB h; have HB := nB_; clear nB_)) | (go_at_call 35; first | (with_reducible refine (turned_calls hb hn _).mono ?_; rintro e w3 ⟨rfl, h⟩; have nB_ := Aside0.mk (below_step HB.out h); clear HB h; have HB := nB_; clear nB_) | (with_reducible refine (turned_calls hc hm _).mono ?_; rintro e w4 ⟨rfl, h⟩; have nB_ := Aside0.mk (below_step HB.out h); clear HB h; have HB := nB_; clear nB_)) | (go_at_call 40; with_reducible refine (back_calls (by omega) (by omega) (by omega) _).mono ?_; rintro e w5 ⟨rfl, h⟩; have nB_ := Aside0.mk (below_step HB.out h); clear HB h; have HB := nB_; clear nB_))
  go_ret2
  exact ⟨rfl, HB.out⟩
set_option maxHeartbeats 4000000 in
set_option maxRecDepth 100000 in
theorem parts_calls {b n : Int} (hb : In b) (hn : In n) (w : World) : Calls Try.prog 27 #[Cx b n] w fun e w' => e = .returned (.tuple #[.int .i64 b, .int .i64 n, .int .i64 0]) ∧ Below w.heap.size w w' := by
  have HB := Aside0.mk (Below.refl w.heap.size w)
  have q1 := run_toInt hb.1 (by omega : b < 9007199254740992)
  have q2 := run_toInt hn.1 (by omega : n < 9007199254740992)
  go_enter Try.func27, Try.ntmps27
  go_wp2_with (first | simp only [q1, q2] | (go_at_call 34; with_reducible refine (right_calls hb hn _).mono ?_; rintro e w1 ⟨rfl, h⟩; have nB_ := Aside0.mk (below_step HB.out h); clear HB h; have HB := nB_; clear nB_))
  go_ret3
  exact ⟨rfl, HB.out⟩
theorem in_yes {n : Int} (h : In n) (w : World) : Calls Try.prog 32 #[.int .i64 n] w fun e w' => e = .returned (.bool true) ∧ Below w.heap.size w w' := by
  refine (span_in.calls n true w (by unfold span_in.f; rw [if_pos h.1, decide_eq_true h.2])).mono ?_
  rintro e w' ⟨rfl, h⟩
  exact ⟨rfl, h.below⟩
theorem in_no {n : Int} (h : ¬ In n) (w : World) : Calls Try.prog 32 #[.int .i64 n] w fun e w' => e = .returned (.bool false) ∧ Below w.heap.size w w' := by
  refine (span_in.calls n false w ?_).mono ?_
  · unfold span_in.f
    split
    · rw [decide_eq_false (by omega)]
    · rfl
  · rintro e w' ⟨rfl, h⟩
    exact ⟨rfl, h.below⟩
set_option maxHeartbeats 4000000 in
set_option maxRecDepth 100000 in
theorem of_yes {b n : Int} (hb : In b) (hn : In n) (w : World) : Calls Try.prog 24 #[.int .i64 b, .int .i64 n] w fun e w' => e = .returned (.tuple #[Cx b n, .int .i64 0]) ∧ Below w.heap.size w w' := by
  have HB := Aside0.mk (Below.refl w.heap.size w)
  go_enter Try.func24, Try.ntmps24
  go_wp2_with (go_at_call 32; first | (with_reducible refine (in_yes hb _).mono ?_; rintro e w1 ⟨rfl, h⟩; have nB_ := Aside0.mk (below_step HB.out h); clear HB h; have HB := nB_; clear nB_) | (with_reducible refine (in_yes hn _).mono ?_; rintro e w2 ⟨rfl, h⟩; have nB_ := Aside0.mk (below_step HB.out h); clear HB h; have HB := nB_; clear nB_))
  go_ret2
  exact ⟨rfl, HB.out⟩
set_option maxHeartbeats 4000000 in
set_option maxRecDepth 100000 in
theorem of_no1 {b n : Int} (hb : ¬ In b) (w : World) : Calls Try.prog 24 #[.int .i64 b, .int .i64 n] w fun e w' => e = .returned (.tuple #[.complex .f64 0 0, .int .i64 6]) ∧ Below w.heap.size w w' := by
  have HB := Aside0.mk (Below.refl w.heap.size w)
  go_enter Try.func24, Try.ntmps24
  go_wp2_with (go_at_call 32; (with_reducible refine (in_no hb _).mono ?_; rintro e w1 ⟨rfl, h⟩; have nB_ := Aside0.mk (below_step HB.out h); clear HB h; have HB := nB_; clear nB_))
  go_ret2
  exact ⟨rfl, HB.out⟩
set_option maxHeartbeats 4000000 in
set_option maxRecDepth 100000 in
theorem of_no2 {b n : Int} (hb : In b) (hn : ¬ In n) (w : World) : Calls Try.prog 24 #[.int .i64 b, .int .i64 n] w fun e w' => e = .returned (.tuple #[.complex .f64 0 0, .int .i64 6]) ∧ Below w.heap.size w w' := by
  have HB := Aside0.mk (Below.refl w.heap.size w)
  go_enter Try.func24, Try.ntmps24
  go_wp2_with (go_at_call 32; first | (with_reducible refine (in_yes hb _).mono ?_; rintro e w1 ⟨rfl, h⟩; have nB_ := Aside0.mk (below_step HB.out h); clear HB h; have HB := nB_; clear nB_) | (with_reducible refine (in_no hn _).mono ?_; rintro e w2 ⟨rfl, h⟩; have nB_ := Aside0.mk (below_step HB.out h); clear HB h; have HB := nB_; clear nB_))
  go_ret2
  exact ⟨rfl, HB.out⟩
end Go.Proofs.Ytphpinfingaffaa.Law
