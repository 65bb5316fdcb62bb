-- Written by this session's own program (wip/tools/printx.py, over the kit's printer), with texts by hand laid in.
import Derived.Test.YtgkkimonpfhbdaaAx0
import Derived.Test.YtgkkimonpfhbdaaAx1
import Derived.Test.YtgkkimonpfhbdaaAx2
import Derived.Test.YtgkkimonpfhbdaaAx3
import Derived.Test.YtgkkimonpfhbdaaAx4
namespace Go.Proofs.Ytgkkimonpfhbdaa.A
open Go.RowKit Go.Proofs.YtgkkimonpfhbdaaW.PrintWords Go.Proofs.YtgkkimonpfhbdaaW.PrintLast Go.Proofs.YtgkkimonpfhbdaaW.PrintMore
attribute [local go_sem] max2_int min2_int max_two min_two max_three min_three max_four min_four   -- for this text's walks alone
set_option linter.unusedVariables false
set_option linter.unusedSimpArgs false

/-! ### hypogeumlaw12_Gf2Squares: function 5 -/
def hypogeumlaw12_Gf2Squares.j0 : Nat → Int → Int → Int → Int → Int → Bool → Option (Bool)
  | 0, _, _, _, _, _, _ => none
  | k + 1, x0, x1, x2, x7, x8, x25 => if x25 = true then (if x7 = 0 then (if x8 = 6 then ((hypogeumlaw12_awake.f k).bind fun t193 => (some t193)) else (some false)) else (some false)) else ((hypogeumref12_Square.f k x0 x1 x2).bind fun t194 => (if x7 = t194 then (if x8 = 0 then ((hypogeumlaw12_awake.f k).bind fun t195 => (some t195)) else (some false)) else (some false)))
def hypogeumlaw12_Gf2Squares.f (k : Nat) (a0 : Int) (a1 : Int) (a2 : Int) : Option (Bool) := (gf2_Square.f k a0 a1 a2).bind fun bt191 => (if a1 = 0 then (hypogeumlaw12_Gf2Squares.j0 k a0 a1 a2 bt191.1 bt191.2 true) else (if a2 < 0 then (hypogeumlaw12_Gf2Squares.j0 k a0 a1 a2 bt191.1 bt191.2 true) else (hypogeumlaw12_Gf2Squares.j0 k a0 a1 a2 bt191.1 bt191.2 (decide (a2 > 64)))))
theorem hypogeumlaw12_Gf2Squares.mono_l : ∀ k, (∀ y0 y1 y2 y3 y4 y5, LeO (hypogeumlaw12_Gf2Squares.j0 k y0 y1 y2 y3 y4 y5) (hypogeumlaw12_Gf2Squares.j0 (k + 1) y0 y1 y2 y3 y4 y5))
  | 0 => fun _ _ _ _ _ _ r h => by simp [hypogeumlaw12_Gf2Squares.j0] at h
  | k + 1 => by
    have ih0 := hypogeumlaw12_Gf2Squares.mono_l k
    · intro y0 y1 y2 y3 y4 y5
      unfold hypogeumlaw12_Gf2Squares.j0
      repeat' first
      | (with_reducible exact ih0 _ _ _ _ _ _)
      | (with_reducible exact gf2_Square.mono _ _ _ _)
      | (with_reducible exact hypogeumlaw12_awake.mono _)
      | (with_reducible exact hypogeumref12_Square.mono _ _ _ _)
      | (with_reducible exact LeO.refl _)
      | (with_reducible exact LeO.none _)
      | (with_reducible refine LeO.ite ?_ ?_)
      | (with_reducible refine LeO.bind ?_ (fun _ => ?_))
      | exact ih0 _ _ _ _ _ _
      | exact gf2_Square.mono _ _ _ _
      | exact hypogeumlaw12_awake.mono _
      | exact hypogeumref12_Square.mono _ _ _ _
      | exact LeO.none _
      | refine LeO.ite ?_ ?_
      | refine LeO.bind ?_ (fun _ => ?_)
theorem hypogeumlaw12_Gf2Squares.mono : ∀ a0 a1 a2 k, LeO (hypogeumlaw12_Gf2Squares.f k a0 a1 a2) (hypogeumlaw12_Gf2Squares.f (k + 1) a0 a1 a2) := by
  intro a0 a1 a2 k
  have ih0 := hypogeumlaw12_Gf2Squares.mono_l k
  unfold hypogeumlaw12_Gf2Squares.f
  repeat' first
      | (with_reducible exact ih0 _ _ _ _ _ _)
      | (with_reducible exact gf2_Square.mono _ _ _ _)
      | (with_reducible exact hypogeumlaw12_awake.mono _)
      | (with_reducible exact hypogeumref12_Square.mono _ _ _ _)
      | (with_reducible exact LeO.refl _)
      | (with_reducible exact LeO.none _)
      | (with_reducible refine LeO.ite ?_ ?_)
      | (with_reducible refine LeO.bind ?_ (fun _ => ?_))
      | exact ih0 _ _ _ _ _ _
      | exact gf2_Square.mono _ _ _ _
      | exact hypogeumlaw12_awake.mono _
      | exact hypogeumref12_Square.mono _ _ _ _
      | exact LeO.none _
      | refine LeO.ite ?_ ?_
      | refine LeO.bind ?_ (fun _ => ?_)
set_option maxHeartbeats 8000000 in
set_option maxRecDepth 100000 in
theorem hypogeumlaw12_Gf2Squares.calls (k : Nat) (a0 : Int) (a1 : Int) (a2 : Int) (r : Bool) (w : World) (h : hypogeumlaw12_Gf2Squares.f k a0 a1 a2 = some r) :
    Calls Try.prog 5 #[.int .u64 a0, .int .u64 a1, .int .i64 a2] w fun e w' => e = .returned (.bool r) ∧ Below w.heap.size w w' := by
  have HB := Aside0.mk (Below.refl w.heap.size w)
  have H : ((gf2_Square.f k a0 a1 a2).bind fun bt191 => (if a1 = 0 then (hypogeumlaw12_Gf2Squares.j0 k a0 a1 a2 bt191.1 bt191.2 true) else (if a2 < 0 then (hypogeumlaw12_Gf2Squares.j0 k a0 a1 a2 bt191.1 bt191.2 true) else (hypogeumlaw12_Gf2Squares.j0 k a0 a1 a2 bt191.1 bt191.2 (decide (a2 > 64)))))) = some r := h
  clear h
  replace H := Option.bind_eq_some_iff.mp H
  obtain ⟨⟨t191, t192⟩, A40, H⟩ := H
  replace H : (if a1 = 0 then (hypogeumlaw12_Gf2Squares.j0 k a0 a1 a2 t191 t192 true) else (if a2 < 0 then (hypogeumlaw12_Gf2Squares.j0 k a0 a1 a2 t191 t192 true) else (hypogeumlaw12_Gf2Squares.j0 k a0 a1 a2 t191 t192 (decide (a2 > 64))))) = some r := H
  have A4 := Aside0.mk A40
  clear A40
  have HC5 := Aside0.mk H
  clear H
  go_enter Try.func5, Try.ntmps5
  go_upto_region 2 with (first | ((with_reducible refine gate_callee (f := 20) rfl ?_); refine goesL_ (some 13) rfl rfl Try.func20 (by kernel_rfl) rfl #[.int .u64 a0, .int .u64 a1, .int .i64 a2] rfl (by (try simp only [List.map_toArray, List.map_cons, List.map_nil]); first | done | rfl | (simp only [List.length_drop, List.length_take]; rfl)) ?_; (with_reducible refine (gf2_Square.calls k a0 a1 a2 t191 t192 _ A4.out).mono ?_); rintro e w' ⟨rfl, ⟨nd, rfl⟩⟩; refine ⟨_, rfl, ?_⟩))
  (try simp only [Act.put, List.setIfInBounds_toArray, List.set_cons_zero, List.set_cons_succ])
  go_cut [25] (fun v25 wc => ∃ (kq : Nat) (x25_4 : Bool), v25 = .bool x25_4 ∧ Aside0 (hypogeumlaw12_Gf2Squares.j0 kq a0 a1 a2 t191 t192 x25_4 = some r) ∧ Aside0 (kq ≤ k) ∧ Aside0 (Below w.heap.size w wc))
  case first =>
    have H := HC5.out
    clear HC5
    by_cases c6 : a1 = 0
    · rw [if_pos c6] at H
      have c6b0 : (a1 == 0) = true := beq_iff_eq.mpr c6
      have c6b1 : (a1 != 0) = false := bne_eq_false_iff_eq.mpr c6
      clear c6
      (first | rw [c6b0] | (simp only [i64_w, i32_w]; rw [c6b0]) | skip)
      have H' := Aside0.mk H
      clear H
      go_wp2
      go_meet
      case rel => exact ⟨_, (true), (by first | rfl | (simp; done) | (simp [*]; done)), H', ⟨by first | omega | exact Nat.le_refl _⟩, ⟨by repeat (first | (with_reducible first | exact HB.out | apply below_alloc | apply pw_below_drewN | apply below_drew1) | exact HB.out)⟩⟩
    · rw [if_neg c6] at H
      have c6b0 : (a1 == 0) = false := beq_eq_false_iff_ne.mpr c6
      have c6b1 : (a1 != 0) = true := bne_iff_ne.mpr c6
      (first | rw [c6b0] | (simp only [i64_w, i32_w]; rw [c6b0]) | skip)
      by_cases c7 : a2 < 0
      · rw [if_pos c7] at H
        have c7b0 : decide (a2 < 0) = true := decide_eq_true c7
        clear c7
        have H' := Aside0.mk H
        clear H
        go_wp2
        go_meet
        case rel => exact ⟨_, (true), (by first | rfl | (simp; done) | (simp [*]; done)), H', ⟨by first | omega | exact Nat.le_refl _⟩, ⟨by repeat (first | (with_reducible first | exact HB.out | apply below_alloc | apply pw_below_drewN | apply below_drew1) | exact HB.out)⟩⟩
      · rw [if_neg c7] at H
        have c7b0 : decide (a2 < 0) = false := decide_eq_false c7
        clear c7
        have H' := Aside0.mk H
        clear H
        go_wp2
        go_meet
        case rel => exact ⟨_, (decide (a2 > 64)), (by first | rfl | (simp; done) | (simp [*]; done)), H', ⟨by first | omega | exact Nat.le_refl _⟩, ⟨by repeat (first | (with_reducible first | exact HB.out | apply below_alloc | apply pw_below_drewN | apply below_drew1) | exact HB.out)⟩⟩
  case rest =>
    clear HC5
    try clear c2
    try clear p2
    try clear c5
    try clear c6
    try clear c6b0
    try clear c6b1
    try clear c7
    try clear c7b0
    obtain ⟨kq, x25_4, rfl, HA, HJ4, HB⟩ := hcut
    cases kq with
    | zero => exact absurd HA.out (by simp [hypogeumlaw12_Gf2Squares.j0])
    | succ kj4 =>
      have H := HA.out
      clear HA
      simp only [hypogeumlaw12_Gf2Squares.j0] at H
      by_cases c8 : x25_4 = true
      · subst c8
        have H1 : (if t191 = 0 then (if t192 = 6 then ((hypogeumlaw12_awake.f kj4).bind fun t193 => (some t193)) else (some false)) else (some false)) = some r := by rw [if_pos rfl] at H; exact H
        clear H
        have H := H1
        clear H1
        by_cases c9 : t191 = 0
        · rw [if_pos c9] at H
          have c9b0 : (t191 == 0) = true := beq_iff_eq.mpr c9
          have c9b1 : (t191 != 0) = false := bne_eq_false_iff_eq.mpr c9
          clear c9
          by_cases c10 : t192 = 6
          · rw [if_pos c10] at H
            have c10b0 : (t192 == 6) = true := beq_iff_eq.mpr c10
            have c10b1 : (t192 != 6) = false := bne_eq_false_iff_eq.mpr c10
            clear c10
            replace H := Option.bind_eq_some_iff.mp H
            obtain ⟨t193, A110, H⟩ := H
            replace H : (some t193) = some r := H
            have A11 := Aside0.mk A110
            clear A110
            obtain rfl := Option.some.inj H
            go_wp2_with (first | (go_at_call 16; (with_reducible refine (hypogeumlaw12_awake.calls kj4  t193 _ A11.out).mono ?_); rintro e w' ⟨rfl, ⟨nd, rfl⟩⟩))
            go_ret
            exact ⟨by first | rfl | (simp [errW_none, errW_some] <;> rfl) | (simp [*, errW_none, errW_some] <;> rfl), by repeat (first | (with_reducible first | exact HB.out | apply below_alloc | apply pw_below_drewN | apply below_drew1) | exact HB.out)⟩
          · rw [if_neg c10] at H
            have c10b0 : (t192 == 6) = false := beq_eq_false_iff_ne.mpr c10
            have c10b1 : (t192 != 6) = true := bne_iff_ne.mpr c10
            obtain rfl := Option.some.inj H
            go_wp2
            go_ret
            exact ⟨by first | rfl | (simp [errW_none, errW_some] <;> rfl) | (simp [*, errW_none, errW_some] <;> rfl), by repeat (first | (with_reducible first | exact HB.out | apply below_alloc | apply pw_below_drewN | apply below_drew1) | exact HB.out)⟩
        · rw [if_neg c9] at H
          have c9b0 : (t191 == 0) = false := beq_eq_false_iff_ne.mpr c9
          have c9b1 : (t191 != 0) = true := bne_iff_ne.mpr c9
          obtain rfl := Option.some.inj H
          go_wp2
          go_ret
          exact ⟨by first | rfl | (simp [errW_none, errW_some] <;> rfl) | (simp [*, errW_none, errW_some] <;> rfl), by repeat (first | (with_reducible first | exact HB.out | apply below_alloc | apply pw_below_drewN | apply below_drew1) | exact HB.out)⟩
      · replace c8 := Bool.eq_false_iff.mpr c8
        subst c8
        have H1 : ((hypogeumref12_Square.f kj4 a0 a1 a2).bind fun t194 => (if t191 = t194 then (if t192 = 0 then ((hypogeumlaw12_awake.f kj4).bind fun t195 => (some t195)) else (some false)) else (some false))) = some r := by rw [if_neg (show ¬ (false = true) by decide)] at H; exact H
        clear H
        have H := H1
        clear H1
        replace H := Option.bind_eq_some_iff.mp H
        obtain ⟨t194, A120, H⟩ := H
        replace H : (if t191 = t194 then (if t192 = 0 then ((hypogeumlaw12_awake.f kj4).bind fun t195 => (some t195)) else (some false)) else (some false)) = some r := H
        have A12 := Aside0.mk A120
        clear A120
        by_cases c13 : t191 = t194
        · rw [if_pos c13] at H
          have c13b0 : (t191 == t194) = true := beq_iff_eq.mpr c13
          have c13b1 : (t191 != t194) = false := bne_eq_false_iff_eq.mpr c13
          clear c13
          by_cases c14 : t192 = 0
          · rw [if_pos c14] at H
            have c14b0 : (t192 == 0) = true := beq_iff_eq.mpr c14
            have c14b1 : (t192 != 0) = false := bne_eq_false_iff_eq.mpr c14
            clear c14
            replace H := Option.bind_eq_some_iff.mp H
            obtain ⟨t195, A150, H⟩ := H
            replace H : (some t195) = some r := H
            have A15 := Aside0.mk A150
            clear A150
            obtain rfl := Option.some.inj H
            go_wp2_with (first | ((with_reducible refine gate_callee (f := 21) rfl ?_); refine goesL_ (some 39) rfl rfl Try.func21 (by kernel_rfl) rfl #[.int .u64 a0, .int .u64 a1, .int .i64 a2] rfl (by (try simp only [List.map_toArray, List.map_cons, List.map_nil]); first | done | rfl | (simp only [List.length_drop, List.length_take]; rfl)) ?_; (with_reducible refine (hypogeumref12_Square.calls kj4 a0 a1 a2 t194 _ A12.out).mono ?_); rintro e w16 ⟨rfl, hb⟩; refine ⟨_, rfl, ?_⟩; have n0_ := Aside0.mk (below_step (by repeat (first | (with_reducible first | exact HB.out | apply below_alloc | apply pw_below_drewN | apply below_drew1) | exact HB.out)) hb); clear HB; have HB := n0_; clear n0_; (try clear hb); (try clear hb2); (try clear hk); (try clear hi)) | (go_at_call 16; (with_reducible refine (hypogeumlaw12_awake.calls kj4  t195 _ A15.out).mono ?_); rintro e w' ⟨rfl, ⟨nd, rfl⟩⟩))
            go_ret
            exact ⟨by first | rfl | (simp [errW_none, errW_some] <;> rfl) | (simp [*, errW_none, errW_some] <;> rfl), by repeat (first | (with_reducible first | exact HB.out | apply below_alloc | apply pw_below_drewN | apply below_drew1) | exact HB.out)⟩
          · rw [if_neg c14] at H
            have c14b0 : (t192 == 0) = false := beq_eq_false_iff_ne.mpr c14
            have c14b1 : (t192 != 0) = true := bne_iff_ne.mpr c14
            obtain rfl := Option.some.inj H
            go_wp2_with (first | ((with_reducible refine gate_callee (f := 21) rfl ?_); refine goesL_ (some 39) rfl rfl Try.func21 (by kernel_rfl) rfl #[.int .u64 a0, .int .u64 a1, .int .i64 a2] rfl (by (try simp only [List.map_toArray, List.map_cons, List.map_nil]); first | done | rfl | (simp only [List.length_drop, List.length_take]; rfl)) ?_; (with_reducible refine (hypogeumref12_Square.calls kj4 a0 a1 a2 t194 _ A12.out).mono ?_); rintro e w17 ⟨rfl, hb⟩; refine ⟨_, rfl, ?_⟩; have n0_ := Aside0.mk (below_step (by repeat (first | (with_reducible first | exact HB.out | apply below_alloc | apply pw_below_drewN | apply below_drew1) | exact HB.out)) hb); clear HB; have HB := n0_; clear n0_; (try clear hb); (try clear hb2); (try clear hk); (try clear hi)))
            go_ret
            exact ⟨by first | rfl | (simp [errW_none, errW_some] <;> rfl) | (simp [*, errW_none, errW_some] <;> rfl), by repeat (first | (with_reducible first | exact HB.out | apply below_alloc | apply pw_below_drewN | apply below_drew1) | exact HB.out)⟩
        · rw [if_neg c13] at H
          have c13b0 : (t191 == t194) = false := beq_eq_false_iff_ne.mpr c13
          have c13b1 : (t191 != t194) = true := bne_iff_ne.mpr c13
          obtain rfl := Option.some.inj H
          go_wp2_with (first | ((with_reducible refine gate_callee (f := 21) rfl ?_); refine goesL_ (some 39) rfl rfl Try.func21 (by kernel_rfl) rfl #[.int .u64 a0, .int .u64 a1, .int .i64 a2] rfl (by (try simp only [List.map_toArray, List.map_cons, List.map_nil]); first | done | rfl | (simp only [List.length_drop, List.length_take]; rfl)) ?_; (with_reducible refine (hypogeumref12_Square.calls kj4 a0 a1 a2 t194 _ A12.out).mono ?_); rintro e w18 ⟨rfl, hb⟩; refine ⟨_, rfl, ?_⟩; have n0_ := Aside0.mk (below_step (by repeat (first | (with_reducible first | exact HB.out | apply below_alloc | apply pw_below_drewN | apply below_drew1) | exact HB.out)) hb); clear HB; have HB := n0_; clear n0_; (try clear hb); (try clear hb2); (try clear hk); (try clear hi)))
          go_ret
          exact ⟨by first | rfl | (simp [errW_none, errW_some] <;> rfl) | (simp [*, errW_none, errW_some] <;> rfl), by repeat (first | (with_reducible first | exact HB.out | apply below_alloc | apply pw_below_drewN | apply below_drew1) | exact HB.out)⟩

/-- THE ONE PURE STATEMENT of hypogeumlaw12_Gf2Squares: yours. -/
def hypogeumlaw12_Gf2Squares.Pure : Prop := ∀ (a0 : Int) (a1 : Int) (a2 : Int), (Lit.int .u64 a0).wf = true → (Lit.int .u64 a1).wf = true → (Lit.int .i64 a2).wf = true → ∃ k, hypogeumlaw12_Gf2Squares.f k a0 a1 a2 = some true
theorem hypogeumlaw12_Gf2Squares.walk (P : hypogeumlaw12_Gf2Squares.Pure) (a0 : Int) (a1 : Int) (a2 : Int) (w : World) (w0 : (Lit.int .u64 a0).wf = true) (w1 : (Lit.int .u64 a1).wf = true) (w2 : (Lit.int .i64 a2).wf = true) :
    Calls Try.prog 5 #[.int .u64 a0, .int .u64 a1, .int .i64 a2] w fun e w' => e = .returned (.bool true) ∧ Below w.heap.size w w' := by
  obtain ⟨k, h⟩ := P a0 a1 a2 w0 w1 w2
  refine (hypogeumlaw12_Gf2Squares.calls k a0 a1 a2 true w h).mono ?_
  rintro e w' ⟨rfl, hd⟩
  exact ⟨rfl, hd⟩

/-! ### hypogeumref12_Divides: function 23 -/
def hypogeumref12_Divides.f (k : Nat) (a0 : Int) (a1 : Int) : Option (Bool) := (hypogeumref12_Mod.f k a1 a0).bind fun t196 => (some (t196 == 0))
theorem hypogeumref12_Divides.mono : ∀ a0 a1 k, LeO (hypogeumref12_Divides.f k a0 a1) (hypogeumref12_Divides.f (k + 1) a0 a1) := by
  intro a0 a1 k
  unfold hypogeumref12_Divides.f
  repeat' first
      | (with_reducible exact hypogeumref12_Mod.mono _ _ _)
      | (with_reducible exact LeO.refl _)
      | (with_reducible exact LeO.none _)
      | (with_reducible refine LeO.ite ?_ ?_)
      | (with_reducible refine LeO.bind ?_ (fun _ => ?_))
      | exact hypogeumref12_Mod.mono _ _ _
      | exact LeO.none _
      | refine LeO.ite ?_ ?_
      | refine LeO.bind ?_ (fun _ => ?_)
set_option maxHeartbeats 8000000 in
set_option maxRecDepth 100000 in
theorem hypogeumref12_Divides.calls (k : Nat) (a0 : Int) (a1 : Int) (r : Bool) (w : World) (h : hypogeumref12_Divides.f k a0 a1 = some r) :
    Calls Try.prog 23 #[.int .u64 a0, .int .u64 a1] w fun e w' => e = .returned (.bool r) ∧ Below w.heap.size w w' := by
  have HB := Aside0.mk (Below.refl w.heap.size w)
  have H : ((hypogeumref12_Mod.f k a1 a0).bind fun t196 => (some (t196 == 0))) = some r := h
  clear h
  replace H := Option.bind_eq_some_iff.mp H
  obtain ⟨t196, A30, H⟩ := H
  replace H : (some (t196 == 0)) = some r := H
  have A3 := Aside0.mk A30
  clear A30
  obtain rfl := Option.some.inj H
  go_enter Try.func23, Try.ntmps23
  go_wp2_with (first | ((with_reducible refine gate_callee (f := 17) rfl ?_); refine goesL_ (some 7) rfl rfl Try.func17 (by kernel_rfl) rfl #[.int .u64 a1, .int .u64 a0] rfl (by (try simp only [List.map_toArray, List.map_cons, List.map_nil]); first | done | rfl | (simp only [List.length_drop, List.length_take]; rfl)) ?_; (with_reducible refine (hypogeumref12_Mod.calls k a1 a0 t196 _ A3.out).mono ?_); rintro e w4 ⟨rfl, hb⟩; refine ⟨_, rfl, ?_⟩; have n0_ := Aside0.mk (below_step (by repeat (first | (with_reducible first | exact HB.out | apply below_alloc | apply pw_below_drewN | apply below_drew1) | exact HB.out)) hb); clear HB; have HB := n0_; clear n0_; (try clear hb); (try clear hb2); (try clear hk); (try clear hi)))
  go_ret
  exact ⟨by first | rfl | (simp [errW_none, errW_some] <;> rfl) | (simp [*, errW_none, errW_some] <;> rfl), by repeat (first | (with_reducible first | exact HB.out | apply below_alloc | apply pw_below_drewN | apply below_drew1) | exact HB.out)⟩

/-! ### hypogeumlaw12_Gf2Common: function 6 -/
mutual
def hypogeumlaw12_Gf2Common.j0 : Nat → Int → Int → Int → Int → Bool → Option (Bool)
  | 0, _, _, _, _, _ => none
  | k + 1, x0, x1, x2, x7, x16 => if x16 = true then (if x7 = 0 then ((hypogeumlaw12_awake.f k).bind fun t198 => (some t198)) else (some false)) else (if x7 = 0 then (hypogeumlaw12_Gf2Common.j1 k x0 x1 x2 x7 true) else ((hypogeumref12_Divides.f k x7 x0).bind fun t199 => (if t199 = true then ((hypogeumref12_Divides.f k x7 x1).bind fun t200 => (if t200 = true then ((gf2_Gcd.f k x1 x0).bind fun t201 => (hypogeumlaw12_Gf2Common.j1 k x0 x1 x2 x7 (t201 != x7))) else (hypogeumlaw12_Gf2Common.j1 k x0 x1 x2 x7 true))) else (hypogeumlaw12_Gf2Common.j1 k x0 x1 x2 x7 true))))
def hypogeumlaw12_Gf2Common.j1 : Nat → Int → Int → Int → Int → Bool → Option (Bool)
  | 0, _, _, _, _, _ => none
  | k + 1, x0, x1, x2, x7, x42 => if x42 = true then (some false) else (if x2 = 0 then ((hypogeumlaw12_awake.f k).bind fun t202 => (some t202)) else ((hypogeumref12_Divides.f k x2 x0).bind fun t203 => (if t203 = true then ((hypogeumref12_Divides.f k x2 x1).bind fun t204 => (if t204 = true then ((hypogeumref12_Divides.f k x2 x7).bind fun t205 => (if t205 = true then ((hypogeumlaw12_awake.f k).bind fun t206 => (some t206)) else (some false))) else ((hypogeumlaw12_awake.f k).bind fun t207 => (some t207)))) else ((hypogeumlaw12_awake.f k).bind fun t208 => (some t208)))))
end
def hypogeumlaw12_Gf2Common.f (k : Nat) (a0 : Int) (a1 : Int) (a2 : Int) : Option (Bool) := (gf2_Gcd.f k a0 a1).bind fun t197 => (if a0 = 0 then (hypogeumlaw12_Gf2Common.j0 k a0 a1 a2 t197 (a1 == 0)) else (hypogeumlaw12_Gf2Common.j0 k a0 a1 a2 t197 false))
theorem hypogeumlaw12_Gf2Common.mono_l : ∀ k, (∀ y0 y1 y2 y3 y4, LeO (hypogeumlaw12_Gf2Common.j0 k y0 y1 y2 y3 y4) (hypogeumlaw12_Gf2Common.j0 (k + 1) y0 y1 y2 y3 y4)) ∧ (∀ y0 y1 y2 y3 y4, LeO (hypogeumlaw12_Gf2Common.j1 k y0 y1 y2 y3 y4) (hypogeumlaw12_Gf2Common.j1 (k + 1) y0 y1 y2 y3 y4))
  | 0 => ⟨fun _ _ _ _ _ r h => by simp [hypogeumlaw12_Gf2Common.j0] at h, fun _ _ _ _ _ r h => by simp [hypogeumlaw12_Gf2Common.j1] at h⟩
  | k + 1 => by
    obtain ⟨ih0, ih1⟩ := hypogeumlaw12_Gf2Common.mono_l k
    refine ⟨?_, ?_⟩
    · intro y0 y1 y2 y3 y4
      unfold hypogeumlaw12_Gf2Common.j0
      repeat' first
      | (with_reducible exact ih0 _ _ _ _ _)
      | (with_reducible exact ih1 _ _ _ _ _)
      | (with_reducible exact gf2_Gcd.mono _ _ _)
      | (with_reducible exact hypogeumlaw12_awake.mono _)
      | (with_reducible exact hypogeumref12_Divides.mono _ _ _)
      | (with_reducible exact LeO.refl _)
      | (with_reducible exact LeO.none _)
      | (with_reducible refine LeO.ite ?_ ?_)
      | (with_reducible refine LeO.bind ?_ (fun _ => ?_))
      | exact ih0 _ _ _ _ _
      | exact ih1 _ _ _ _ _
      | exact gf2_Gcd.mono _ _ _
      | exact hypogeumlaw12_awake.mono _
      | exact hypogeumref12_Divides.mono _ _ _
      | exact LeO.none _
      | refine LeO.ite ?_ ?_
      | refine LeO.bind ?_ (fun _ => ?_)
    · intro y0 y1 y2 y3 y4
      unfold hypogeumlaw12_Gf2Common.j1
      repeat' first
      | (with_reducible exact ih0 _ _ _ _ _)
      | (with_reducible exact ih1 _ _ _ _ _)
      | (with_reducible exact gf2_Gcd.mono _ _ _)
      | (with_reducible exact hypogeumlaw12_awake.mono _)
      | (with_reducible exact hypogeumref12_Divides.mono _ _ _)
      | (with_reducible exact LeO.refl _)
      | (with_reducible exact LeO.none _)
      | (with_reducible refine LeO.ite ?_ ?_)
      | (with_reducible refine LeO.bind ?_ (fun _ => ?_))
      | exact ih0 _ _ _ _ _
      | exact ih1 _ _ _ _ _
      | exact gf2_Gcd.mono _ _ _
      | exact hypogeumlaw12_awake.mono _
      | exact hypogeumref12_Divides.mono _ _ _
      | exact LeO.none _
      | refine LeO.ite ?_ ?_
      | refine LeO.bind ?_ (fun _ => ?_)
theorem hypogeumlaw12_Gf2Common.mono : ∀ a0 a1 a2 k, LeO (hypogeumlaw12_Gf2Common.f k a0 a1 a2) (hypogeumlaw12_Gf2Common.f (k + 1) a0 a1 a2) := by
  intro a0 a1 a2 k
  obtain ⟨ih0, ih1⟩ := hypogeumlaw12_Gf2Common.mono_l k
  unfold hypogeumlaw12_Gf2Common.f
  repeat' first
      | (with_reducible exact ih0 _ _ _ _ _)
      | (with_reducible exact ih1 _ _ _ _ _)
      | (with_reducible exact gf2_Gcd.mono _ _ _)
      | (with_reducible exact hypogeumlaw12_awake.mono _)
      | (with_reducible exact hypogeumref12_Divides.mono _ _ _)
      | (with_reducible exact LeO.refl _)
      | (with_reducible exact LeO.none _)
      | (with_reducible refine LeO.ite ?_ ?_)
      | (with_reducible refine LeO.bind ?_ (fun _ => ?_))
      | exact ih0 _ _ _ _ _
      | exact ih1 _ _ _ _ _
      | exact gf2_Gcd.mono _ _ _
      | exact hypogeumlaw12_awake.mono _
      | exact hypogeumref12_Divides.mono _ _ _
      | exact LeO.none _
      | refine LeO.ite ?_ ?_
      | refine LeO.bind ?_ (fun _ => ?_)
set_option maxHeartbeats 8000000 in
set_option maxRecDepth 100000 in
theorem hypogeumlaw12_Gf2Common.calls (k : Nat) (a0 : Int) (a1 : Int) (a2 : Int) (r : Bool) (w : World) (h : hypogeumlaw12_Gf2Common.f k a0 a1 a2 = some r) :
    Calls Try.prog 6 #[.int .u64 a0, .int .u64 a1, .int .u64 a2] w fun e w' => e = .returned (.bool r) ∧ Below w.heap.size w w' := by
  have HB := Aside0.mk (Below.refl w.heap.size w)
  have H : ((gf2_Gcd.f k a0 a1).bind fun t197 => (if a0 = 0 then (hypogeumlaw12_Gf2Common.j0 k a0 a1 a2 t197 (a1 == 0)) else (hypogeumlaw12_Gf2Common.j0 k a0 a1 a2 t197 false))) = some r := h
  clear h
  replace H := Option.bind_eq_some_iff.mp H
  obtain ⟨t197, A40, H⟩ := H
  replace H : (if a0 = 0 then (hypogeumlaw12_Gf2Common.j0 k a0 a1 a2 t197 (a1 == 0)) else (hypogeumlaw12_Gf2Common.j0 k a0 a1 a2 t197 false)) = some r := H
  have A4 := Aside0.mk A40
  clear A40
  have HC5 := Aside0.mk H
  clear H
  go_enter Try.func6, Try.ntmps6
  go_upto_region 2 with (first | ((with_reducible refine gate_callee (f := 22) rfl ?_); refine goesL_ (some 10) rfl rfl Try.func22 (by kernel_rfl) rfl #[.int .u64 a0, .int .u64 a1] rfl (by (try simp only [List.map_toArray, List.map_cons, List.map_nil]); first | done | rfl | (simp only [List.length_drop, List.length_take]; rfl)) ?_; (with_reducible refine (gf2_Gcd.calls k a0 a1 t197 _ A4.out).mono ?_); rintro e w' ⟨rfl, ⟨nd, rfl⟩⟩; refine ⟨_, rfl, ?_⟩))
  (try simp only [Act.put, List.setIfInBounds_toArray, List.set_cons_zero, List.set_cons_succ])
  go_cut [16] (fun v16 wc => ∃ (kq : Nat) (x16_4 : Bool), v16 = .bool x16_4 ∧ Aside0 (hypogeumlaw12_Gf2Common.j0 kq a0 a1 a2 t197 x16_4 = some r) ∧ Aside0 (kq ≤ k) ∧ Aside0 (Below w.heap.size w wc))
  case first =>
    have H := HC5.out
    clear HC5
    by_cases c6 : a0 = 0
    · rw [if_pos c6] at H
      have c6b0 : (a0 == 0) = true := beq_iff_eq.mpr c6
      have c6b1 : (a0 != 0) = false := bne_eq_false_iff_eq.mpr c6
      clear c6
      (first | rw [c6b0] | (simp only [i64_w, i32_w]; rw [c6b0]) | skip)
      have H' := Aside0.mk H
      clear H
      go_wp2
      go_meet
      case rel => exact ⟨_, ((a1 == 0)), (by first | rfl | (simp; done) | (simp [*]; done)), H', ⟨by first | omega | exact Nat.le_refl _⟩, ⟨by repeat (first | (with_reducible first | exact HB.out | apply below_alloc | apply pw_below_drewN | apply below_drew1) | exact HB.out)⟩⟩
    · rw [if_neg c6] at H
      have c6b0 : (a0 == 0) = false := beq_eq_false_iff_ne.mpr c6
      have c6b1 : (a0 != 0) = true := bne_iff_ne.mpr c6
      (first | rw [c6b0] | (simp only [i64_w, i32_w]; rw [c6b0]) | skip)
      have H' := Aside0.mk H
      clear H
      go_wp2
      go_meet
      case rel => exact ⟨_, (false), (by first | rfl | (simp; done) | (simp [*]; done)), H', ⟨by first | omega | exact Nat.le_refl _⟩, ⟨by repeat (first | (with_reducible first | exact HB.out | apply below_alloc | apply pw_below_drewN | apply below_drew1) | exact HB.out)⟩⟩
  case rest =>
    clear HC5
    try clear c2
    try clear p2
    try clear c6
    try clear c6b0
    try clear c6b1
    obtain ⟨kq, x16_4, rfl, HA, HJ4, HB⟩ := hcut
    cases kq with
    | zero => exact absurd HA.out (by simp [hypogeumlaw12_Gf2Common.j0])
    | succ kj4 =>
      have H := HA.out
      clear HA
      simp only [hypogeumlaw12_Gf2Common.j0] at H
      by_cases c7 : x16_4 = true
      · subst c7
        have H1 : (if t197 = 0 then ((hypogeumlaw12_awake.f kj4).bind fun t198 => (some t198)) else (some false)) = some r := by rw [if_pos rfl] at H; exact H
        clear H
        have H := H1
        clear H1
        by_cases c8 : t197 = 0
        · rw [if_pos c8] at H
          have c8b0 : (t197 == 0) = true := beq_iff_eq.mpr c8
          have c8b1 : (t197 != 0) = false := bne_eq_false_iff_eq.mpr c8
          clear c8
          replace H := Option.bind_eq_some_iff.mp H
          obtain ⟨t198, A90, H⟩ := H
          replace H : (some t198) = some r := H
          have A9 := Aside0.mk A90
          clear A90
          obtain rfl := Option.some.inj H
          go_wp2_with (first | (go_at_call 16; (with_reducible refine (hypogeumlaw12_awake.calls kj4  t198 _ A9.out).mono ?_); rintro e w' ⟨rfl, ⟨nd, rfl⟩⟩))
          go_ret
          exact ⟨by first | rfl | (simp [errW_none, errW_some] <;> rfl) | (simp [*, errW_none, errW_some] <;> rfl), by repeat (first | (with_reducible first | exact HB.out | apply below_alloc | apply pw_below_drewN | apply below_drew1) | exact HB.out)⟩
        · rw [if_neg c8] at H
          have c8b0 : (t197 == 0) = false := beq_eq_false_iff_ne.mpr c8
          have c8b1 : (t197 != 0) = true := bne_iff_ne.mpr c8
          obtain rfl := Option.some.inj H
          go_wp2
          go_ret
          exact ⟨by first | rfl | (simp [errW_none, errW_some] <;> rfl) | (simp [*, errW_none, errW_some] <;> rfl), by repeat (first | (with_reducible first | exact HB.out | apply below_alloc | apply pw_below_drewN | apply below_drew1) | exact HB.out)⟩
      · replace c7 := Bool.eq_false_iff.mpr c7
        subst c7
        have H1 : (if t197 = 0 then (hypogeumlaw12_Gf2Common.j1 kj4 a0 a1 a2 t197 true) else ((hypogeumref12_Divides.f kj4 t197 a0).bind fun t199 => (if t199 = true then ((hypogeumref12_Divides.f kj4 t197 a1).bind fun t200 => (if t200 = true then ((gf2_Gcd.f kj4 a1 a0).bind fun t201 => (hypogeumlaw12_Gf2Common.j1 kj4 a0 a1 a2 t197 (t201 != t197))) else (hypogeumlaw12_Gf2Common.j1 kj4 a0 a1 a2 t197 true))) else (hypogeumlaw12_Gf2Common.j1 kj4 a0 a1 a2 t197 true)))) = some r := by rw [if_neg (show ¬ (false = true) by decide)] at H; exact H
        clear H
        have H := H1
        clear H1
        have HC10 := Aside0.mk H
        clear H
        go_upto_region 4 with (fail)
        go_cut [42] (fun v42 wc => ∃ (kq : Nat) (x42_9 : Bool), v42 = .bool x42_9 ∧ Aside0 (hypogeumlaw12_Gf2Common.j1 kq a0 a1 a2 t197 x42_9 = some r) ∧ Aside0 (kq ≤ kj4) ∧ Aside0 (Below w.heap.size w wc))
        case first =>
          have H := HC10.out
          clear HC10
          by_cases c11 : t197 = 0
          · rw [if_pos c11] at H
            have c11b0 : (t197 == 0) = true := beq_iff_eq.mpr c11
            have c11b1 : (t197 != 0) = false := bne_eq_false_iff_eq.mpr c11
            clear c11
            (first | rw [c11b0] | (simp only [i64_w, i32_w]; rw [c11b0]) | skip)
            have H' := Aside0.mk H
            clear H
            go_wp2
            go_meet
            case rel => exact ⟨_, (true), (by first | rfl | (simp; done) | (simp [*]; done)), H', ⟨by have := HJ4.out; first | omega | exact Nat.le_refl _⟩, ⟨by repeat (first | (with_reducible first | exact HB.out | apply below_alloc | apply pw_below_drewN | apply below_drew1) | exact HB.out)⟩⟩
          · rw [if_neg c11] at H
            have c11b0 : (t197 == 0) = false := beq_eq_false_iff_ne.mpr c11
            have c11b1 : (t197 != 0) = true := bne_iff_ne.mpr c11
            (first | rw [c11b0] | (simp only [i64_w, i32_w]; rw [c11b0]) | skip)
            replace H := Option.bind_eq_some_iff.mp H
            obtain ⟨t199, A120, H⟩ := H
            replace H : (if t199 = true then ((hypogeumref12_Divides.f kj4 t197 a1).bind fun t200 => (if t200 = true then ((gf2_Gcd.f kj4 a1 a0).bind fun t201 => (hypogeumlaw12_Gf2Common.j1 kj4 a0 a1 a2 t197 (t201 != t197))) else (hypogeumlaw12_Gf2Common.j1 kj4 a0 a1 a2 t197 true))) else (hypogeumlaw12_Gf2Common.j1 kj4 a0 a1 a2 t197 true)) = some r := H
            have A12 := Aside0.mk A120
            clear A120
            by_cases c13 : t199 = true
            · subst c13
              have H1 : ((hypogeumref12_Divides.f kj4 t197 a1).bind fun t200 => (if t200 = true then ((gf2_Gcd.f kj4 a1 a0).bind fun t201 => (hypogeumlaw12_Gf2Common.j1 kj4 a0 a1 a2 t197 (t201 != t197))) else (hypogeumlaw12_Gf2Common.j1 kj4 a0 a1 a2 t197 true))) = some r := by rw [if_pos rfl] at H; exact H
              clear H
              have H := H1
              clear H1
              replace H := Option.bind_eq_some_iff.mp H
              obtain ⟨t200, A140, H⟩ := H
              replace H : (if t200 = true then ((gf2_Gcd.f kj4 a1 a0).bind fun t201 => (hypogeumlaw12_Gf2Common.j1 kj4 a0 a1 a2 t197 (t201 != t197))) else (hypogeumlaw12_Gf2Common.j1 kj4 a0 a1 a2 t197 true)) = some r := H
              have A14 := Aside0.mk A140
              clear A140
              by_cases c15 : t200 = true
              · subst c15
                have H1 : ((gf2_Gcd.f kj4 a1 a0).bind fun t201 => (hypogeumlaw12_Gf2Common.j1 kj4 a0 a1 a2 t197 (t201 != t197))) = some r := by rw [if_pos rfl] at H; exact H
                clear H
                have H := H1
                clear H1
                replace H := Option.bind_eq_some_iff.mp H
                obtain ⟨t201, A160, H⟩ := H
                replace H : (hypogeumlaw12_Gf2Common.j1 kj4 a0 a1 a2 t197 (t201 != t197)) = some r := H
                have A16 := Aside0.mk A160
                clear A160
                have H' := Aside0.mk H
                clear H
                go_wp2_with (first | (go_at_call 23; (with_reducible refine (hypogeumref12_Divides.calls kj4 t197 a0 true _ A12.out).mono ?_); rintro e w17 ⟨rfl, hb⟩; have n0_ := Aside0.mk (below_step (by repeat (first | (with_reducible first | exact HB.out | apply below_alloc | apply pw_below_drewN | apply below_drew1) | exact HB.out)) hb); clear HB; have HB := n0_; clear n0_; (try clear hb); (try clear hb2); (try clear hk); (try clear hi)) | (go_at_call 23; (with_reducible refine (hypogeumref12_Divides.calls kj4 t197 a1 true _ A14.out).mono ?_); rintro e w18 ⟨rfl, hb⟩; have n0_ := Aside0.mk (below_step (by repeat (first | (with_reducible first | exact HB.out | apply below_alloc | apply pw_below_drewN | apply below_drew1) | exact HB.out)) hb); clear HB; have HB := n0_; clear n0_; (try clear hb); (try clear hb2); (try clear hk); (try clear hi)) | (go_at_call 22; (with_reducible refine (gf2_Gcd.calls kj4 a1 a0 t201 _ A16.out).mono ?_); rintro e w' ⟨rfl, ⟨nd, rfl⟩⟩))
                go_meet
                case rel => exact ⟨_, ((t201 != t197)), (by first | rfl | (simp; done) | (simp [*]; done)), H', ⟨by have := HJ4.out; first | omega | exact Nat.le_refl _⟩, ⟨by repeat (first | (with_reducible first | exact HB.out | apply below_alloc | apply pw_below_drewN | apply below_drew1) | exact HB.out)⟩⟩
              · replace c15 := Bool.eq_false_iff.mpr c15
                subst c15
                have H1 : (hypogeumlaw12_Gf2Common.j1 kj4 a0 a1 a2 t197 true) = some r := by rw [if_neg (show ¬ (false = true) by decide)] at H; exact H
                clear H
                have H := H1
                clear H1
                have H' := Aside0.mk H
                clear H
                go_wp2_with (first | (go_at_call 23; (with_reducible refine (hypogeumref12_Divides.calls kj4 t197 a0 true _ A12.out).mono ?_); rintro e w19 ⟨rfl, hb⟩; have n0_ := Aside0.mk (below_step (by repeat (first | (with_reducible first | exact HB.out | apply below_alloc | apply pw_below_drewN | apply below_drew1) | exact HB.out)) hb); clear HB; have HB := n0_; clear n0_; (try clear hb); (try clear hb2); (try clear hk); (try clear hi)) | (go_at_call 23; (with_reducible refine (hypogeumref12_Divides.calls kj4 t197 a1 false _ A14.out).mono ?_); rintro e w20 ⟨rfl, hb⟩; have n0_ := Aside0.mk (below_step (by repeat (first | (with_reducible first | exact HB.out | apply below_alloc | apply pw_below_drewN | apply below_drew1) | exact HB.out)) hb); clear HB; have HB := n0_; clear n0_; (try clear hb); (try clear hb2); (try clear hk); (try clear hi)))
                go_meet
                case rel => exact ⟨_, (true), (by first | rfl | (simp; done) | (simp [*]; done)), H', ⟨by have := HJ4.out; first | omega | exact Nat.le_refl _⟩, ⟨by repeat (first | (with_reducible first | exact HB.out | apply below_alloc | apply pw_below_drewN | apply below_drew1) | exact HB.out)⟩⟩
            · replace c13 := Bool.eq_false_iff.mpr c13
              subst c13
              have H1 : (hypogeumlaw12_Gf2Common.j1 kj4 a0 a1 a2 t197 true) = some r := by rw [if_neg (show ¬ (false = true) by decide)] at H; exact H
              clear H
              have H := H1
              clear H1
              have H' := Aside0.mk H
              clear H
              go_wp2_with (first | (go_at_call 23; (with_reducible refine (hypogeumref12_Divides.calls kj4 t197 a0 false _ A12.out).mono ?_); rintro e w21 ⟨rfl, hb⟩; have n0_ := Aside0.mk (below_step (by repeat (first | (with_reducible first | exact HB.out | apply below_alloc | apply pw_below_drewN | apply below_drew1) | exact HB.out)) hb); clear HB; have HB := n0_; clear n0_; (try clear hb); (try clear hb2); (try clear hk); (try clear hi)))
              go_meet
              case rel => exact ⟨_, (true), (by first | rfl | (simp; done) | (simp [*]; done)), H', ⟨by have := HJ4.out; first | omega | exact Nat.le_refl _⟩, ⟨by repeat (first | (with_reducible first | exact HB.out | apply below_alloc | apply pw_below_drewN | apply below_drew1) | exact HB.out)⟩⟩
        case rest =>
          clear HC10
          try clear c1
          try clear c2
          try clear p2
          try clear c6
          try clear c6b0
          try clear c6b1
          try clear c7
          try clear c8
          try clear c8b0
          try clear c8b1
          try clear c11
          try clear c11b0
          try clear c11b1
          try clear c13
          try clear c15
          try clear p2
          obtain ⟨kq, x42_9, rfl, HA, HJ9, HB⟩ := hcut
          cases kq with
          | zero => exact absurd HA.out (by simp [hypogeumlaw12_Gf2Common.j1])
          | succ kj9 =>
            have H := HA.out
            clear HA
            simp only [hypogeumlaw12_Gf2Common.j1] at H
            by_cases c22 : x42_9 = true
            · subst c22
              have H1 : (some false) = some r := by rw [if_pos rfl] at H; exact H
              clear H
              have H := H1
              clear H1
              obtain rfl := Option.some.inj H
              go_wp2
              go_ret
              exact ⟨by first | rfl | (simp [errW_none, errW_some] <;> rfl) | (simp [*, errW_none, errW_some] <;> rfl), by repeat (first | (with_reducible first | exact HB.out | apply below_alloc | apply pw_below_drewN | apply below_drew1) | exact HB.out)⟩
            · replace c22 := Bool.eq_false_iff.mpr c22
              subst c22
              have H1 : (if a2 = 0 then ((hypogeumlaw12_awake.f kj9).bind fun t202 => (some t202)) else ((hypogeumref12_Divides.f kj9 a2 a0).bind fun t203 => (if t203 = true then ((hypogeumref12_Divides.f kj9 a2 a1).bind fun t204 => (if t204 = true then ((hypogeumref12_Divides.f kj9 a2 t197).bind fun t205 => (if t205 = true then ((hypogeumlaw12_awake.f kj9).bind fun t206 => (some t206)) else (some false))) else ((hypogeumlaw12_awake.f kj9).bind fun t207 => (some t207)))) else ((hypogeumlaw12_awake.f kj9).bind fun t208 => (some t208))))) = some r := by rw [if_neg (show ¬ (false = true) by decide)] at H; exact H
              clear H
              have H := H1
              clear H1
              by_cases c23 : a2 = 0
              · rw [if_pos c23] at H
                have c23b0 : (a2 == 0) = true := beq_iff_eq.mpr c23
                have c23b1 : (a2 != 0) = false := bne_eq_false_iff_eq.mpr c23
                clear c23
                replace H := Option.bind_eq_some_iff.mp H
                obtain ⟨t202, A240, H⟩ := H
                replace H : (some t202) = some r := H
                have A24 := Aside0.mk A240
                clear A240
                obtain rfl := Option.some.inj H
                go_wp2_with (first | ((with_reducible refine gate_callee (f := 16) rfl ?_); refine goesL_ (some 61) rfl rfl Try.func16 (by kernel_rfl) rfl #[] rfl (by (try simp only [List.map_toArray, List.map_cons, List.map_nil]); first | done | rfl | (simp only [List.length_drop, List.length_take]; rfl)) ?_; (with_reducible refine (hypogeumlaw12_awake.calls kj9  t202 _ A24.out).mono ?_); rintro e w' ⟨rfl, ⟨nd, rfl⟩⟩; refine ⟨_, rfl, ?_⟩))
                go_ret
                exact ⟨by first | rfl | (simp [errW_none, errW_some] <;> rfl) | (simp [*, errW_none, errW_some] <;> rfl), by repeat (first | (with_reducible first | exact HB.out | apply below_alloc | apply pw_below_drewN | apply below_drew1) | exact HB.out)⟩
              · rw [if_neg c23] at H
                have c23b0 : (a2 == 0) = false := beq_eq_false_iff_ne.mpr c23
                have c23b1 : (a2 != 0) = true := bne_iff_ne.mpr c23
                replace H := Option.bind_eq_some_iff.mp H
                obtain ⟨t203, A250, H⟩ := H
                replace H : (if t203 = true then ((hypogeumref12_Divides.f kj9 a2 a1).bind fun t204 => (if t204 = true then ((hypogeumref12_Divides.f kj9 a2 t197).bind fun t205 => (if t205 = true then ((hypogeumlaw12_awake.f kj9).bind fun t206 => (some t206)) else (some false))) else ((hypogeumlaw12_awake.f kj9).bind fun t207 => (some t207)))) else ((hypogeumlaw12_awake.f kj9).bind fun t208 => (some t208))) = some r := H
                have A25 := Aside0.mk A250
                clear A250
                by_cases c26 : t203 = true
                · subst c26
                  have H1 : ((hypogeumref12_Divides.f kj9 a2 a1).bind fun t204 => (if t204 = true then ((hypogeumref12_Divides.f kj9 a2 t197).bind fun t205 => (if t205 = true then ((hypogeumlaw12_awake.f kj9).bind fun t206 => (some t206)) else (some false))) else ((hypogeumlaw12_awake.f kj9).bind fun t207 => (some t207)))) = some r := by rw [if_pos rfl] at H; exact H
                  clear H
                  have H := H1
                  clear H1
                  replace H := Option.bind_eq_some_iff.mp H
                  obtain ⟨t204, A270, H⟩ := H
                  replace H : (if t204 = true then ((hypogeumref12_Divides.f kj9 a2 t197).bind fun t205 => (if t205 = true then ((hypogeumlaw12_awake.f kj9).bind fun t206 => (some t206)) else (some false))) else ((hypogeumlaw12_awake.f kj9).bind fun t207 => (some t207))) = some r := H
                  have A27 := Aside0.mk A270
                  clear A270
                  by_cases c28 : t204 = true
                  · subst c28
                    have H1 : ((hypogeumref12_Divides.f kj9 a2 t197).bind fun t205 => (if t205 = true then ((hypogeumlaw12_awake.f kj9).bind fun t206 => (some t206)) else (some false))) = some r := by rw [if_pos rfl] at H; exact H
                    clear H
                    have H := H1
                    clear H1
                    replace H := Option.bind_eq_some_iff.mp H
                    obtain ⟨t205, A290, H⟩ := H
                    replace H : (if t205 = true then ((hypogeumlaw12_awake.f kj9).bind fun t206 => (some t206)) else (some false)) = some r := H
                    have A29 := Aside0.mk A290
                    clear A290
                    by_cases c30 : t205 = true
                    · subst c30
                      have H1 : ((hypogeumlaw12_awake.f kj9).bind fun t206 => (some t206)) = some r := by rw [if_pos rfl] at H; exact H
                      clear H
                      have H := H1
                      clear H1
                      replace H := Option.bind_eq_some_iff.mp H
                      obtain ⟨t206, A310, H⟩ := H
                      replace H : (some t206) = some r := H
                      have A31 := Aside0.mk A310
                      clear A310
                      obtain rfl := Option.some.inj H
                      go_wp2_with (first | (go_at_call 23; (with_reducible refine (hypogeumref12_Divides.calls kj9 a2 a0 true _ A25.out).mono ?_); rintro e w32 ⟨rfl, hb⟩; have n0_ := Aside0.mk (below_step (by repeat (first | (with_reducible first | exact HB.out | apply below_alloc | apply pw_below_drewN | apply below_drew1) | exact HB.out)) hb); clear HB; have HB := n0_; clear n0_; (try clear hb); (try clear hb2); (try clear hk); (try clear hi)) | (go_at_call 23; (with_reducible refine (hypogeumref12_Divides.calls kj9 a2 a1 true _ A27.out).mono ?_); rintro e w33 ⟨rfl, hb⟩; have n0_ := Aside0.mk (below_step (by repeat (first | (with_reducible first | exact HB.out | apply below_alloc | apply pw_below_drewN | apply below_drew1) | exact HB.out)) hb); clear HB; have HB := n0_; clear n0_; (try clear hb); (try clear hb2); (try clear hk); (try clear hi)) | (go_at_call 23; (with_reducible refine (hypogeumref12_Divides.calls kj9 a2 t197 true _ A29.out).mono ?_); rintro e w34 ⟨rfl, hb⟩; have n0_ := Aside0.mk (below_step (by repeat (first | (with_reducible first | exact HB.out | apply below_alloc | apply pw_below_drewN | apply below_drew1) | exact HB.out)) hb); clear HB; have HB := n0_; clear n0_; (try clear hb); (try clear hb2); (try clear hk); (try clear hi)) | ((with_reducible refine gate_callee (f := 16) rfl ?_); refine goesL_ (some 61) rfl rfl Try.func16 (by kernel_rfl) rfl #[] rfl (by (try simp only [List.map_toArray, List.map_cons, List.map_nil]); first | done | rfl | (simp only [List.length_drop, List.length_take]; rfl)) ?_; (with_reducible refine (hypogeumlaw12_awake.calls kj9  t206 _ A31.out).mono ?_); rintro e w' ⟨rfl, ⟨nd, rfl⟩⟩; refine ⟨_, rfl, ?_⟩))
                      go_ret
                      exact ⟨by first | rfl | (simp [errW_none, errW_some] <;> rfl) | (simp [*, errW_none, errW_some] <;> rfl), by repeat (first | (with_reducible first | exact HB.out | apply below_alloc | apply pw_below_drewN | apply below_drew1) | exact HB.out)⟩
                    · replace c30 := Bool.eq_false_iff.mpr c30
                      subst c30
                      have H1 : (some false) = some r := by rw [if_neg (show ¬ (false = true) by decide)] at H; exact H
                      clear H
                      have H := H1
                      clear H1
                      obtain rfl := Option.some.inj H
                      go_wp2_with (first | (go_at_call 23; (with_reducible refine (hypogeumref12_Divides.calls kj9 a2 a0 true _ A25.out).mono ?_); rintro e w35 ⟨rfl, hb⟩; have n0_ := Aside0.mk (below_step (by repeat (first | (with_reducible first | exact HB.out | apply below_alloc | apply pw_below_drewN | apply below_drew1) | exact HB.out)) hb); clear HB; have HB := n0_; clear n0_; (try clear hb); (try clear hb2); (try clear hk); (try clear hi)) | (go_at_call 23; (with_reducible refine (hypogeumref12_Divides.calls kj9 a2 a1 true _ A27.out).mono ?_); rintro e w36 ⟨rfl, hb⟩; have n0_ := Aside0.mk (below_step (by repeat (first | (with_reducible first | exact HB.out | apply below_alloc | apply pw_below_drewN | apply below_drew1) | exact HB.out)) hb); clear HB; have HB := n0_; clear n0_; (try clear hb); (try clear hb2); (try clear hk); (try clear hi)) | (go_at_call 23; (with_reducible refine (hypogeumref12_Divides.calls kj9 a2 t197 false _ A29.out).mono ?_); rintro e w37 ⟨rfl, hb⟩; have n0_ := Aside0.mk (below_step (by repeat (first | (with_reducible first | exact HB.out | apply below_alloc | apply pw_below_drewN | apply below_drew1) | exact HB.out)) hb); clear HB; have HB := n0_; clear n0_; (try clear hb); (try clear hb2); (try clear hk); (try clear hi)))
                      go_ret
                      exact ⟨by first | rfl | (simp [errW_none, errW_some] <;> rfl) | (simp [*, errW_none, errW_some] <;> rfl), by repeat (first | (with_reducible first | exact HB.out | apply below_alloc | apply pw_below_drewN | apply below_drew1) | exact HB.out)⟩
                  · replace c28 := Bool.eq_false_iff.mpr c28
                    subst c28
                    have H1 : ((hypogeumlaw12_awake.f kj9).bind fun t207 => (some t207)) = some r := by rw [if_neg (show ¬ (false = true) by decide)] at H; exact H
                    clear H
                    have H := H1
                    clear H1
                    replace H := Option.bind_eq_some_iff.mp H
                    obtain ⟨t207, A380, H⟩ := H
                    replace H : (some t207) = some r := H
                    have A38 := Aside0.mk A380
                    clear A380
                    obtain rfl := Option.some.inj H
                    go_wp2_with (first | (go_at_call 23; (with_reducible refine (hypogeumref12_Divides.calls kj9 a2 a0 true _ A25.out).mono ?_); rintro e w39 ⟨rfl, hb⟩; have n0_ := Aside0.mk (below_step (by repeat (first | (with_reducible first | exact HB.out | apply below_alloc | apply pw_below_drewN | apply below_drew1) | exact HB.out)) hb); clear HB; have HB := n0_; clear n0_; (try clear hb); (try clear hb2); (try clear hk); (try clear hi)) | (go_at_call 23; (with_reducible refine (hypogeumref12_Divides.calls kj9 a2 a1 false _ A27.out).mono ?_); rintro e w40 ⟨rfl, hb⟩; have n0_ := Aside0.mk (below_step (by repeat (first | (with_reducible first | exact HB.out | apply below_alloc | apply pw_below_drewN | apply below_drew1) | exact HB.out)) hb); clear HB; have HB := n0_; clear n0_; (try clear hb); (try clear hb2); (try clear hk); (try clear hi)) | ((with_reducible refine gate_callee (f := 16) rfl ?_); refine goesL_ (some 61) rfl rfl Try.func16 (by kernel_rfl) rfl #[] rfl (by (try simp only [List.map_toArray, List.map_cons, List.map_nil]); first | done | rfl | (simp only [List.length_drop, List.length_take]; rfl)) ?_; (with_reducible refine (hypogeumlaw12_awake.calls kj9  t207 _ A38.out).mono ?_); rintro e w' ⟨rfl, ⟨nd, rfl⟩⟩; refine ⟨_, rfl, ?_⟩))
                    go_ret
                    exact ⟨by first | rfl | (simp [errW_none, errW_some] <;> rfl) | (simp [*, errW_none, errW_some] <;> rfl), by repeat (first | (with_reducible first | exact HB.out | apply below_alloc | apply pw_below_drewN | apply below_drew1) | exact HB.out)⟩
                · replace c26 := Bool.eq_false_iff.mpr c26
                  subst c26
                  have H1 : ((hypogeumlaw12_awake.f kj9).bind fun t208 => (some t208)) = some r := by rw [if_neg (show ¬ (false = true) by decide)] at H; exact H
                  clear H
                  have H := H1
                  clear H1
                  replace H := Option.bind_eq_some_iff.mp H
                  obtain ⟨t208, A410, H⟩ := H
                  replace H : (some t208) = some r := H
                  have A41 := Aside0.mk A410
                  clear A410
                  obtain rfl := Option.some.inj H
                  go_wp2_with (first | (go_at_call 23; (with_reducible refine (hypogeumref12_Divides.calls kj9 a2 a0 false _ A25.out).mono ?_); rintro e w42 ⟨rfl, hb⟩; have n0_ := Aside0.mk (below_step (by repeat (first | (with_reducible first | exact HB.out | apply below_alloc | apply pw_below_drewN | apply below_drew1) | exact HB.out)) hb); clear HB; have HB := n0_; clear n0_; (try clear hb); (try clear hb2); (try clear hk); (try clear hi)) | ((with_reducible refine gate_callee (f := 16) rfl ?_); refine goesL_ (some 61) rfl rfl Try.func16 (by kernel_rfl) rfl #[] rfl (by (try simp only [List.map_toArray, List.map_cons, List.map_nil]); first | done | rfl | (simp only [List.length_drop, List.length_take]; rfl)) ?_; (with_reducible refine (hypogeumlaw12_awake.calls kj9  t208 _ A41.out).mono ?_); rintro e w' ⟨rfl, ⟨nd, rfl⟩⟩; refine ⟨_, rfl, ?_⟩))
                  go_ret
                  exact ⟨by first | rfl | (simp [errW_none, errW_some] <;> rfl) | (simp [*, errW_none, errW_some] <;> rfl), by repeat (first | (with_reducible first | exact HB.out | apply below_alloc | apply pw_below_drewN | apply below_drew1) | exact HB.out)⟩

/-- THE ONE PURE STATEMENT of hypogeumlaw12_Gf2Common: yours. -/
def hypogeumlaw12_Gf2Common.Pure : Prop := ∀ (a0 : Int) (a1 : Int) (a2 : Int), (Lit.int .u64 a0).wf = true → (Lit.int .u64 a1).wf = true → (Lit.int .u64 a2).wf = true → ∃ k, hypogeumlaw12_Gf2Common.f k a0 a1 a2 = some true
theorem hypogeumlaw12_Gf2Common.walk (P : hypogeumlaw12_Gf2Common.Pure) (a0 : Int) (a1 : Int) (a2 : Int) (w : World) (w0 : (Lit.int .u64 a0).wf = true) (w1 : (Lit.int .u64 a1).wf = true) (w2 : (Lit.int .u64 a2).wf = true) :
    Calls Try.prog 6 #[.int .u64 a0, .int .u64 a1, .int .u64 a2] w fun e w' => e = .returned (.bool true) ∧ Below w.heap.size w w' := by
  obtain ⟨k, h⟩ := P a0 a1 a2 w0 w1 w2
  refine (hypogeumlaw12_Gf2Common.calls k a0 a1 a2 true w h).mono ?_
  rintro e w' ⟨rfl, hd⟩
  exact ⟨rfl, hd⟩

/-! ### hypogeumref12_Irreducible: function 25 -/
def hypogeumref12_Irreducible.l0 : Nat → Int → Int → Int → Option (Bool)
  | 0, _, _, _ => none
  | k + 1, x0, x3, x4 => (hypogeumref12_Degree.f k x4).bind fun t210 => (if (wrap64 (2 * t210)) ≤ x3 then ((hypogeumref12_Divides.f k x4 x0).bind fun t211 => (if t211 = true then (some false) else (hypogeumref12_Irreducible.l0 k x0 x3 (IntKind.u64.wrap (x4 + 1))))) else (some true))
def hypogeumref12_Irreducible.f (k : Nat) (a0 : Int) : Option (Bool) := (hypogeumref12_Degree.f k a0).bind fun t209 => (if t209 < 1 then (some false) else (hypogeumref12_Irreducible.l0 k a0 t209 2))
theorem hypogeumref12_Irreducible.mono_l : ∀ k, (∀ y0 y1 y2, LeO (hypogeumref12_Irreducible.l0 k y0 y1 y2) (hypogeumref12_Irreducible.l0 (k + 1) y0 y1 y2))
  | 0 => fun _ _ _ r h => by simp [hypogeumref12_Irreducible.l0] at h
  | k + 1 => by
    have ih0 := hypogeumref12_Irreducible.mono_l k
    · intro y0 y1 y2
      unfold hypogeumref12_Irreducible.l0
      repeat' first
      | (with_reducible exact ih0 _ _ _)
      | (with_reducible exact hypogeumref12_Degree.mono _ _)
      | (with_reducible exact hypogeumref12_Divides.mono _ _ _)
      | (with_reducible exact LeO.refl _)
      | (with_reducible exact LeO.none _)
      | (with_reducible refine LeO.ite ?_ ?_)
      | (with_reducible refine LeO.bind ?_ (fun _ => ?_))
      | exact ih0 _ _ _
      | exact hypogeumref12_Degree.mono _ _
      | exact hypogeumref12_Divides.mono _ _ _
      | exact LeO.none _
      | refine LeO.ite ?_ ?_
      | refine LeO.bind ?_ (fun _ => ?_)
theorem hypogeumref12_Irreducible.mono : ∀ a0 k, LeO (hypogeumref12_Irreducible.f k a0) (hypogeumref12_Irreducible.f (k + 1) a0) := by
  intro a0 k
  have ih0 := hypogeumref12_Irreducible.mono_l k
  unfold hypogeumref12_Irreducible.f
  repeat' first
      | (with_reducible exact ih0 _ _ _)
      | (with_reducible exact hypogeumref12_Degree.mono _ _)
      | (with_reducible exact hypogeumref12_Divides.mono _ _ _)
      | (with_reducible exact LeO.refl _)
      | (with_reducible exact LeO.none _)
      | (with_reducible refine LeO.ite ?_ ?_)
      | (with_reducible refine LeO.bind ?_ (fun _ => ?_))
      | exact ih0 _ _ _
      | exact hypogeumref12_Degree.mono _ _
      | exact hypogeumref12_Divides.mono _ _ _
      | exact LeO.none _
      | refine LeO.ite ?_ ?_
      | refine LeO.bind ?_ (fun _ => ?_)
set_option maxHeartbeats 8000000 in
set_option maxRecDepth 100000 in
theorem hypogeumref12_Irreducible.calls (k : Nat) (a0 : Int) (r : Bool) (w : World) (h : hypogeumref12_Irreducible.f k a0 = some r) :
    Calls Try.prog 25 #[.int .u64 a0] w fun e w' => e = .returned (.bool r) ∧ Below w.heap.size w w' := by
  have HB := Aside0.mk (Below.refl w.heap.size w)
  have H : ((hypogeumref12_Degree.f k a0).bind fun t209 => (if t209 < 1 then (some false) else (hypogeumref12_Irreducible.l0 k a0 t209 2))) = some r := h
  clear h
  replace H := Option.bind_eq_some_iff.mp H
  obtain ⟨t209, A20, H⟩ := H
  replace H : (if t209 < 1 then (some false) else (hypogeumref12_Irreducible.l0 k a0 t209 2)) = some r := H
  have A2 := Aside0.mk A20
  clear A20
  by_cases c3 : t209 < 1
  · rw [if_pos c3] at H
    have c3b0 : decide (t209 < 1) = true := decide_eq_true c3
    clear c3
    obtain rfl := Option.some.inj H
    go_enter Try.func25, Try.ntmps25
    go_wp2_with (first | ((with_reducible refine gate_callee (f := 15) rfl ?_); refine goesL_ (some 6) rfl rfl Try.func15 (by kernel_rfl) rfl #[.int .u64 a0] rfl (by (try simp only [List.map_toArray, List.map_cons, List.map_nil]); first | done | rfl | (simp only [List.length_drop, List.length_take]; rfl)) ?_; (with_reducible refine (hypogeumref12_Degree.calls k a0 t209 _ A2.out).mono ?_); rintro e w' ⟨rfl, ⟨nd, rfl⟩⟩; refine ⟨_, rfl, ?_⟩))
    go_ret
    exact ⟨by first | rfl | (simp [errW_none, errW_some] <;> rfl) | (simp [*, errW_none, errW_some] <;> rfl), by repeat (first | (with_reducible first | exact HB.out | apply below_alloc | apply pw_below_drewN | apply below_drew1) | exact HB.out)⟩
  · rw [if_neg c3] at H
    have c3b0 : decide (t209 < 1) = false := decide_eq_false c3
    clear c3
    have H' := Aside0.mk H
    clear H
    go_enter Try.func25, Try.ntmps25
    go_wp2_with (first | ((with_reducible refine gate_callee (f := 15) rfl ?_); refine goesL_ (some 6) rfl rfl Try.func15 (by kernel_rfl) rfl #[.int .u64 a0] rfl (by (try simp only [List.map_toArray, List.map_cons, List.map_nil]); first | done | rfl | (simp only [List.length_drop, List.length_take]; rfl)) ?_; (with_reducible refine (hypogeumref12_Degree.calls k a0 t209 _ A2.out).mono ?_); rintro e w' ⟨rfl, ⟨nd, rfl⟩⟩; refine ⟨_, rfl, ?_⟩))
    go_loopg [4] k (fun kq v4 w' => ∃ (x4_1 : Int), v4 = .int .u64 x4_1 ∧ Aside0 (hypogeumref12_Irreducible.l0 kq a0 t209 x4_1 = some r) ∧ Aside0 (kq ≤ k) ∧ Aside0 (Below w.heap.size w w'))
    case atStart => exact ⟨(2), (by first | rfl | (simp; done) | (simp [*]; done)), H', ⟨Nat.le_refl _⟩, ⟨by repeat (first | (with_reducible first | exact HB.out | apply below_alloc | apply pw_below_drewN | apply below_drew1) | exact HB.out)⟩⟩
    case round =>
      clear H'
      try clear c1
      try clear c2
      try clear p2
      try clear c3
      try clear c3b0
      obtain ⟨x4_1, rfl, HA, HK1, HB⟩ := hrel
      cases gk with
      | zero => exact absurd HA.out (by simp [hypogeumref12_Irreducible.l0])
      | succ k1 =>
        have H := HA.out
        clear HA
        simp only [hypogeumref12_Irreducible.l0] at H
        replace H := Option.bind_eq_some_iff.mp H
        obtain ⟨t210, A40, H⟩ := H
        replace H : (if (wrap64 (2 * t210)) ≤ t209 then ((hypogeumref12_Divides.f k1 x4_1 a0).bind fun t211 => (if t211 = true then (some false) else (hypogeumref12_Irreducible.l0 k1 a0 t209 (IntKind.u64.wrap (x4_1 + 1))))) else (some true)) = some r := H
        have A4 := Aside0.mk A40
        clear A40
        by_cases c5 : (wrap64 (2 * t210)) ≤ t209
        · rw [if_pos c5] at H
          have c5b0 : decide ((wrap64 (2 * t210)) ≤ t209) = true := decide_eq_true c5
          clear c5
          replace H := Option.bind_eq_some_iff.mp H
          obtain ⟨t211, A60, H⟩ := H
          replace H : (if t211 = true then (some false) else (hypogeumref12_Irreducible.l0 k1 a0 t209 (IntKind.u64.wrap (x4_1 + 1)))) = some r := H
          have A6 := Aside0.mk A60
          clear A60
          by_cases c7 : t211 = true
          · subst c7
            have H1 : (some false) = some r := by rw [if_pos rfl] at H; exact H
            clear H
            have H := H1
            clear H1
            obtain rfl := Option.some.inj H
            go_wp2_with (first | ((with_reducible refine gate_callee (f := 15) rfl ?_); refine goesL_ (some 10) rfl rfl Try.func15 (by kernel_rfl) rfl #[.int .u64 x4_1] rfl (by (try simp only [List.map_toArray, List.map_cons, List.map_nil]); first | done | rfl | (simp only [List.length_drop, List.length_take]; rfl)) ?_; (with_reducible refine (hypogeumref12_Degree.calls k1 x4_1 t210 _ A4.out).mono ?_); rintro e w' ⟨rfl, ⟨nd, rfl⟩⟩; refine ⟨_, rfl, ?_⟩) | ((with_reducible refine gate_callee (f := 23) rfl ?_); refine goesL_ (some 18) rfl rfl Try.func23 (by kernel_rfl) rfl #[.int .u64 x4_1, .int .u64 a0] rfl (by (try simp only [List.map_toArray, List.map_cons, List.map_nil]); first | done | rfl | (simp only [List.length_drop, List.length_take]; rfl)) ?_; (with_reducible refine (hypogeumref12_Divides.calls k1 x4_1 a0 true _ A6.out).mono ?_); rintro e w8 ⟨rfl, hb⟩; refine ⟨_, rfl, ?_⟩; have n0_ := Aside0.mk (below_step (by repeat (first | (with_reducible first | exact HB.out | apply below_alloc | apply pw_below_drewN | apply below_drew1) | exact HB.out)) hb); clear HB; have HB := n0_; clear n0_; (try clear hb); (try clear hb2); (try clear hk); (try clear hi)))
            go_ret
            exact ⟨by first | rfl | (simp [errW_none, errW_some] <;> rfl) | (simp [*, errW_none, errW_some] <;> rfl), by repeat (first | (with_reducible first | exact HB.out | apply below_alloc | apply pw_below_drewN | apply below_drew1) | exact HB.out)⟩
          · replace c7 := Bool.eq_false_iff.mpr c7
            subst c7
            have H1 : (hypogeumref12_Irreducible.l0 k1 a0 t209 (IntKind.u64.wrap (x4_1 + 1))) = some r := by rw [if_neg (show ¬ (false = true) by decide)] at H; exact H
            clear H
            have H := H1
            clear H1
            have H' := Aside0.mk H
            clear H
            go_wp2_with (first | ((with_reducible refine gate_callee (f := 15) rfl ?_); refine goesL_ (some 10) rfl rfl Try.func15 (by kernel_rfl) rfl #[.int .u64 x4_1] rfl (by (try simp only [List.map_toArray, List.map_cons, List.map_nil]); first | done | rfl | (simp only [List.length_drop, List.length_take]; rfl)) ?_; (with_reducible refine (hypogeumref12_Degree.calls k1 x4_1 t210 _ A4.out).mono ?_); rintro e w' ⟨rfl, ⟨nd, rfl⟩⟩; refine ⟨_, rfl, ?_⟩) | ((with_reducible refine gate_callee (f := 23) rfl ?_); refine goesL_ (some 18) rfl rfl Try.func23 (by kernel_rfl) rfl #[.int .u64 x4_1, .int .u64 a0] rfl (by (try simp only [List.map_toArray, List.map_cons, List.map_nil]); first | done | rfl | (simp only [List.length_drop, List.length_take]; rfl)) ?_; (with_reducible refine (hypogeumref12_Divides.calls k1 x4_1 a0 false _ A6.out).mono ?_); rintro e w9 ⟨rfl, hb⟩; refine ⟨_, rfl, ?_⟩; have n0_ := Aside0.mk (below_step (by repeat (first | (with_reducible first | exact HB.out | apply below_alloc | apply pw_below_drewN | apply below_drew1) | exact HB.out)) hb); clear HB; have HB := n0_; clear n0_; (try clear hb); (try clear hb2); (try clear hk); (try clear hi)))
            go_roundg k1
            case measure => have := HK1.out; omega
            case rel => exact ⟨(IntKind.u64.wrap (x4_1 + 1)), (by first | rfl | (simp; done) | (simp [*]; done)), H', ⟨by have := HK1.out; omega⟩, ⟨by repeat (first | (with_reducible first | exact HB.out | apply below_alloc | apply pw_below_drewN | apply below_drew1) | exact HB.out)⟩⟩
        · rw [if_neg c5] at H
          have c5b0 : decide ((wrap64 (2 * t210)) ≤ t209) = false := decide_eq_false c5
          clear c5
          obtain rfl := Option.some.inj H
          go_wp2_with (first | ((with_reducible refine gate_callee (f := 15) rfl ?_); refine goesL_ (some 10) rfl rfl Try.func15 (by kernel_rfl) rfl #[.int .u64 x4_1] rfl (by (try simp only [List.map_toArray, List.map_cons, List.map_nil]); first | done | rfl | (simp only [List.length_drop, List.length_take]; rfl)) ?_; (with_reducible refine (hypogeumref12_Degree.calls k1 x4_1 t210 _ A4.out).mono ?_); rintro e w' ⟨rfl, ⟨nd, rfl⟩⟩; refine ⟨_, rfl, ?_⟩))
          go_ret
          exact ⟨by first | rfl | (simp [errW_none, errW_some] <;> rfl) | (simp [*, errW_none, errW_some] <;> rfl), by repeat (first | (with_reducible first | exact HB.out | apply below_alloc | apply pw_below_drewN | apply below_drew1) | exact HB.out)⟩

/-! ### hypogeumlaw12_Gf2Prime: function 7 -/
def hypogeumlaw12_Gf2Prime.f (k : Nat) (a0 : Int) : Option (Bool) := (gf2_Irreducible.f k (Int.tmod a0 2097152)).bind fun t212 => ((hypogeumref12_Irreducible.f k (Int.tmod a0 2097152)).bind fun t213 => (if (t212 == t213) = true then ((hypogeumlaw12_awake.f k).bind fun t214 => (some t214)) else (some false)))
theorem hypogeumlaw12_Gf2Prime.mono : ∀ a0 k, LeO (hypogeumlaw12_Gf2Prime.f k a0) (hypogeumlaw12_Gf2Prime.f (k + 1) a0) := by
  intro a0 k
  unfold hypogeumlaw12_Gf2Prime.f
  repeat' first
      | (with_reducible exact gf2_Irreducible.mono _ _)
      | (with_reducible exact hypogeumlaw12_awake.mono _)
      | (with_reducible exact hypogeumref12_Irreducible.mono _ _)
      | (with_reducible exact LeO.refl _)
      | (with_reducible exact LeO.none _)
      | (with_reducible refine LeO.ite ?_ ?_)
      | (with_reducible refine LeO.bind ?_ (fun _ => ?_))
      | exact gf2_Irreducible.mono _ _
      | exact hypogeumlaw12_awake.mono _
      | exact hypogeumref12_Irreducible.mono _ _
      | exact LeO.none _
      | refine LeO.ite ?_ ?_
      | refine LeO.bind ?_ (fun _ => ?_)
set_option maxHeartbeats 8000000 in
set_option maxRecDepth 100000 in
theorem hypogeumlaw12_Gf2Prime.calls (k : Nat) (a0 : Int) (r : Bool) (w : World) (h : hypogeumlaw12_Gf2Prime.f k a0 = some r) :
    Calls Try.prog 7 #[.int .u64 a0] w fun e w' => e = .returned (.bool r) ∧ Below w.heap.size w w' := by
  have HB := Aside0.mk (Below.refl w.heap.size w)
  have H : ((gf2_Irreducible.f k (Int.tmod a0 2097152)).bind fun t212 => ((hypogeumref12_Irreducible.f k (Int.tmod a0 2097152)).bind fun t213 => (if (t212 == t213) = true then ((hypogeumlaw12_awake.f k).bind fun t214 => (some t214)) else (some false)))) = some r := h
  clear h
  replace H := Option.bind_eq_some_iff.mp H
  obtain ⟨t212, A20, H⟩ := H
  replace H : ((hypogeumref12_Irreducible.f k (Int.tmod a0 2097152)).bind fun t213 => (if (t212 == t213) = true then ((hypogeumlaw12_awake.f k).bind fun t214 => (some t214)) else (some false))) = some r := H
  have A2 := Aside0.mk A20
  clear A20
  replace H := Option.bind_eq_some_iff.mp H
  obtain ⟨t213, A30, H⟩ := H
  replace H : (if (t212 == t213) = true then ((hypogeumlaw12_awake.f k).bind fun t214 => (some t214)) else (some false)) = some r := H
  have A3 := Aside0.mk A30
  clear A30
  by_cases c4 : (t212 == t213) = true
  · rw [if_pos c4] at H
    have c4b0 : (t212 == t213) = true := c4
    (try (have c4b1 : decide (t212 = t213) = true := by simpa using c4))
    (try (have c4b2 : (t212 == t213) = true := by simpa using c4))
    clear c4
    replace H := Option.bind_eq_some_iff.mp H
    obtain ⟨t214, A50, H⟩ := H
    replace H : (some t214) = some r := H
    have A5 := Aside0.mk A50
    clear A50
    obtain rfl := Option.some.inj H
    go_enter Try.func7, Try.ntmps7
    go_wp2_with (first | ((with_reducible refine gate_callee (f := 24) rfl ?_); refine goesL_ (some 6) rfl rfl Try.func24 (by kernel_rfl) rfl #[.int .u64 (Int.tmod a0 2097152)] rfl (by (try simp only [List.map_toArray, List.map_cons, List.map_nil]); first | done | rfl | (simp only [List.length_drop, List.length_take]; rfl)) ?_; (with_reducible refine (gf2_Irreducible.calls k (Int.tmod a0 2097152) t212 _ A2.out).mono ?_); rintro e w' ⟨rfl, ⟨nd, rfl⟩⟩; refine ⟨_, rfl, ?_⟩) | ((with_reducible refine gate_callee (f := 25) rfl ?_); refine goesL_ (some 8) rfl rfl Try.func25 (by kernel_rfl) rfl #[.int .u64 (Int.tmod a0 2097152)] rfl (by (try simp only [List.map_toArray, List.map_cons, List.map_nil]); first | done | rfl | (simp only [List.length_drop, List.length_take]; rfl)) ?_; (with_reducible refine (hypogeumref12_Irreducible.calls k (Int.tmod a0 2097152) t213 _ A3.out).mono ?_); rintro e w6 ⟨rfl, hb⟩; refine ⟨_, rfl, ?_⟩; have n0_ := Aside0.mk (below_step (by repeat (first | (with_reducible first | exact HB.out | apply below_alloc | apply pw_below_drewN | apply below_drew1) | exact HB.out)) hb); clear HB; have HB := n0_; clear n0_; (try clear hb); (try clear hb2); (try clear hk); (try clear hi)) | (go_at_call 16; (with_reducible refine (hypogeumlaw12_awake.calls k  t214 _ A5.out).mono ?_); rintro e w' ⟨rfl, ⟨nd, rfl⟩⟩))
    go_ret
    exact ⟨by first | rfl | (simp [errW_none, errW_some] <;> rfl) | (simp [*, errW_none, errW_some] <;> rfl), by repeat (first | (with_reducible first | exact HB.out | apply below_alloc | apply pw_below_drewN | apply below_drew1) | exact HB.out)⟩
  · rw [if_neg c4] at H
    have c4b0 : (t212 == t213) = false := by simpa using c4
    (try (have c4b1 : decide (t212 = t213) = false := by simpa using c4))
    (try (have c4b2 : (t212 == t213) = false := by simpa using c4))
    (try (have c4b3 : ¬ (t212 = t213) := by simpa using c4))
    clear c4
    obtain rfl := Option.some.inj H
    go_enter Try.func7, Try.ntmps7
    go_wp2_with (first | ((with_reducible refine gate_callee (f := 24) rfl ?_); refine goesL_ (some 6) rfl rfl Try.func24 (by kernel_rfl) rfl #[.int .u64 (Int.tmod a0 2097152)] rfl (by (try simp only [List.map_toArray, List.map_cons, List.map_nil]); first | done | rfl | (simp only [List.length_drop, List.length_take]; rfl)) ?_; (with_reducible refine (gf2_Irreducible.calls k (Int.tmod a0 2097152) t212 _ A2.out).mono ?_); rintro e w' ⟨rfl, ⟨nd, rfl⟩⟩; refine ⟨_, rfl, ?_⟩) | ((with_reducible refine gate_callee (f := 25) rfl ?_); refine goesL_ (some 8) rfl rfl Try.func25 (by kernel_rfl) rfl #[.int .u64 (Int.tmod a0 2097152)] rfl (by (try simp only [List.map_toArray, List.map_cons, List.map_nil]); first | done | rfl | (simp only [List.length_drop, List.length_take]; rfl)) ?_; (with_reducible refine (hypogeumref12_Irreducible.calls k (Int.tmod a0 2097152) t213 _ A3.out).mono ?_); rintro e w7 ⟨rfl, hb⟩; refine ⟨_, rfl, ?_⟩; have n0_ := Aside0.mk (below_step (by repeat (first | (with_reducible first | exact HB.out | apply below_alloc | apply pw_below_drewN | apply below_drew1) | exact HB.out)) hb); clear HB; have HB := n0_; clear n0_; (try clear hb); (try clear hb2); (try clear hk); (try clear hi)))
    go_ret
    exact ⟨by first | rfl | (simp [errW_none, errW_some] <;> rfl) | (simp [*, errW_none, errW_some] <;> rfl), by repeat (first | (with_reducible first | exact HB.out | apply below_alloc | apply pw_below_drewN | apply below_drew1) | exact HB.out)⟩

/-- THE ONE PURE STATEMENT of hypogeumlaw12_Gf2Prime: yours. -/
def hypogeumlaw12_Gf2Prime.Pure : Prop := ∀ (a0 : Int), (Lit.int .u64 a0).wf = true → ∃ k, hypogeumlaw12_Gf2Prime.f k a0 = some true
theorem hypogeumlaw12_Gf2Prime.walk (P : hypogeumlaw12_Gf2Prime.Pure) (a0 : Int) (w : World) (w0 : (Lit.int .u64 a0).wf = true) :
    Calls Try.prog 7 #[.int .u64 a0] w fun e w' => e = .returned (.bool true) ∧ Below w.heap.size w w' := by
  obtain ⟨k, h⟩ := P a0 w0
  refine (hypogeumlaw12_Gf2Prime.calls k a0 true w h).mono ?_
  rintro e w' ⟨rfl, hd⟩
  exact ⟨rfl, hd⟩

end Go.Proofs.Ytgkkimonpfhbdaa.A
