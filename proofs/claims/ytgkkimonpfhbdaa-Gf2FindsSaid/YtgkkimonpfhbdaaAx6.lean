-- Written by this session's own program (wip/tools/printx.py, over the kit's printer), with texts by hand laid in.
import Derived.Test.YtgkkimonpfhbdaaAx0
import Derived.Test.YtgkkimonpfhbdaaAx1
import Derived.Test.YtgkkimonpfhbdaaAx2
import Derived.Test.YtgkkimonpfhbdaaAx5
namespace Go.Proofs.Ytgkkimonpfhbdaa.A
open Go.RowKit Go.Proofs.YtgkkimonpfhbdaaW.PrintWords Go.Proofs.YtgkkimonpfhbdaaW.PrintLast Go.Proofs.YtgkkimonpfhbdaaW.PrintMore
attribute [local go_sem] max2_int min2_int max_two min_two max_three min_three max_four min_four   -- for this text's walks alone
set_option linter.unusedVariables false
set_option linter.unusedSimpArgs false

/-! ### hypogeumref12_Find: function 27 -/
mutual
def hypogeumref12_Find.j0 : Nat → Int → Int → Bool → Option (Int × Int)
  | 0, _, _, _ => none
  | k + 1, x0, x1, x14 => if x14 = true then (some (0, 6)) else (hypogeumref12_Find.l0 k x0 x1 1 1)
def hypogeumref12_Find.l0 : Nat → Int → Int → Int → Int → Option (Int × Int)
  | 0, _, _, _, _ => none
  | k + 1, x0, x1, x6, x7 => if x7 < x1 then (hypogeumref12_Find.l0 k x0 x1 (IntKind.u64.wrap (x6 * 2)) (wrap64 (x7 + 1))) else (if x6 = 0 then (none) else (hypogeumref12_Find.l1 k x6 (Int.tmod x0 x6)))
def hypogeumref12_Find.l1 : Nat → Int → Int → Option (Int × Int)
  | 0, _, _ => none
  | k + 1, x6, x8 => (hypogeumref12_Irreducible.f k (IntKind.u64.wrap ((IntKind.u64.wrap ((IntKind.u64.wrap (2 * x6)) + (IntKind.u64.wrap (2 * x8)))) + 1))).bind fun t215 => (if t215 = true then (some (IntKind.u64.wrap ((IntKind.u64.wrap ((IntKind.u64.wrap (2 * x6)) + (IntKind.u64.wrap (2 * x8)))) + 1), 0)) else (if x6 = 0 then (none) else (hypogeumref12_Find.l1 k x6 (Int.tmod (IntKind.u64.wrap (x8 + 1)) x6))))
end
def hypogeumref12_Find.f (k : Nat) (a0 : Int) (a1 : Int) : Option (Int × Int) := if a1 < 2 then (hypogeumref12_Find.j0 k a0 a1 true) else (hypogeumref12_Find.j0 k a0 a1 (decide (a1 > 53)))
theorem hypogeumref12_Find.mono_l : ∀ k, (∀ y0 y1 y2, LeO (hypogeumref12_Find.j0 k y0 y1 y2) (hypogeumref12_Find.j0 (k + 1) y0 y1 y2)) ∧ (∀ y0 y1 y2 y3, LeO (hypogeumref12_Find.l0 k y0 y1 y2 y3) (hypogeumref12_Find.l0 (k + 1) y0 y1 y2 y3)) ∧ (∀ y0 y1, LeO (hypogeumref12_Find.l1 k y0 y1) (hypogeumref12_Find.l1 (k + 1) y0 y1))
  | 0 => ⟨fun _ _ _ r h => by simp [hypogeumref12_Find.j0] at h, fun _ _ _ _ r h => by simp [hypogeumref12_Find.l0] at h, fun _ _ r h => by simp [hypogeumref12_Find.l1] at h⟩
  | k + 1 => by
    obtain ⟨ih0, ih1, ih2⟩ := hypogeumref12_Find.mono_l k
    refine ⟨?_, ?_, ?_⟩
    · intro y0 y1 y2
      unfold hypogeumref12_Find.j0
      repeat' first
      | (with_reducible exact ih0 _ _ _)
      | (with_reducible exact ih1 _ _ _ _)
      | (with_reducible exact ih2 _ _)
      | (with_reducible exact hypogeumref12_Irreducible.mono _ _)
      | (with_reducible exact LeO.refl _)
      | (with_reducible exact LeO.none _)
      | (with_reducible refine LeO.ite ?_ ?_)
      | (with_reducible refine LeO.bind ?_ (fun _ => ?_))
      | exact ih0 _ _ _
      | exact ih1 _ _ _ _
      | exact ih2 _ _
      | exact hypogeumref12_Irreducible.mono _ _
      | exact LeO.none _
      | refine LeO.ite ?_ ?_
      | refine LeO.bind ?_ (fun _ => ?_)
    · intro y0 y1 y2 y3
      unfold hypogeumref12_Find.l0
      repeat' first
      | (with_reducible exact ih0 _ _ _)
      | (with_reducible exact ih1 _ _ _ _)
      | (with_reducible exact ih2 _ _)
      | (with_reducible exact hypogeumref12_Irreducible.mono _ _)
      | (with_reducible exact LeO.refl _)
      | (with_reducible exact LeO.none _)
      | (with_reducible refine LeO.ite ?_ ?_)
      | (with_reducible refine LeO.bind ?_ (fun _ => ?_))
      | exact ih0 _ _ _
      | exact ih1 _ _ _ _
      | exact ih2 _ _
      | exact hypogeumref12_Irreducible.mono _ _
      | exact LeO.none _
      | refine LeO.ite ?_ ?_
      | refine LeO.bind ?_ (fun _ => ?_)
    · intro y0 y1
      unfold hypogeumref12_Find.l1
      repeat' first
      | (with_reducible exact ih0 _ _ _)
      | (with_reducible exact ih1 _ _ _ _)
      | (with_reducible exact ih2 _ _)
      | (with_reducible exact hypogeumref12_Irreducible.mono _ _)
      | (with_reducible exact LeO.refl _)
      | (with_reducible exact LeO.none _)
      | (with_reducible refine LeO.ite ?_ ?_)
      | (with_reducible refine LeO.bind ?_ (fun _ => ?_))
      | exact ih0 _ _ _
      | exact ih1 _ _ _ _
      | exact ih2 _ _
      | exact hypogeumref12_Irreducible.mono _ _
      | exact LeO.none _
      | refine LeO.ite ?_ ?_
      | refine LeO.bind ?_ (fun _ => ?_)
theorem hypogeumref12_Find.mono : ∀ a0 a1 k, LeO (hypogeumref12_Find.f k a0 a1) (hypogeumref12_Find.f (k + 1) a0 a1) := by
  intro a0 a1 k
  obtain ⟨ih0, ih1, ih2⟩ := hypogeumref12_Find.mono_l k
  unfold hypogeumref12_Find.f
  repeat' first
      | (with_reducible exact ih0 _ _ _)
      | (with_reducible exact ih1 _ _ _ _)
      | (with_reducible exact ih2 _ _)
      | (with_reducible exact hypogeumref12_Irreducible.mono _ _)
      | (with_reducible exact LeO.refl _)
      | (with_reducible exact LeO.none _)
      | (with_reducible refine LeO.ite ?_ ?_)
      | (with_reducible refine LeO.bind ?_ (fun _ => ?_))
      | exact ih0 _ _ _
      | exact ih1 _ _ _ _
      | exact ih2 _ _
      | exact hypogeumref12_Irreducible.mono _ _
      | exact LeO.none _
      | refine LeO.ite ?_ ?_
      | refine LeO.bind ?_ (fun _ => ?_)
set_option maxHeartbeats 8000000 in
set_option maxRecDepth 100000 in
theorem hypogeumref12_Find.calls (k : Nat) (a0 : Int) (a1 : Int) (r1 : Int) (r2 : Int) (w : World) (h : hypogeumref12_Find.f k a0 a1 = some (r1, r2)) :
    Calls Try.prog 27 #[.int .u64 a0, .int .i64 a1] w fun e w' => e = .returned (.tuple #[.int .u64 r1, .int .i64 r2]) ∧ Below w.heap.size w w' := by
  have HB := Aside0.mk (Below.refl w.heap.size w)
  have H : (if a1 < 2 then (hypogeumref12_Find.j0 k a0 a1 true) else (hypogeumref12_Find.j0 k a0 a1 (decide (a1 > 53)))) = some (r1, r2) := h
  clear h
  have HC3 := Aside0.mk H
  clear H
  go_enter Try.func27, Try.ntmps27
  go_upto_region 1 with (fail)
  go_cut [14] (fun v14 wc => ∃ (kq : Nat) (x14_2 : Bool), v14 = .bool x14_2 ∧ Aside0 (hypogeumref12_Find.j0 kq a0 a1 x14_2 = some (r1, r2)) ∧ Aside0 (kq ≤ k) ∧ Aside0 (Below w.heap.size w wc))
  case first =>
    have H := HC3.out
    clear HC3
    by_cases c4 : a1 < 2
    · rw [if_pos c4] at H
      have c4b0 : decide (a1 < 2) = true := decide_eq_true c4
      clear c4
      (first | rw [c4b0] | (simp only [i64_w, i32_w]; rw [c4b0]) | skip)
      have H' := Aside0.mk H
      clear H
      go_wp2
      go_meet
      case rel => exact ⟨_, (true), (by first | rfl | (simp; done) | (simp [*]; done)), H', ⟨by first | omega | exact Nat.le_refl _⟩, ⟨by repeat (first | (with_reducible first | exact HB.out | apply below_alloc | apply pw_below_drewN | apply below_drew1) | exact HB.out)⟩⟩
    · rw [if_neg c4] at H
      have c4b0 : decide (a1 < 2) = false := decide_eq_false c4
      clear c4
      (first | rw [c4b0] | (simp only [i64_w, i32_w]; rw [c4b0]) | skip)
      have H' := Aside0.mk H
      clear H
      go_wp2
      go_meet
      case rel => exact ⟨_, (decide (a1 > 53)), (by first | rfl | (simp; done) | (simp [*]; done)), H', ⟨by first | omega | exact Nat.le_refl _⟩, ⟨by repeat (first | (with_reducible first | exact HB.out | apply below_alloc | apply pw_below_drewN | apply below_drew1) | exact HB.out)⟩⟩
  case rest =>
    clear HC3
    try clear c2
    try clear p2
    try clear c4
    try clear c4b0
    obtain ⟨kq, x14_2, rfl, HA, HJ2, HB⟩ := hcut
    cases kq with
    | zero => exact absurd HA.out (by simp [hypogeumref12_Find.j0])
    | succ kj2 =>
      have H := HA.out
      clear HA
      simp only [hypogeumref12_Find.j0] at H
      by_cases c5 : x14_2 = true
      · subst c5
        have H1 : (some (0, 6)) = some (r1, r2) := by rw [if_pos rfl] at H; exact H
        clear H
        have H := H1
        clear H1
        simp only [Option.some.injEq, Prod.mk.injEq] at H
        obtain ⟨rfl, rfl⟩ := H
        go_wp2
        go_ret2
        exact ⟨by first | rfl | (simp [errW_none, errW_some] <;> rfl) | (simp [*, errW_none, errW_some] <;> rfl), by repeat (first | (with_reducible first | exact HB.out | apply below_alloc | apply pw_below_drewN | apply below_drew1) | exact HB.out)⟩
      · replace c5 := Bool.eq_false_iff.mpr c5
        subst c5
        have H1 : (hypogeumref12_Find.l0 kj2 a0 a1 1 1) = some (r1, r2) := by rw [if_neg (show ¬ (false = true) by decide)] at H; exact H
        clear H
        have H := H1
        clear H1
        have H' := Aside0.mk H
        clear H
        go_wp2
        go_loopg [6, 7] kj2 (fun kq v6 v7 w' => ∃ (x6_2 : Int) (x7_2 : Int), v6 = .int .u64 x6_2 ∧ v7 = .int .i64 x7_2 ∧ Aside0 (hypogeumref12_Find.l0 kq a0 a1 x6_2 x7_2 = some (r1, r2)) ∧ Aside0 (kq ≤ kj2) ∧ Aside0 (Below w.heap.size w w'))
        case atStart => exact ⟨(1), (1), (by first | rfl | (simp; done) | (simp [*]; done)), (by first | rfl | (simp; done) | (simp [*]; done)), H', ⟨Nat.le_refl _⟩, ⟨by repeat (first | (with_reducible first | exact HB.out | apply below_alloc | apply pw_below_drewN | apply below_drew1) | exact HB.out)⟩⟩
        case round =>
          clear H'
          try clear c2
          try clear p2
          try clear c4
          try clear c4b0
          try clear c5
          try clear p2
          obtain ⟨x6_2, x7_2, rfl, rfl, HA, HK2, HB⟩ := hrel
          cases gk with
          | zero => exact absurd HA.out (by simp [hypogeumref12_Find.l0])
          | succ k2 =>
            have H := HA.out
            clear HA
            simp only [hypogeumref12_Find.l0] at H
            by_cases c6 : x7_2 < a1
            · rw [if_pos c6] at H
              have c6b0 : decide (x7_2 < a1) = true := decide_eq_true c6
              clear c6
              have H' := Aside0.mk H
              clear H
              go_wp2
              go_roundg k2
              case measure => have := HJ2.out; have := HK2.out; omega
              case rel => exact ⟨(IntKind.u64.wrap (x6_2 * 2)), (wrap64 (x7_2 + 1)), (by first | rfl | (simp; done) | (simp [*]; done)), (by first | rfl | (simp; done) | (simp [*]; done)), H', ⟨by have := HJ2.out; have := HK2.out; omega⟩, ⟨by repeat (first | (with_reducible first | exact HB.out | apply below_alloc | apply pw_below_drewN | apply below_drew1) | exact HB.out)⟩⟩
            · rw [if_neg c6] at H
              have c6b0 : decide (x7_2 < a1) = false := decide_eq_false c6
              clear c6
              by_cases c7 : x6_2 = 0
              · rw [if_pos c7] at H
                exact absurd H (by simp)
              · rw [if_neg c7] at H
                have c7b0 : (x6_2 == 0) = false := beq_eq_false_iff_ne.mpr c7
                have c7b1 : (x6_2 != 0) = true := bne_iff_ne.mpr c7
                have H' := Aside0.mk H
                clear H
                go_wp2
                go_loopg [8] k2 (fun kq v8 w' => ∃ (x8_3 : Int), v8 = .int .u64 x8_3 ∧ Aside0 (hypogeumref12_Find.l1 kq x6_2 x8_3 = some (r1, r2)) ∧ Aside0 (kq ≤ k2) ∧ Aside0 (Below w.heap.size w w'))
                case atStart => exact ⟨(Int.tmod a0 x6_2), (by first | rfl | (simp; done) | (simp [*]; done)), H', ⟨Nat.le_refl _⟩, ⟨by repeat (first | (with_reducible first | exact HB.out | apply below_alloc | apply pw_below_drewN | apply below_drew1) | exact HB.out)⟩⟩
                case round =>
                  clear H'
                  try clear c2
                  try clear p2
                  try clear c4
                  try clear c4b0
                  try clear c5
                  try clear c6
                  try clear c6b0
                  try clear p6
                  try clear c7
                  try clear c7b0
                  try clear c7b1
                  try clear p2
                  obtain ⟨x8_3, rfl, HA, HK3, HB⟩ := hrel
                  cases gk with
                  | zero => exact absurd HA.out (by simp [hypogeumref12_Find.l1])
                  | succ k3 =>
                    have H := HA.out
                    clear HA
                    simp only [hypogeumref12_Find.l1] at H
                    replace H := Option.bind_eq_some_iff.mp H
                    obtain ⟨t215, A80, H⟩ := H
                    replace H : (if t215 = true then (some (IntKind.u64.wrap ((IntKind.u64.wrap ((IntKind.u64.wrap (2 * x6_2)) + (IntKind.u64.wrap (2 * x8_3)))) + 1), 0)) else (if x6_2 = 0 then (none) else (hypogeumref12_Find.l1 k3 x6_2 (Int.tmod (IntKind.u64.wrap (x8_3 + 1)) x6_2)))) = some (r1, r2) := H
                    have A8 := Aside0.mk A80
                    clear A80
                    by_cases c9 : t215 = true
                    · subst c9
                      have H1 : (some (IntKind.u64.wrap ((IntKind.u64.wrap ((IntKind.u64.wrap (2 * x6_2)) + (IntKind.u64.wrap (2 * x8_3)))) + 1), 0)) = some (r1, r2) := by rw [if_pos rfl] at H; exact H
                      clear H
                      have H := H1
                      clear H1
                      simp only [Option.some.injEq, Prod.mk.injEq] at H
                      obtain ⟨rfl, rfl⟩ := H
                      go_wp2_with (first | ((with_reducible refine gate_callee (f := 25) rfl ?_); refine goesL_ (some 31) rfl rfl Try.func25 (by kernel_rfl) rfl #[.int .u64 (IntKind.u64.wrap ((IntKind.u64.wrap ((IntKind.u64.wrap (2 * x6_2)) + (IntKind.u64.wrap (2 * x8_3)))) + 1))] rfl (by (try simp only [List.map_toArray, List.map_cons, List.map_nil]); first | done | rfl | (simp only [List.length_drop, List.length_take]; rfl)) ?_; (with_reducible refine (hypogeumref12_Irreducible.calls k3 (IntKind.u64.wrap ((IntKind.u64.wrap ((IntKind.u64.wrap (2 * x6_2)) + (IntKind.u64.wrap (2 * x8_3)))) + 1)) true _ A8.out).mono ?_); rintro e w10 ⟨rfl, hb⟩; refine ⟨_, rfl, ?_⟩; have n0_ := Aside0.mk (below_step (by repeat (first | (with_reducible first | exact HB.out | apply below_alloc | apply pw_below_drewN | apply below_drew1) | exact HB.out)) hb); clear HB; have HB := n0_; clear n0_; (try clear hb); (try clear hb2); (try clear hk); (try clear hi)))
                      go_ret2
                      exact ⟨by first | rfl | (simp [errW_none, errW_some] <;> rfl) | (simp [*, errW_none, errW_some] <;> rfl), by repeat (first | (with_reducible first | exact HB.out | apply below_alloc | apply pw_below_drewN | apply below_drew1) | exact HB.out)⟩
                    · replace c9 := Bool.eq_false_iff.mpr c9
                      subst c9
                      have H1 : (if x6_2 = 0 then (none) else (hypogeumref12_Find.l1 k3 x6_2 (Int.tmod (IntKind.u64.wrap (x8_3 + 1)) x6_2))) = some (r1, r2) := by rw [if_neg (show ¬ (false = true) by decide)] at H; exact H
                      clear H
                      have H := H1
                      clear H1
                      by_cases c11 : x6_2 = 0
                      · rw [if_pos c11] at H
                        exact absurd H (by simp)
                      · rw [if_neg c11] at H
                        have c11b0 : (x6_2 == 0) = false := beq_eq_false_iff_ne.mpr c11
                        have c11b1 : (x6_2 != 0) = true := bne_iff_ne.mpr c11
                        have H' := Aside0.mk H
                        clear H
                        go_wp2_with (first | ((with_reducible refine gate_callee (f := 25) rfl ?_); refine goesL_ (some 31) rfl rfl Try.func25 (by kernel_rfl) rfl #[.int .u64 (IntKind.u64.wrap ((IntKind.u64.wrap ((IntKind.u64.wrap (2 * x6_2)) + (IntKind.u64.wrap (2 * x8_3)))) + 1))] rfl (by (try simp only [List.map_toArray, List.map_cons, List.map_nil]); first | done | rfl | (simp only [List.length_drop, List.length_take]; rfl)) ?_; (with_reducible refine (hypogeumref12_Irreducible.calls k3 (IntKind.u64.wrap ((IntKind.u64.wrap ((IntKind.u64.wrap (2 * x6_2)) + (IntKind.u64.wrap (2 * x8_3)))) + 1)) false _ A8.out).mono ?_); rintro e w12 ⟨rfl, hb⟩; refine ⟨_, rfl, ?_⟩; have n0_ := Aside0.mk (below_step (by repeat (first | (with_reducible first | exact HB.out | apply below_alloc | apply pw_below_drewN | apply below_drew1) | exact HB.out)) hb); clear HB; have HB := n0_; clear n0_; (try clear hb); (try clear hb2); (try clear hk); (try clear hi)))
                        go_roundg k3
                        case measure => have := HJ2.out; have := HK2.out; have := HK3.out; omega
                        case rel => exact ⟨(Int.tmod (IntKind.u64.wrap (x8_3 + 1)) x6_2), (by first | rfl | (simp; done) | (simp [*]; done)), H', ⟨by have := HJ2.out; have := HK2.out; have := HK3.out; omega⟩, ⟨by repeat (first | (with_reducible first | exact HB.out | apply below_alloc | apply pw_below_drewN | apply below_drew1) | exact HB.out)⟩⟩

/-! ### hypogeumlaw12_Gf2Finds: function 8 -/
def hypogeumlaw12_Gf2Finds.j0 : Nat → Int → Int → Bool → Option (Bool)
  | 0, _, _, _ => none
  | k + 1, x0, x1, x14 => if x14 = true then ((hypogeumlaw12_awake.f k).bind fun t216 => (some t216)) else ((gf2_Find.f k x0 x1).bind fun bt217 => ((hypogeumref12_Find.f k x0 x1).bind fun bt219 => (if bt217.1 = bt219.1 then (if bt217.2 = bt219.2 then ((hypogeumlaw12_awake.f k).bind fun t221 => (some t221)) else (some false)) else (some false))))
def hypogeumlaw12_Gf2Finds.f (k : Nat) (a0 : Int) (a1 : Int) : Option (Bool) := if a1 > 14 then (hypogeumlaw12_Gf2Finds.j0 k a0 a1 (decide (a1 ≤ 53))) else (hypogeumlaw12_Gf2Finds.j0 k a0 a1 false)
theorem hypogeumlaw12_Gf2Finds.mono_l : ∀ k, (∀ y0 y1 y2, LeO (hypogeumlaw12_Gf2Finds.j0 k y0 y1 y2) (hypogeumlaw12_Gf2Finds.j0 (k + 1) y0 y1 y2))
  | 0 => fun _ _ _ r h => by simp [hypogeumlaw12_Gf2Finds.j0] at h
  | k + 1 => by
    have ih0 := hypogeumlaw12_Gf2Finds.mono_l k
    · intro y0 y1 y2
      unfold hypogeumlaw12_Gf2Finds.j0
      repeat' first
      | (with_reducible exact ih0 _ _ _)
      | (with_reducible exact gf2_Find.mono _ _ _)
      | (with_reducible exact hypogeumlaw12_awake.mono _)
      | (with_reducible exact hypogeumref12_Find.mono _ _ _)
      | (with_reducible exact LeO.refl _)
      | (with_reducible exact LeO.none _)
      | (with_reducible refine LeO.ite ?_ ?_)
      | (with_reducible refine LeO.bind ?_ (fun _ => ?_))
      | exact ih0 _ _ _
      | exact gf2_Find.mono _ _ _
      | exact hypogeumlaw12_awake.mono _
      | exact hypogeumref12_Find.mono _ _ _
      | exact LeO.none _
      | refine LeO.ite ?_ ?_
      | refine LeO.bind ?_ (fun _ => ?_)
theorem hypogeumlaw12_Gf2Finds.mono : ∀ a0 a1 k, LeO (hypogeumlaw12_Gf2Finds.f k a0 a1) (hypogeumlaw12_Gf2Finds.f (k + 1) a0 a1) := by
  intro a0 a1 k
  have ih0 := hypogeumlaw12_Gf2Finds.mono_l k
  unfold hypogeumlaw12_Gf2Finds.f
  repeat' first
      | (with_reducible exact ih0 _ _ _)
      | (with_reducible exact gf2_Find.mono _ _ _)
      | (with_reducible exact hypogeumlaw12_awake.mono _)
      | (with_reducible exact hypogeumref12_Find.mono _ _ _)
      | (with_reducible exact LeO.refl _)
      | (with_reducible exact LeO.none _)
      | (with_reducible refine LeO.ite ?_ ?_)
      | (with_reducible refine LeO.bind ?_ (fun _ => ?_))
      | exact ih0 _ _ _
      | exact gf2_Find.mono _ _ _
      | exact hypogeumlaw12_awake.mono _
      | exact hypogeumref12_Find.mono _ _ _
      | exact LeO.none _
      | refine LeO.ite ?_ ?_
      | refine LeO.bind ?_ (fun _ => ?_)
set_option maxHeartbeats 8000000 in
set_option maxRecDepth 100000 in
theorem hypogeumlaw12_Gf2Finds.calls (k : Nat) (a0 : Int) (a1 : Int) (r : Bool) (w : World) (h : hypogeumlaw12_Gf2Finds.f k a0 a1 = some r) :
    Calls Try.prog 8 #[.int .u64 a0, .int .i64 a1] w fun e w' => e = .returned (.bool r) ∧ Below w.heap.size w w' := by
  have HB := Aside0.mk (Below.refl w.heap.size w)
  have H : (if a1 > 14 then (hypogeumlaw12_Gf2Finds.j0 k a0 a1 (decide (a1 ≤ 53))) else (hypogeumlaw12_Gf2Finds.j0 k a0 a1 false)) = some r := h
  clear h
  have HC3 := Aside0.mk H
  clear H
  go_enter Try.func8, Try.ntmps8
  go_upto_region 1 with (fail)
  go_cut [14] (fun v14 wc => ∃ (kq : Nat) (x14_2 : Bool), v14 = .bool x14_2 ∧ Aside0 (hypogeumlaw12_Gf2Finds.j0 kq a0 a1 x14_2 = some r) ∧ Aside0 (kq ≤ k) ∧ Aside0 (Below w.heap.size w wc))
  case first =>
    have H := HC3.out
    clear HC3
    by_cases c4 : a1 > 14
    · rw [if_pos c4] at H
      have c4b0 : decide (14 < a1) = true := decide_eq_true c4
      clear c4
      (first | rw [c4b0] | (simp only [i64_w, i32_w]; rw [c4b0]) | skip)
      have H' := Aside0.mk H
      clear H
      go_wp2
      go_meet
      case rel => exact ⟨_, (decide (a1 ≤ 53)), (by first | rfl | (simp; done) | (simp [*]; done)), H', ⟨by first | omega | exact Nat.le_refl _⟩, ⟨by repeat (first | (with_reducible first | exact HB.out | apply below_alloc | apply pw_below_drewN | apply below_drew1) | exact HB.out)⟩⟩
    · rw [if_neg c4] at H
      have c4b0 : decide (14 < a1) = false := decide_eq_false c4
      clear c4
      (first | rw [c4b0] | (simp only [i64_w, i32_w]; rw [c4b0]) | skip)
      have H' := Aside0.mk H
      clear H
      go_wp2
      go_meet
      case rel => exact ⟨_, (false), (by first | rfl | (simp; done) | (simp [*]; done)), H', ⟨by first | omega | exact Nat.le_refl _⟩, ⟨by repeat (first | (with_reducible first | exact HB.out | apply below_alloc | apply pw_below_drewN | apply below_drew1) | exact HB.out)⟩⟩
  case rest =>
    clear HC3
    try clear p2
    try clear c4
    try clear c4b0
    obtain ⟨kq, x14_2, rfl, HA, HJ2, HB⟩ := hcut
    cases kq with
    | zero => exact absurd HA.out (by simp [hypogeumlaw12_Gf2Finds.j0])
    | succ kj2 =>
      have H := HA.out
      clear HA
      simp only [hypogeumlaw12_Gf2Finds.j0] at H
      by_cases c5 : x14_2 = true
      · subst c5
        have H1 : ((hypogeumlaw12_awake.f kj2).bind fun t216 => (some t216)) = some r := by rw [if_pos rfl] at H; exact H
        clear H
        have H := H1
        clear H1
        replace H := Option.bind_eq_some_iff.mp H
        obtain ⟨t216, A60, H⟩ := H
        replace H : (some t216) = some r := H
        have A6 := Aside0.mk A60
        clear A60
        obtain rfl := Option.some.inj H
        go_wp2_with (first | ((with_reducible refine gate_callee (f := 16) rfl ?_); refine goesL_ (some 15) rfl rfl Try.func16 (by kernel_rfl) rfl #[] rfl (by (try simp only [List.map_toArray, List.map_cons, List.map_nil]); first | done | rfl | (simp only [List.length_drop, List.length_take]; rfl)) ?_; (with_reducible refine (hypogeumlaw12_awake.calls kj2  t216 _ A6.out).mono ?_); rintro e w' ⟨rfl, ⟨nd, rfl⟩⟩; refine ⟨_, rfl, ?_⟩))
        go_ret
        exact ⟨by first | rfl | (simp [errW_none, errW_some] <;> rfl) | (simp [*, errW_none, errW_some] <;> rfl), by repeat (first | (with_reducible first | exact HB.out | apply below_alloc | apply pw_below_drewN | apply below_drew1) | exact HB.out)⟩
      · replace c5 := Bool.eq_false_iff.mpr c5
        subst c5
        have H1 : ((gf2_Find.f kj2 a0 a1).bind fun bt217 => ((hypogeumref12_Find.f kj2 a0 a1).bind fun bt219 => (if bt217.1 = bt219.1 then (if bt217.2 = bt219.2 then ((hypogeumlaw12_awake.f kj2).bind fun t221 => (some t221)) else (some false)) else (some false)))) = some r := by rw [if_neg (show ¬ (false = true) by decide)] at H; exact H
        clear H
        have H := H1
        clear H1
        replace H := Option.bind_eq_some_iff.mp H
        obtain ⟨⟨t217, t218⟩, A70, H⟩ := H
        replace H : ((hypogeumref12_Find.f kj2 a0 a1).bind fun bt219 => (if t217 = bt219.1 then (if t218 = bt219.2 then ((hypogeumlaw12_awake.f kj2).bind fun t221 => (some t221)) else (some false)) else (some false))) = some r := H
        have A7 := Aside0.mk A70
        clear A70
        replace H := Option.bind_eq_some_iff.mp H
        obtain ⟨⟨t219, t220⟩, A80, H⟩ := H
        replace H : (if t217 = t219 then (if t218 = t220 then ((hypogeumlaw12_awake.f kj2).bind fun t221 => (some t221)) else (some false)) else (some false)) = some r := H
        have A8 := Aside0.mk A80
        clear A80
        by_cases c9 : t217 = t219
        · rw [if_pos c9] at H
          have c9b0 : (t217 == t219) = true := beq_iff_eq.mpr c9
          have c9b1 : (t217 != t219) = false := bne_eq_false_iff_eq.mpr c9
          clear c9
          by_cases c10 : t218 = t220
          · rw [if_pos c10] at H
            have c10b0 : (t218 == t220) = true := beq_iff_eq.mpr c10
            have c10b1 : (t218 != t220) = false := bne_eq_false_iff_eq.mpr c10
            clear c10
            replace H := Option.bind_eq_some_iff.mp H
            obtain ⟨t221, A110, H⟩ := H
            replace H : (some t221) = some r := H
            have A11 := Aside0.mk A110
            clear A110
            obtain rfl := Option.some.inj H
            go_wp2_with (first | ((with_reducible refine gate_callee (f := 26) rfl ?_); refine goesL_ (some 19) rfl rfl Try.func26 (by kernel_rfl) rfl #[.int .u64 a0, .int .i64 a1] rfl (by (try simp only [List.map_toArray, List.map_cons, List.map_nil]); first | done | rfl | (simp only [List.length_drop, List.length_take]; rfl)) ?_; (with_reducible refine (gf2_Find.calls kj2 a0 a1 t217 t218 _ A7.out).mono ?_); rintro e w' ⟨rfl, ⟨nd, rfl⟩⟩; refine ⟨_, rfl, ?_⟩) | ((with_reducible refine gate_callee (f := 27) rfl ?_); refine goesL_ (some 25) rfl rfl Try.func27 (by kernel_rfl) rfl #[.int .u64 a0, .int .i64 a1] rfl (by (try simp only [List.map_toArray, List.map_cons, List.map_nil]); first | done | rfl | (simp only [List.length_drop, List.length_take]; rfl)) ?_; (with_reducible refine (hypogeumref12_Find.calls kj2 a0 a1 t219 t220 _ A8.out).mono ?_); rintro e w12 ⟨rfl, hb⟩; refine ⟨_, rfl, ?_⟩; have n0_ := Aside0.mk (below_step (by repeat (first | (with_reducible first | exact HB.out | apply below_alloc | apply pw_below_drewN | apply below_drew1) | exact HB.out)) hb); clear HB; have HB := n0_; clear n0_; (try clear hb); (try clear hb2); (try clear hk); (try clear hi)) | (go_at_call 16; (with_reducible refine (hypogeumlaw12_awake.calls kj2  t221 _ A11.out).mono ?_); rintro e w' ⟨rfl, ⟨nd, rfl⟩⟩))
            go_ret
            exact ⟨by first | rfl | (simp [errW_none, errW_some] <;> rfl) | (simp [*, errW_none, errW_some] <;> rfl), by repeat (first | (with_reducible first | exact HB.out | apply below_alloc | apply pw_below_drewN | apply below_drew1) | exact HB.out)⟩
          · rw [if_neg c10] at H
            have c10b0 : (t218 == t220) = false := beq_eq_false_iff_ne.mpr c10
            have c10b1 : (t218 != t220) = true := bne_iff_ne.mpr c10
            obtain rfl := Option.some.inj H
            go_wp2_with (first | ((with_reducible refine gate_callee (f := 26) rfl ?_); refine goesL_ (some 19) rfl rfl Try.func26 (by kernel_rfl) rfl #[.int .u64 a0, .int .i64 a1] rfl (by (try simp only [List.map_toArray, List.map_cons, List.map_nil]); first | done | rfl | (simp only [List.length_drop, List.length_take]; rfl)) ?_; (with_reducible refine (gf2_Find.calls kj2 a0 a1 t217 t218 _ A7.out).mono ?_); rintro e w' ⟨rfl, ⟨nd, rfl⟩⟩; refine ⟨_, rfl, ?_⟩) | ((with_reducible refine gate_callee (f := 27) rfl ?_); refine goesL_ (some 25) rfl rfl Try.func27 (by kernel_rfl) rfl #[.int .u64 a0, .int .i64 a1] rfl (by (try simp only [List.map_toArray, List.map_cons, List.map_nil]); first | done | rfl | (simp only [List.length_drop, List.length_take]; rfl)) ?_; (with_reducible refine (hypogeumref12_Find.calls kj2 a0 a1 t219 t220 _ A8.out).mono ?_); rintro e w13 ⟨rfl, hb⟩; refine ⟨_, rfl, ?_⟩; have n0_ := Aside0.mk (below_step (by repeat (first | (with_reducible first | exact HB.out | apply below_alloc | apply pw_below_drewN | apply below_drew1) | exact HB.out)) hb); clear HB; have HB := n0_; clear n0_; (try clear hb); (try clear hb2); (try clear hk); (try clear hi)))
            go_ret
            exact ⟨by first | rfl | (simp [errW_none, errW_some] <;> rfl) | (simp [*, errW_none, errW_some] <;> rfl), by repeat (first | (with_reducible first | exact HB.out | apply below_alloc | apply pw_below_drewN | apply below_drew1) | exact HB.out)⟩
        · rw [if_neg c9] at H
          have c9b0 : (t217 == t219) = false := beq_eq_false_iff_ne.mpr c9
          have c9b1 : (t217 != t219) = true := bne_iff_ne.mpr c9
          obtain rfl := Option.some.inj H
          go_wp2_with (first | ((with_reducible refine gate_callee (f := 26) rfl ?_); refine goesL_ (some 19) rfl rfl Try.func26 (by kernel_rfl) rfl #[.int .u64 a0, .int .i64 a1] rfl (by (try simp only [List.map_toArray, List.map_cons, List.map_nil]); first | done | rfl | (simp only [List.length_drop, List.length_take]; rfl)) ?_; (with_reducible refine (gf2_Find.calls kj2 a0 a1 t217 t218 _ A7.out).mono ?_); rintro e w' ⟨rfl, ⟨nd, rfl⟩⟩; refine ⟨_, rfl, ?_⟩) | ((with_reducible refine gate_callee (f := 27) rfl ?_); refine goesL_ (some 25) rfl rfl Try.func27 (by kernel_rfl) rfl #[.int .u64 a0, .int .i64 a1] rfl (by (try simp only [List.map_toArray, List.map_cons, List.map_nil]); first | done | rfl | (simp only [List.length_drop, List.length_take]; rfl)) ?_; (with_reducible refine (hypogeumref12_Find.calls kj2 a0 a1 t219 t220 _ A8.out).mono ?_); rintro e w14 ⟨rfl, hb⟩; refine ⟨_, rfl, ?_⟩; have n0_ := Aside0.mk (below_step (by repeat (first | (with_reducible first | exact HB.out | apply below_alloc | apply pw_below_drewN | apply below_drew1) | exact HB.out)) hb); clear HB; have HB := n0_; clear n0_; (try clear hb); (try clear hb2); (try clear hk); (try clear hi)))
          go_ret
          exact ⟨by first | rfl | (simp [errW_none, errW_some] <;> rfl) | (simp [*, errW_none, errW_some] <;> rfl), by repeat (first | (with_reducible first | exact HB.out | apply below_alloc | apply pw_below_drewN | apply below_drew1) | exact HB.out)⟩

/-- THE ONE PURE STATEMENT of hypogeumlaw12_Gf2Finds: yours. -/
def hypogeumlaw12_Gf2Finds.Pure : Prop := ∀ (a0 : Int) (a1 : Int), (Lit.int .u64 a0).wf = true → (Lit.int .i64 a1).wf = true → ∃ k, hypogeumlaw12_Gf2Finds.f k a0 a1 = some true
theorem hypogeumlaw12_Gf2Finds.walk (P : hypogeumlaw12_Gf2Finds.Pure) (a0 : Int) (a1 : Int) (w : World) (w0 : (Lit.int .u64 a0).wf = true) (w1 : (Lit.int .i64 a1).wf = true) :
    Calls Try.prog 8 #[.int .u64 a0, .int .i64 a1] w fun e w' => e = .returned (.bool true) ∧ Below w.heap.size w w' := by
  obtain ⟨k, h⟩ := P a0 a1 w0 w1
  refine (hypogeumlaw12_Gf2Finds.calls k a0 a1 true w h).mono ?_
  rintro e w' ⟨rfl, hd⟩
  exact ⟨rfl, hd⟩

/-! ### hypogeumlaw12_Gf2Found: function 9 -/
mutual
def hypogeumlaw12_Gf2Found.j0 : Nat → Int → Int → Int → Int → Bool → Option (Bool)
  | 0, _, _, _, _, _ => none
  | k + 1, x0, x5, x6, x8, x41 => if x41 = true then (some false) else (if x8 = 0 then (none) else (hypogeumlaw12_Gf2Found.l0 k x5 x8 (Int.tmod x0 x8) (Int.tmod (x6 / 2) x8) 0))
def hypogeumlaw12_Gf2Found.l0 : Nat → Int → Int → Int → Int → Int → Option (Bool)
  | 0, _, _, _, _, _ => none
  | k + 1, x5, x8, x9, x10, x49 => if x49 < 200 then (if x9 = x10 then ((hypogeumlaw12_awake.f k).bind fun t227 => (some t227)) else (if 0 ≤ x5 then ((gf2_Irreducible.f k (Go.bits .or .u64 (Go.bits .or .u64 (shl .u64 1 x5) (IntKind.u64.wrap (x9 * 2))) 1)).bind fun t228 => (if t228 = true then (some false) else (if x8 = 0 then (none) else (hypogeumlaw12_Gf2Found.l0 k x5 x8 (Int.tmod (IntKind.u64.wrap (x9 + 1)) x8) x10 (wrap64 (x49 + 1)))))) else (none))) else ((hypogeumlaw12_awake.f k).bind fun t226 => (some t226))
end
def hypogeumlaw12_Gf2Found.f (k : Nat) (a0 : Int) (a1 : Int) : Option (Bool) := (gf2_Find.f k a0 (wrap64 ((Int.tmod (wrap64 (a1)) 52) + 2))).bind fun bt222 => (if 0 ≤ (wrap64 ((wrap64 ((Int.tmod (wrap64 (a1)) 52) + 2)) - 1)) then (if bt222.2 = 0 then ((gf2_Degree.f k bt222.1).bind fun t224 => (if t224 = (wrap64 ((Int.tmod (wrap64 (a1)) 52) + 2)) then (if (Int.tmod bt222.1 2) = 1 then ((gf2_Irreducible.f k bt222.1).bind fun t225 => (hypogeumlaw12_Gf2Found.j0 k a0 (wrap64 ((Int.tmod (wrap64 (a1)) 52) + 2)) bt222.1 (shl .u64 1 (wrap64 ((wrap64 ((Int.tmod (wrap64 (a1)) 52) + 2)) - 1))) (!t225))) else (hypogeumlaw12_Gf2Found.j0 k a0 (wrap64 ((Int.tmod (wrap64 (a1)) 52) + 2)) bt222.1 (shl .u64 1 (wrap64 ((wrap64 ((Int.tmod (wrap64 (a1)) 52) + 2)) - 1))) true)) else (hypogeumlaw12_Gf2Found.j0 k a0 (wrap64 ((Int.tmod (wrap64 (a1)) 52) + 2)) bt222.1 (shl .u64 1 (wrap64 ((wrap64 ((Int.tmod (wrap64 (a1)) 52) + 2)) - 1))) true))) else (hypogeumlaw12_Gf2Found.j0 k a0 (wrap64 ((Int.tmod (wrap64 (a1)) 52) + 2)) bt222.1 (shl .u64 1 (wrap64 ((wrap64 ((Int.tmod (wrap64 (a1)) 52) + 2)) - 1))) true)) else (none))
theorem hypogeumlaw12_Gf2Found.mono_l : ∀ k, (∀ y0 y1 y2 y3 y4, LeO (hypogeumlaw12_Gf2Found.j0 k y0 y1 y2 y3 y4) (hypogeumlaw12_Gf2Found.j0 (k + 1) y0 y1 y2 y3 y4)) ∧ (∀ y0 y1 y2 y3 y4, LeO (hypogeumlaw12_Gf2Found.l0 k y0 y1 y2 y3 y4) (hypogeumlaw12_Gf2Found.l0 (k + 1) y0 y1 y2 y3 y4))
  | 0 => ⟨fun _ _ _ _ _ r h => by simp [hypogeumlaw12_Gf2Found.j0] at h, fun _ _ _ _ _ r h => by simp [hypogeumlaw12_Gf2Found.l0] at h⟩
  | k + 1 => by
    obtain ⟨ih0, ih1⟩ := hypogeumlaw12_Gf2Found.mono_l k
    refine ⟨?_, ?_⟩
    · intro y0 y1 y2 y3 y4
      unfold hypogeumlaw12_Gf2Found.j0
      repeat' first
      | (with_reducible exact ih0 _ _ _ _ _)
      | (with_reducible exact ih1 _ _ _ _ _)
      | (with_reducible exact gf2_Degree.mono _ _)
      | (with_reducible exact gf2_Find.mono _ _ _)
      | (with_reducible exact gf2_Irreducible.mono _ _)
      | (with_reducible exact hypogeumlaw12_awake.mono _)
      | (with_reducible exact LeO.refl _)
      | (with_reducible exact LeO.none _)
      | (with_reducible refine LeO.ite ?_ ?_)
      | (with_reducible refine LeO.bind ?_ (fun _ => ?_))
      | exact ih0 _ _ _ _ _
      | exact ih1 _ _ _ _ _
      | exact gf2_Degree.mono _ _
      | exact gf2_Find.mono _ _ _
      | exact gf2_Irreducible.mono _ _
      | exact hypogeumlaw12_awake.mono _
      | exact LeO.none _
      | refine LeO.ite ?_ ?_
      | refine LeO.bind ?_ (fun _ => ?_)
    · intro y0 y1 y2 y3 y4
      unfold hypogeumlaw12_Gf2Found.l0
      repeat' first
      | (with_reducible exact ih0 _ _ _ _ _)
      | (with_reducible exact ih1 _ _ _ _ _)
      | (with_reducible exact gf2_Degree.mono _ _)
      | (with_reducible exact gf2_Find.mono _ _ _)
      | (with_reducible exact gf2_Irreducible.mono _ _)
      | (with_reducible exact hypogeumlaw12_awake.mono _)
      | (with_reducible exact LeO.refl _)
      | (with_reducible exact LeO.none _)
      | (with_reducible refine LeO.ite ?_ ?_)
      | (with_reducible refine LeO.bind ?_ (fun _ => ?_))
      | exact ih0 _ _ _ _ _
      | exact ih1 _ _ _ _ _
      | exact gf2_Degree.mono _ _
      | exact gf2_Find.mono _ _ _
      | exact gf2_Irreducible.mono _ _
      | exact hypogeumlaw12_awake.mono _
      | exact LeO.none _
      | refine LeO.ite ?_ ?_
      | refine LeO.bind ?_ (fun _ => ?_)
theorem hypogeumlaw12_Gf2Found.mono : ∀ a0 a1 k, LeO (hypogeumlaw12_Gf2Found.f k a0 a1) (hypogeumlaw12_Gf2Found.f (k + 1) a0 a1) := by
  intro a0 a1 k
  obtain ⟨ih0, ih1⟩ := hypogeumlaw12_Gf2Found.mono_l k
  unfold hypogeumlaw12_Gf2Found.f
  repeat' first
      | (with_reducible exact ih0 _ _ _ _ _)
      | (with_reducible exact ih1 _ _ _ _ _)
      | (with_reducible exact gf2_Degree.mono _ _)
      | (with_reducible exact gf2_Find.mono _ _ _)
      | (with_reducible exact gf2_Irreducible.mono _ _)
      | (with_reducible exact hypogeumlaw12_awake.mono _)
      | (with_reducible exact LeO.refl _)
      | (with_reducible exact LeO.none _)
      | (with_reducible refine LeO.ite ?_ ?_)
      | (with_reducible refine LeO.bind ?_ (fun _ => ?_))
      | exact ih0 _ _ _ _ _
      | exact ih1 _ _ _ _ _
      | exact gf2_Degree.mono _ _
      | exact gf2_Find.mono _ _ _
      | exact gf2_Irreducible.mono _ _
      | exact hypogeumlaw12_awake.mono _
      | exact LeO.none _
      | refine LeO.ite ?_ ?_
      | refine LeO.bind ?_ (fun _ => ?_)
set_option maxHeartbeats 8000000 in
set_option maxRecDepth 100000 in
theorem hypogeumlaw12_Gf2Found.calls (k : Nat) (a0 : Int) (a1 : Int) (r : Bool) (w : World) (h : hypogeumlaw12_Gf2Found.f k a0 a1 = some r) :
    Calls Try.prog 9 #[.int .u64 a0, .int .u8 a1] w fun e w' => e = .returned (.bool r) ∧ Drawn0 w w' := by
  have H : ((gf2_Find.f k a0 (wrap64 ((Int.tmod (wrap64 (a1)) 52) + 2))).bind fun bt222 => (if 0 ≤ (wrap64 ((wrap64 ((Int.tmod (wrap64 (a1)) 52) + 2)) - 1)) then (if bt222.2 = 0 then ((gf2_Degree.f k bt222.1).bind fun t224 => (if t224 = (wrap64 ((Int.tmod (wrap64 (a1)) 52) + 2)) then (if (Int.tmod bt222.1 2) = 1 then ((gf2_Irreducible.f k bt222.1).bind fun t225 => (hypogeumlaw12_Gf2Found.j0 k a0 (wrap64 ((Int.tmod (wrap64 (a1)) 52) + 2)) bt222.1 (shl .u64 1 (wrap64 ((wrap64 ((Int.tmod (wrap64 (a1)) 52) + 2)) - 1))) (!t225))) else (hypogeumlaw12_Gf2Found.j0 k a0 (wrap64 ((Int.tmod (wrap64 (a1)) 52) + 2)) bt222.1 (shl .u64 1 (wrap64 ((wrap64 ((Int.tmod (wrap64 (a1)) 52) + 2)) - 1))) true)) else (hypogeumlaw12_Gf2Found.j0 k a0 (wrap64 ((Int.tmod (wrap64 (a1)) 52) + 2)) bt222.1 (shl .u64 1 (wrap64 ((wrap64 ((Int.tmod (wrap64 (a1)) 52) + 2)) - 1))) true))) else (hypogeumlaw12_Gf2Found.j0 k a0 (wrap64 ((Int.tmod (wrap64 (a1)) 52) + 2)) bt222.1 (shl .u64 1 (wrap64 ((wrap64 ((Int.tmod (wrap64 (a1)) 52) + 2)) - 1))) true)) else (none))) = some r := h
  clear h
  replace H := Option.bind_eq_some_iff.mp H
  obtain ⟨⟨t222, t223⟩, A30, H⟩ := H
  replace H : (if 0 ≤ (wrap64 ((wrap64 ((Int.tmod (wrap64 (a1)) 52) + 2)) - 1)) then (if t223 = 0 then ((gf2_Degree.f k t222).bind fun t224 => (if t224 = (wrap64 ((Int.tmod (wrap64 (a1)) 52) + 2)) then (if (Int.tmod t222 2) = 1 then ((gf2_Irreducible.f k t222).bind fun t225 => (hypogeumlaw12_Gf2Found.j0 k a0 (wrap64 ((Int.tmod (wrap64 (a1)) 52) + 2)) t222 (shl .u64 1 (wrap64 ((wrap64 ((Int.tmod (wrap64 (a1)) 52) + 2)) - 1))) (!t225))) else (hypogeumlaw12_Gf2Found.j0 k a0 (wrap64 ((Int.tmod (wrap64 (a1)) 52) + 2)) t222 (shl .u64 1 (wrap64 ((wrap64 ((Int.tmod (wrap64 (a1)) 52) + 2)) - 1))) true)) else (hypogeumlaw12_Gf2Found.j0 k a0 (wrap64 ((Int.tmod (wrap64 (a1)) 52) + 2)) t222 (shl .u64 1 (wrap64 ((wrap64 ((Int.tmod (wrap64 (a1)) 52) + 2)) - 1))) true))) else (hypogeumlaw12_Gf2Found.j0 k a0 (wrap64 ((Int.tmod (wrap64 (a1)) 52) + 2)) t222 (shl .u64 1 (wrap64 ((wrap64 ((Int.tmod (wrap64 (a1)) 52) + 2)) - 1))) true)) else (none)) = some r := H
  have A3 := Aside0.mk A30
  clear A30
  obtain ⟨ji4, hji4⟩ : ∃ j_ : Int, (wrap64 ((wrap64 ((Int.tmod (wrap64 (a1)) 52) + 2)) - 1)) = j_ := ⟨_, rfl⟩
  replace H : (if 0 ≤ (ji4) then (if t223 = 0 then ((gf2_Degree.f k t222).bind fun t224 => (if t224 = (wrap64 ((Int.tmod (wrap64 (a1)) 52) + 2)) then (if (Int.tmod t222 2) = 1 then ((gf2_Irreducible.f k t222).bind fun t225 => (hypogeumlaw12_Gf2Found.j0 k a0 (wrap64 ((Int.tmod (wrap64 (a1)) 52) + 2)) t222 (shl .u64 1 (ji4)) (!t225))) else (hypogeumlaw12_Gf2Found.j0 k a0 (wrap64 ((Int.tmod (wrap64 (a1)) 52) + 2)) t222 (shl .u64 1 (ji4)) true)) else (hypogeumlaw12_Gf2Found.j0 k a0 (wrap64 ((Int.tmod (wrap64 (a1)) 52) + 2)) t222 (shl .u64 1 (ji4)) true))) else (hypogeumlaw12_Gf2Found.j0 k a0 (wrap64 ((Int.tmod (wrap64 (a1)) 52) + 2)) t222 (shl .u64 1 (ji4)) true)) else (none)) = some r := by first | (rw [hji4] at H; exact H) | (simp only [hji4] at H ⊢; exact H)
  (try rw [hji4] at A3)
  have hji4w : (IntKind.i64.wrap ((wrap64 ((Int.tmod (wrap64 (a1)) 52) + 2)) - 1)) = ji4 := (i64_w _).trans hji4
  by_cases c5 : 0 ≤ (ji4)
  · rw [if_pos c5] at H
    have c5b0 := eq_true c5
    have c5b1 : decide (0 ≤ (ji4)) = true := decide_eq_true c5
    clear c5
    obtain ⟨ji6, hji6⟩ : ∃ j_ : Int, (shl .u64 1 (ji4)) = j_ := ⟨_, rfl⟩
    replace H : (if t223 = 0 then ((gf2_Degree.f k t222).bind fun t224 => (if t224 = (wrap64 ((Int.tmod (wrap64 (a1)) 52) + 2)) then (if (Int.tmod t222 2) = 1 then ((gf2_Irreducible.f k t222).bind fun t225 => (hypogeumlaw12_Gf2Found.j0 k a0 (wrap64 ((Int.tmod (wrap64 (a1)) 52) + 2)) t222 ji6 (!t225))) else (hypogeumlaw12_Gf2Found.j0 k a0 (wrap64 ((Int.tmod (wrap64 (a1)) 52) + 2)) t222 ji6 true)) else (hypogeumlaw12_Gf2Found.j0 k a0 (wrap64 ((Int.tmod (wrap64 (a1)) 52) + 2)) t222 ji6 true))) else (hypogeumlaw12_Gf2Found.j0 k a0 (wrap64 ((Int.tmod (wrap64 (a1)) 52) + 2)) t222 ji6 true)) = some r := by first | (rw [hji6] at H; exact H) | (simp only [hji6] at H ⊢; exact H)
    (try rw [hji6] at A3)
    have hji6_ : (IntKind.u64.wrap (1 * 2 ^ min (ji4).toNat 64)) = ji6 := hji6
    have hji6z : (ji4) ≤ 64 → (IntKind.u64.wrap (1 * 2 ^ (ji4).toNat)) = ji6 := shl_small hji6
    have hji6u : (IntKind.u64.wrap (2 ^ min (ji4).toNat 64)) = ji6 := by have h_ := hji6_; rw [Int.one_mul] at h_; exact h_
    have hji6v : (ji4) ≤ 64 → (IntKind.u64.wrap (2 ^ (ji4).toNat)) = ji6 := fun hle_ => by have h_ := hji6z hle_; rw [Int.one_mul] at h_; exact h_
    have HC7 := Aside0.mk H
    clear H
    go_enter Try.func9, Try.ntmps9
    go_upto_region 4 with (first | (go_at_call 26; (with_reducible refine (gf2_Find.calls k a0 (wrap64 ((Int.tmod (wrap64 (a1)) 52) + 2)) t222 t223 _ A3.out).mono ?_); rintro e w' ⟨rfl, ⟨nd, rfl⟩⟩; (try first | exact ⟨rfl, _, World.drewN_drewN _ _ _⟩ | exact ⟨rfl, _, Eq.trans (World.drewN_drewN _ _ _) (congrArg (World.drewN _) (Nat.add_assoc _ _ _))⟩)))
    repeat (go_quiet (first | (go_at_call 26; (with_reducible refine (gf2_Find.calls k a0 (wrap64 ((Int.tmod (wrap64 (a1)) 52) + 2)) t222 t223 _ A3.out).mono ?_); rintro e w' ⟨rfl, ⟨nd, rfl⟩⟩; (try first | exact ⟨rfl, _, World.drewN_drewN _ _ _⟩ | exact ⟨rfl, _, Eq.trans (World.drewN_drewN _ _ _) (congrArg (World.drewN _) (Nat.add_assoc _ _ _))⟩))); go_upto_region 4 with (first | (go_at_call 26; (with_reducible refine (gf2_Find.calls k a0 (wrap64 ((Int.tmod (wrap64 (a1)) 52) + 2)) t222 t223 _ A3.out).mono ?_); rintro e w' ⟨rfl, ⟨nd, rfl⟩⟩; (try first | exact ⟨rfl, _, World.drewN_drewN _ _ _⟩ | exact ⟨rfl, _, Eq.trans (World.drewN_drewN _ _ _) (congrArg (World.drewN _) (Nat.add_assoc _ _ _))⟩))))
    (try simp only [Act.put, List.setIfInBounds_toArray, List.set_cons_zero, List.set_cons_succ])
    go_cut [41] (fun v41 wc => ∃ (kq : Nat) (x41_6 : Bool), v41 = .bool x41_6 ∧ Aside0 (hypogeumlaw12_Gf2Found.j0 kq a0 (wrap64 ((Int.tmod (wrap64 (a1)) 52) + 2)) t222 ji6 x41_6 = some r) ∧ Aside0 (kq ≤ k) ∧ Drawn0 w wc)
    case first =>
      have H := HC7.out
      clear HC7
      by_cases c8 : t223 = 0
      · rw [if_pos c8] at H
        have c8b0 : (t223 == 0) = true := beq_iff_eq.mpr c8
        have c8b1 : (t223 != 0) = false := bne_eq_false_iff_eq.mpr c8
        clear c8
        (first | rw [c8b0] | (simp only [i64_w, i32_w]; rw [c8b0]) | skip)
        replace H := Option.bind_eq_some_iff.mp H
        obtain ⟨t224, A90, H⟩ := H
        replace H : (if t224 = (wrap64 ((Int.tmod (wrap64 (a1)) 52) + 2)) then (if (Int.tmod t222 2) = 1 then ((gf2_Irreducible.f k t222).bind fun t225 => (hypogeumlaw12_Gf2Found.j0 k a0 (wrap64 ((Int.tmod (wrap64 (a1)) 52) + 2)) t222 ji6 (!t225))) else (hypogeumlaw12_Gf2Found.j0 k a0 (wrap64 ((Int.tmod (wrap64 (a1)) 52) + 2)) t222 ji6 true)) else (hypogeumlaw12_Gf2Found.j0 k a0 (wrap64 ((Int.tmod (wrap64 (a1)) 52) + 2)) t222 ji6 true)) = some r := H
        have A9 := Aside0.mk A90
        clear A90
        by_cases c10 : t224 = (wrap64 ((Int.tmod (wrap64 (a1)) 52) + 2))
        · rw [if_pos c10] at H
          have c10b0 : (t224 == (wrap64 ((Int.tmod (wrap64 (a1)) 52) + 2))) = true := beq_iff_eq.mpr c10
          have c10b1 : (t224 != (wrap64 ((Int.tmod (wrap64 (a1)) 52) + 2))) = false := bne_eq_false_iff_eq.mpr c10
          clear c10
          by_cases c11 : (Int.tmod t222 2) = 1
          · rw [if_pos c11] at H
            have c11b0 : ((Int.tmod t222 2) == 1) = true := beq_iff_eq.mpr c11
            have c11b1 : ((Int.tmod t222 2) != 1) = false := bne_eq_false_iff_eq.mpr c11
            clear c11
            replace H := Option.bind_eq_some_iff.mp H
            obtain ⟨t225, A120, H⟩ := H
            replace H : (hypogeumlaw12_Gf2Found.j0 k a0 (wrap64 ((Int.tmod (wrap64 (a1)) 52) + 2)) t222 ji6 (!t225)) = some r := H
            have A12 := Aside0.mk A120
            clear A120
            have H' := Aside0.mk H
            clear H
            go_wp2_with (first | (go_at_call 14; (with_reducible refine (gf2_Degree.calls k t222 t224 _ A9.out).mono ?_); rintro e w' ⟨rfl, ⟨nd, rfl⟩⟩; (try first | exact ⟨rfl, _, World.drewN_drewN _ _ _⟩ | exact ⟨rfl, _, Eq.trans (World.drewN_drewN _ _ _) (congrArg (World.drewN _) (Nat.add_assoc _ _ _))⟩)) | (go_at_call 24; (with_reducible refine (gf2_Irreducible.calls k t222 t225 _ A12.out).mono ?_); rintro e w' ⟨rfl, ⟨nd, rfl⟩⟩; (try first | exact ⟨rfl, _, World.drewN_drewN _ _ _⟩ | exact ⟨rfl, _, Eq.trans (World.drewN_drewN _ _ _) (congrArg (World.drewN _) (Nat.add_assoc _ _ _))⟩)))
            repeat (go_quiet (first | (go_at_call 14; (with_reducible refine (gf2_Degree.calls k t222 t224 _ A9.out).mono ?_); rintro e w' ⟨rfl, ⟨nd, rfl⟩⟩; (try first | exact ⟨rfl, _, World.drewN_drewN _ _ _⟩ | exact ⟨rfl, _, Eq.trans (World.drewN_drewN _ _ _) (congrArg (World.drewN _) (Nat.add_assoc _ _ _))⟩)) | (go_at_call 24; (with_reducible refine (gf2_Irreducible.calls k t222 t225 _ A12.out).mono ?_); rintro e w' ⟨rfl, ⟨nd, rfl⟩⟩; (try first | exact ⟨rfl, _, World.drewN_drewN _ _ _⟩ | exact ⟨rfl, _, Eq.trans (World.drewN_drewN _ _ _) (congrArg (World.drewN _) (Nat.add_assoc _ _ _))⟩))); try go_wp2_with (first | (go_at_call 14; (with_reducible refine (gf2_Degree.calls k t222 t224 _ A9.out).mono ?_); rintro e w' ⟨rfl, ⟨nd, rfl⟩⟩; (try first | exact ⟨rfl, _, World.drewN_drewN _ _ _⟩ | exact ⟨rfl, _, Eq.trans (World.drewN_drewN _ _ _) (congrArg (World.drewN _) (Nat.add_assoc _ _ _))⟩)) | (go_at_call 24; (with_reducible refine (gf2_Irreducible.calls k t222 t225 _ A12.out).mono ?_); rintro e w' ⟨rfl, ⟨nd, rfl⟩⟩; (try first | exact ⟨rfl, _, World.drewN_drewN _ _ _⟩ | exact ⟨rfl, _, Eq.trans (World.drewN_drewN _ _ _) (congrArg (World.drewN _) (Nat.add_assoc _ _ _))⟩))))
            go_meet
            case rel => exact ⟨_, (!t225), (by first | rfl | (simp; done) | (simp [*]; done)), H', ⟨by first | omega | exact Nat.le_refl _⟩, by repeat (first | exact Drawn0.refl _ | apply Drawn0.step)⟩
          · rw [if_neg c11] at H
            have c11b0 : ((Int.tmod t222 2) == 1) = false := beq_eq_false_iff_ne.mpr c11
            have c11b1 : ((Int.tmod t222 2) != 1) = true := bne_iff_ne.mpr c11
            have H' := Aside0.mk H
            clear H
            go_wp2_with (first | (go_at_call 14; (with_reducible refine (gf2_Degree.calls k t222 t224 _ A9.out).mono ?_); rintro e w' ⟨rfl, ⟨nd, rfl⟩⟩; (try first | exact ⟨rfl, _, World.drewN_drewN _ _ _⟩ | exact ⟨rfl, _, Eq.trans (World.drewN_drewN _ _ _) (congrArg (World.drewN _) (Nat.add_assoc _ _ _))⟩)))
            repeat (go_quiet (first | (go_at_call 14; (with_reducible refine (gf2_Degree.calls k t222 t224 _ A9.out).mono ?_); rintro e w' ⟨rfl, ⟨nd, rfl⟩⟩; (try first | exact ⟨rfl, _, World.drewN_drewN _ _ _⟩ | exact ⟨rfl, _, Eq.trans (World.drewN_drewN _ _ _) (congrArg (World.drewN _) (Nat.add_assoc _ _ _))⟩))); try go_wp2_with (first | (go_at_call 14; (with_reducible refine (gf2_Degree.calls k t222 t224 _ A9.out).mono ?_); rintro e w' ⟨rfl, ⟨nd, rfl⟩⟩; (try first | exact ⟨rfl, _, World.drewN_drewN _ _ _⟩ | exact ⟨rfl, _, Eq.trans (World.drewN_drewN _ _ _) (congrArg (World.drewN _) (Nat.add_assoc _ _ _))⟩))))
            go_meet
            case rel => exact ⟨_, (true), (by first | rfl | (simp; done) | (simp [*]; done)), H', ⟨by first | omega | exact Nat.le_refl _⟩, by repeat (first | exact Drawn0.refl _ | apply Drawn0.step)⟩
        · rw [if_neg c10] at H
          have c10b0 : (t224 == (wrap64 ((Int.tmod (wrap64 (a1)) 52) + 2))) = false := beq_eq_false_iff_ne.mpr c10
          have c10b1 : (t224 != (wrap64 ((Int.tmod (wrap64 (a1)) 52) + 2))) = true := bne_iff_ne.mpr c10
          have H' := Aside0.mk H
          clear H
          go_wp2_with (first | (go_at_call 14; (with_reducible refine (gf2_Degree.calls k t222 t224 _ A9.out).mono ?_); rintro e w' ⟨rfl, ⟨nd, rfl⟩⟩; (try first | exact ⟨rfl, _, World.drewN_drewN _ _ _⟩ | exact ⟨rfl, _, Eq.trans (World.drewN_drewN _ _ _) (congrArg (World.drewN _) (Nat.add_assoc _ _ _))⟩)))
          repeat (go_quiet (first | (go_at_call 14; (with_reducible refine (gf2_Degree.calls k t222 t224 _ A9.out).mono ?_); rintro e w' ⟨rfl, ⟨nd, rfl⟩⟩; (try first | exact ⟨rfl, _, World.drewN_drewN _ _ _⟩ | exact ⟨rfl, _, Eq.trans (World.drewN_drewN _ _ _) (congrArg (World.drewN _) (Nat.add_assoc _ _ _))⟩))); try go_wp2_with (first | (go_at_call 14; (with_reducible refine (gf2_Degree.calls k t222 t224 _ A9.out).mono ?_); rintro e w' ⟨rfl, ⟨nd, rfl⟩⟩; (try first | exact ⟨rfl, _, World.drewN_drewN _ _ _⟩ | exact ⟨rfl, _, Eq.trans (World.drewN_drewN _ _ _) (congrArg (World.drewN _) (Nat.add_assoc _ _ _))⟩))))
          go_meet
          case rel => exact ⟨_, (true), (by first | rfl | (simp; done) | (simp [*]; done)), H', ⟨by first | omega | exact Nat.le_refl _⟩, by repeat (first | exact Drawn0.refl _ | apply Drawn0.step)⟩
      · rw [if_neg c8] at H
        have c8b0 : (t223 == 0) = false := beq_eq_false_iff_ne.mpr c8
        have c8b1 : (t223 != 0) = true := bne_iff_ne.mpr c8
        (first | rw [c8b0] | (simp only [i64_w, i32_w]; rw [c8b0]) | skip)
        have H' := Aside0.mk H
        clear H
        go_wp2
        repeat (go_quiet (fail); try go_wp2)
        go_meet
        case rel => exact ⟨_, (true), (by first | rfl | (simp; done) | (simp [*]; done)), H', ⟨by first | omega | exact Nat.le_refl _⟩, by repeat (first | exact Drawn0.refl _ | apply Drawn0.step)⟩
    case rest =>
      clear HC7
      try clear c1
      try clear p2
      try clear c5
      try clear c5b0
      try clear c5b1
      try clear p6
      try clear c8
      try clear c8b0
      try clear c8b1
      try clear c9
      try clear c10
      try clear c10b0
      try clear c10b1
      try clear c11
      try clear c11b0
      try clear c11b1
      obtain ⟨kq, x41_6, rfl, HA, HJ6, ⟨mc6, rfl⟩⟩ := hcut
      cases kq with
      | zero => exact absurd HA.out (by simp [hypogeumlaw12_Gf2Found.j0])
      | succ kj6 =>
        have H := HA.out
        clear HA
        simp only [hypogeumlaw12_Gf2Found.j0] at H
        by_cases c13 : x41_6 = true
        · subst c13
          have H1 : (some false) = some r := by rw [if_pos rfl] at H; exact H
          clear H
          have H := H1
          clear H1
          obtain rfl := Option.some.inj H
          go_wp2
          repeat (go_quiet (fail); try go_wp2)
          go_ret
          exact ⟨by first | rfl | (simp; done) | (simp only [← hji4, ← hji6] <;> (first | rfl | simp)) | (simp [*]; done), by repeat (first | exact Drawn0.refl _ | apply Drawn0.step)⟩
        · replace c13 := Bool.eq_false_iff.mpr c13
          subst c13
          have H1 : (if ji6 = 0 then (none) else (hypogeumlaw12_Gf2Found.l0 kj6 (wrap64 ((Int.tmod (wrap64 (a1)) 52) + 2)) ji6 (Int.tmod a0 ji6) (Int.tmod (t222 / 2) ji6) 0)) = some r := by rw [if_neg (show ¬ (false = true) by decide)] at H; exact H
          clear H
          have H := H1
          clear H1
          by_cases c14 : ji6 = 0
          · rw [if_pos c14] at H
            exact absurd H (by simp)
          · rw [if_neg c14] at H
            have c14b0 : (ji6 == 0) = false := beq_eq_false_iff_ne.mpr c14
            have c14b1 : (ji6 != 0) = true := bne_iff_ne.mpr c14
            have H' := Aside0.mk H
            clear H
            go_wp2
            repeat (go_quiet (fail); try go_wp2)
            go_loopg [9, 49] kj6 (fun kq v9 v49 w' => ∃ (x9_2 : Int) (x49_2 : Int), v9 = .int .u64 x9_2 ∧ v49 = .int .i64 x49_2 ∧ Aside0 (hypogeumlaw12_Gf2Found.l0 kq (wrap64 ((Int.tmod (wrap64 (a1)) 52) + 2)) ji6 x9_2 (Int.tmod (t222 / 2) ji6) x49_2 = some r) ∧ Aside0 (kq ≤ kj6) ∧ Drawn0 w w')
            case atStart => exact ⟨(Int.tmod a0 ji6), (0), (by first | rfl | (simp; done) | (simp only [← hji6] <;> (first | rfl | simp)) | (simp [*]; done)), (by first | rfl | (simp; done) | (simp [*]; done)), H', ⟨Nat.le_refl _⟩, by repeat (first | exact Drawn0.refl _ | apply Drawn0.step)⟩
            case round =>
              clear H'
              try clear c1
              try clear p2
              try clear c5
              try clear c5b0
              try clear c5b1
              try clear c6
              try clear p6
              try clear c8
              try clear c8b0
              try clear c8b1
              try clear c9
              try clear c10
              try clear c10b0
              try clear c10b1
              try clear c11
              try clear c11b0
              try clear c11b1
              try clear c13
              try clear c14
              try clear c14b0
              try clear c14b1
              try clear p2
              try clear p6
              obtain ⟨x9_2, x49_2, rfl, rfl, HA, HK2, ⟨m2, rfl⟩⟩ := hrel
              cases gk with
              | zero => exact absurd HA.out (by simp [hypogeumlaw12_Gf2Found.l0])
              | succ k2 =>
                have H := HA.out
                clear HA
                simp only [hypogeumlaw12_Gf2Found.l0] at H
                by_cases c15 : x49_2 < 200
                · rw [if_pos c15] at H
                  have c15b0 : decide (x49_2 < 200) = true := decide_eq_true c15
                  clear c15
                  by_cases c16 : x9_2 = (Int.tmod (t222 / 2) ji6)
                  · rw [if_pos c16] at H
                    have c16b0 : (x9_2 == (Int.tmod (t222 / 2) ji6)) = true := beq_iff_eq.mpr c16
                    have c16b1 : (x9_2 != (Int.tmod (t222 / 2) ji6)) = false := bne_eq_false_iff_eq.mpr c16
                    clear c16
                    replace H := Option.bind_eq_some_iff.mp H
                    obtain ⟨t227, A170, H⟩ := H
                    replace H : (some t227) = some r := H
                    have A17 := Aside0.mk A170
                    clear A170
                    obtain rfl := Option.some.inj H
                    go_wp2_with (first | (go_at_call 16; (with_reducible refine (hypogeumlaw12_awake.calls k2  t227 _ A17.out).mono ?_); rintro e w' ⟨rfl, ⟨nd, rfl⟩⟩; (try first | exact ⟨rfl, _, World.drewN_drewN _ _ _⟩ | exact ⟨rfl, _, Eq.trans (World.drewN_drewN _ _ _) (congrArg (World.drewN _) (Nat.add_assoc _ _ _))⟩)))
                    repeat (go_quiet (first | (go_at_call 16; (with_reducible refine (hypogeumlaw12_awake.calls k2  t227 _ A17.out).mono ?_); rintro e w' ⟨rfl, ⟨nd, rfl⟩⟩; (try first | exact ⟨rfl, _, World.drewN_drewN _ _ _⟩ | exact ⟨rfl, _, Eq.trans (World.drewN_drewN _ _ _) (congrArg (World.drewN _) (Nat.add_assoc _ _ _))⟩))); try go_wp2_with (first | (go_at_call 16; (with_reducible refine (hypogeumlaw12_awake.calls k2  t227 _ A17.out).mono ?_); rintro e w' ⟨rfl, ⟨nd, rfl⟩⟩; (try first | exact ⟨rfl, _, World.drewN_drewN _ _ _⟩ | exact ⟨rfl, _, Eq.trans (World.drewN_drewN _ _ _) (congrArg (World.drewN _) (Nat.add_assoc _ _ _))⟩))))
                    go_ret
                    exact ⟨by first | rfl | (simp; done) | (simp only [← hji4, ← hji6] <;> (first | rfl | simp)) | (simp [*]; done), by repeat (first | exact Drawn0.refl _ | apply Drawn0.step)⟩
                  · rw [if_neg c16] at H
                    have c16b0 : (x9_2 == (Int.tmod (t222 / 2) ji6)) = false := beq_eq_false_iff_ne.mpr c16
                    have c16b1 : (x9_2 != (Int.tmod (t222 / 2) ji6)) = true := bne_iff_ne.mpr c16
                    obtain ⟨ji18, hji18⟩ : ∃ j_ : Int, (wrap64 ((Int.tmod (wrap64 (a1)) 52) + 2)) = j_ := ⟨_, rfl⟩
                    replace H : (if 0 ≤ (ji18) then ((gf2_Irreducible.f k2 (Go.bits .or .u64 (Go.bits .or .u64 (shl .u64 1 (ji18)) (IntKind.u64.wrap (x9_2 * 2))) 1)).bind fun t228 => (if t228 = true then (some false) else (if ji6 = 0 then (none) else (hypogeumlaw12_Gf2Found.l0 k2 (ji18) ji6 (Int.tmod (IntKind.u64.wrap (x9_2 + 1)) ji6) (Int.tmod (t222 / 2) ji6) (wrap64 (x49_2 + 1)))))) else (none)) = some r := by first | (rw [hji18] at H; exact H) | (simp only [hji18] at H ⊢; exact H)
                    have hji18w : (IntKind.i64.wrap ((Int.tmod (wrap64 (a1)) 52) + 2)) = ji18 := (i64_w _).trans hji18
                    by_cases c19 : 0 ≤ (ji18)
                    · rw [if_pos c19] at H
                      have c19b0 := eq_true c19
                      have c19b1 : decide (0 ≤ (ji18)) = true := decide_eq_true c19
                      clear c19
                      obtain ⟨ji20, hji20⟩ : ∃ j_ : Int, (shl .u64 1 (ji18)) = j_ := ⟨_, rfl⟩
                      replace H : ((gf2_Irreducible.f k2 (Go.bits .or .u64 (Go.bits .or .u64 (ji20) (IntKind.u64.wrap (x9_2 * 2))) 1)).bind fun t228 => (if t228 = true then (some false) else (if ji6 = 0 then (none) else (hypogeumlaw12_Gf2Found.l0 k2 (ji18) ji6 (Int.tmod (IntKind.u64.wrap (x9_2 + 1)) ji6) (Int.tmod (t222 / 2) ji6) (wrap64 (x49_2 + 1)))))) = some r := by first | (rw [hji20] at H; exact H) | (simp only [hji20] at H ⊢; exact H)
                      have hji20_ : (IntKind.u64.wrap (1 * 2 ^ min (ji18).toNat 64)) = ji20 := hji20
                      have hji20z : (ji18) ≤ 64 → (IntKind.u64.wrap (1 * 2 ^ (ji18).toNat)) = ji20 := shl_small hji20
                      have hji20u : (IntKind.u64.wrap (2 ^ min (ji18).toNat 64)) = ji20 := by have h_ := hji20_; rw [Int.one_mul] at h_; exact h_
                      have hji20v : (ji18) ≤ 64 → (IntKind.u64.wrap (2 ^ (ji18).toNat)) = ji20 := fun hle_ => by have h_ := hji20z hle_; rw [Int.one_mul] at h_; exact h_
                      replace H := Option.bind_eq_some_iff.mp H
                      obtain ⟨t228, A210, H⟩ := H
                      replace H : (if t228 = true then (some false) else (if ji6 = 0 then (none) else (hypogeumlaw12_Gf2Found.l0 k2 (ji18) ji6 (Int.tmod (IntKind.u64.wrap (x9_2 + 1)) ji6) (Int.tmod (t222 / 2) ji6) (wrap64 (x49_2 + 1))))) = some r := H
                      have A21 := Aside0.mk A210
                      clear A210
                      by_cases c22 : t228 = true
                      · subst c22
                        have H1 : (some false) = some r := by rw [if_pos rfl] at H; exact H
                        clear H
                        have H := H1
                        clear H1
                        obtain rfl := Option.some.inj H
                        go_wp2_with (first | (go_at_call 24; (with_reducible refine (gf2_Irreducible.calls k2 (Go.bits .or .u64 (Go.bits .or .u64 (ji20) (IntKind.u64.wrap (x9_2 * 2))) 1) true _ A21.out).mono ?_); rintro e w' ⟨rfl, ⟨nd, rfl⟩⟩; (try first | exact ⟨rfl, _, World.drewN_drewN _ _ _⟩ | exact ⟨rfl, _, Eq.trans (World.drewN_drewN _ _ _) (congrArg (World.drewN _) (Nat.add_assoc _ _ _))⟩)))
                        repeat (go_quiet (first | (go_at_call 24; (with_reducible refine (gf2_Irreducible.calls k2 (Go.bits .or .u64 (Go.bits .or .u64 (ji20) (IntKind.u64.wrap (x9_2 * 2))) 1) true _ A21.out).mono ?_); rintro e w' ⟨rfl, ⟨nd, rfl⟩⟩; (try first | exact ⟨rfl, _, World.drewN_drewN _ _ _⟩ | exact ⟨rfl, _, Eq.trans (World.drewN_drewN _ _ _) (congrArg (World.drewN _) (Nat.add_assoc _ _ _))⟩))); try go_wp2_with (first | (go_at_call 24; (with_reducible refine (gf2_Irreducible.calls k2 (Go.bits .or .u64 (Go.bits .or .u64 (ji20) (IntKind.u64.wrap (x9_2 * 2))) 1) true _ A21.out).mono ?_); rintro e w' ⟨rfl, ⟨nd, rfl⟩⟩; (try first | exact ⟨rfl, _, World.drewN_drewN _ _ _⟩ | exact ⟨rfl, _, Eq.trans (World.drewN_drewN _ _ _) (congrArg (World.drewN _) (Nat.add_assoc _ _ _))⟩))))
                        go_ret
                        exact ⟨by first | rfl | (simp; done) | (simp only [← hji4, ← hji6, ← hji18, ← hji20] <;> (first | rfl | simp)) | (simp [*]; done), by repeat (first | exact Drawn0.refl _ | apply Drawn0.step)⟩
                      · replace c22 := Bool.eq_false_iff.mpr c22
                        subst c22
                        have H1 : (if ji6 = 0 then (none) else (hypogeumlaw12_Gf2Found.l0 k2 (ji18) ji6 (Int.tmod (IntKind.u64.wrap (x9_2 + 1)) ji6) (Int.tmod (t222 / 2) ji6) (wrap64 (x49_2 + 1)))) = some r := by rw [if_neg (show ¬ (false = true) by decide)] at H; exact H
                        clear H
                        have H := H1
                        clear H1
                        by_cases c23 : ji6 = 0
                        · rw [if_pos c23] at H
                          exact absurd H (by simp)
                        · rw [if_neg c23] at H
                          have c23b0 : (ji6 == 0) = false := beq_eq_false_iff_ne.mpr c23
                          have c23b1 : (ji6 != 0) = true := bne_iff_ne.mpr c23
                          have H' := Aside0.mk H
                          clear H
                          go_wp2_with (first | (go_at_call 24; (with_reducible refine (gf2_Irreducible.calls k2 (Go.bits .or .u64 (Go.bits .or .u64 (ji20) (IntKind.u64.wrap (x9_2 * 2))) 1) false _ A21.out).mono ?_); rintro e w' ⟨rfl, ⟨nd, rfl⟩⟩; (try first | exact ⟨rfl, _, World.drewN_drewN _ _ _⟩ | exact ⟨rfl, _, Eq.trans (World.drewN_drewN _ _ _) (congrArg (World.drewN _) (Nat.add_assoc _ _ _))⟩)))
                          repeat (go_quiet (first | (go_at_call 24; (with_reducible refine (gf2_Irreducible.calls k2 (Go.bits .or .u64 (Go.bits .or .u64 (ji20) (IntKind.u64.wrap (x9_2 * 2))) 1) false _ A21.out).mono ?_); rintro e w' ⟨rfl, ⟨nd, rfl⟩⟩; (try first | exact ⟨rfl, _, World.drewN_drewN _ _ _⟩ | exact ⟨rfl, _, Eq.trans (World.drewN_drewN _ _ _) (congrArg (World.drewN _) (Nat.add_assoc _ _ _))⟩))); try go_wp2_with (first | (go_at_call 24; (with_reducible refine (gf2_Irreducible.calls k2 (Go.bits .or .u64 (Go.bits .or .u64 (ji20) (IntKind.u64.wrap (x9_2 * 2))) 1) false _ A21.out).mono ?_); rintro e w' ⟨rfl, ⟨nd, rfl⟩⟩; (try first | exact ⟨rfl, _, World.drewN_drewN _ _ _⟩ | exact ⟨rfl, _, Eq.trans (World.drewN_drewN _ _ _) (congrArg (World.drewN _) (Nat.add_assoc _ _ _))⟩))))
                          subst hji18
                          go_roundg k2
                          case measure => have := HJ6.out; have := HK2.out; omega
                          case rel => exact ⟨(Int.tmod (IntKind.u64.wrap (x9_2 + 1)) ji6), (wrap64 (x49_2 + 1)), (by first | rfl | (simp; done) | (simp only [← hji6] <;> (first | rfl | simp)) | (simp [*]; done)), (by first | rfl | (simp; done) | (simp [*]; done)), H', ⟨by have := HJ6.out; have := HK2.out; omega⟩, by repeat (first | exact Drawn0.refl _ | apply Drawn0.step)⟩
                    · rw [if_neg c19] at H
                      exact absurd H (by simp)
                · rw [if_neg c15] at H
                  have c15b0 : decide (x49_2 < 200) = false := decide_eq_false c15
                  clear c15
                  replace H := Option.bind_eq_some_iff.mp H
                  obtain ⟨t226, A240, H⟩ := H
                  replace H : (some t226) = some r := H
                  have A24 := Aside0.mk A240
                  clear A240
                  obtain rfl := Option.some.inj H
                  go_wp2_with (first | (go_at_call 16; (with_reducible refine (hypogeumlaw12_awake.calls k2  t226 _ A24.out).mono ?_); rintro e w' ⟨rfl, ⟨nd, rfl⟩⟩; (try first | exact ⟨rfl, _, World.drewN_drewN _ _ _⟩ | exact ⟨rfl, _, Eq.trans (World.drewN_drewN _ _ _) (congrArg (World.drewN _) (Nat.add_assoc _ _ _))⟩)))
                  repeat (go_quiet (first | (go_at_call 16; (with_reducible refine (hypogeumlaw12_awake.calls k2  t226 _ A24.out).mono ?_); rintro e w' ⟨rfl, ⟨nd, rfl⟩⟩; (try first | exact ⟨rfl, _, World.drewN_drewN _ _ _⟩ | exact ⟨rfl, _, Eq.trans (World.drewN_drewN _ _ _) (congrArg (World.drewN _) (Nat.add_assoc _ _ _))⟩))); try go_wp2_with (first | (go_at_call 16; (with_reducible refine (hypogeumlaw12_awake.calls k2  t226 _ A24.out).mono ?_); rintro e w' ⟨rfl, ⟨nd, rfl⟩⟩; (try first | exact ⟨rfl, _, World.drewN_drewN _ _ _⟩ | exact ⟨rfl, _, Eq.trans (World.drewN_drewN _ _ _) (congrArg (World.drewN _) (Nat.add_assoc _ _ _))⟩))))
                  go_ret
                  exact ⟨by first | rfl | (simp; done) | (simp only [← hji4, ← hji6] <;> (first | rfl | simp)) | (simp [*]; done), by repeat (first | exact Drawn0.refl _ | apply Drawn0.step)⟩
  · rw [if_neg c5] at H
    exact absurd H (by simp)

/-- THE ONE PURE STATEMENT of hypogeumlaw12_Gf2Found: yours. -/
def hypogeumlaw12_Gf2Found.Pure : Prop := ∀ (a0 : Int) (a1 : Int), (Lit.int .u64 a0).wf = true → (Lit.int .u8 a1).wf = true → ∃ k, hypogeumlaw12_Gf2Found.f k a0 a1 = some true
theorem hypogeumlaw12_Gf2Found.walk (P : hypogeumlaw12_Gf2Found.Pure) (a0 : Int) (a1 : Int) (w : World) (w0 : (Lit.int .u64 a0).wf = true) (w1 : (Lit.int .u8 a1).wf = true) :
    Calls Try.prog 9 #[.int .u64 a0, .int .u8 a1] w fun e w' => e = .returned (.bool true) ∧ Below w.heap.size w w' := by
  obtain ⟨k, h⟩ := P a0 a1 w0 w1
  refine (hypogeumlaw12_Gf2Found.calls k a0 a1 true w h).mono ?_
  rintro e w' ⟨rfl, hd⟩
  exact ⟨rfl, hd.below⟩

end Go.Proofs.Ytgkkimonpfhbdaa.A
