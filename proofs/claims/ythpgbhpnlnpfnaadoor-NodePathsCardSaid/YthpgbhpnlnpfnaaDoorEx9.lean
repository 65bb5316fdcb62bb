-- Written by this session's own program (wip/tools/printx.py, over the kit's printer), with texts by hand laid in.
import Derived.Test.YthpgbhpnlnpfnaaDoorEx0
namespace Go.Proofs.YthpgbhpnlnpfnaaDoor.E
open Go.RowKit Go.Proofs.YthpgbhpnlnpfnaaDoorW.PrintWords Go.Proofs.YthpgbhpnlnpfnaaDoorW.PrintLast Go.Proofs.YthpgbhpnlnpfnaaDoorW.PrintMore
attribute [local go_sem] max2_int min2_int max_two min_two max_three min_three max_four min_four   -- for this text's walks alone
set_option linter.unusedVariables false
set_option linter.unusedSimpArgs false

/-! ### hypogeumref17_digits: function 63 -/
def hypogeumref17_digits.f : Nat → Int → Option (List Int)
  | 0, _ => none
  | k + 1, a0 => if a0 = 0 then (some ([] : List Int)) else ((hypogeumref17_digits.f k (wrap64 (Int.tdiv a0 256))).bind fun t211 => (if t211.length < 140737488355328 then (some (t211 ++ [(Int.tmod a0 256) % 256])) else (none)))
theorem hypogeumref17_digits.mono_l : ∀ k, (∀ y0, LeO (hypogeumref17_digits.f k y0) (hypogeumref17_digits.f (k + 1) y0))
  | 0 => fun _ r h => by simp [hypogeumref17_digits.f] at h
  | k + 1 => by
    have ih0 := hypogeumref17_digits.mono_l k
    · intro y0
      unfold hypogeumref17_digits.f
      repeat' first
      | (with_reducible exact ih0 _)
      | (with_reducible exact LeO.refl _)
      | (with_reducible exact LeO.none _)
      | (with_reducible refine LeO.ite ?_ ?_)
      | (with_reducible refine LeO.bind ?_ (fun _ => ?_))
      | exact ih0 _
      | exact LeO.none _
      | refine LeO.ite ?_ ?_
      | refine LeO.bind ?_ (fun _ => ?_)
theorem hypogeumref17_digits.mono : ∀ a0 k, LeO (hypogeumref17_digits.f k a0) (hypogeumref17_digits.f (k + 1) a0) := by
  intro a0 k
  have ih0 := hypogeumref17_digits.mono_l k
  exact ih0 a0
set_option maxHeartbeats 8000000 in
set_option maxRecDepth 100000 in
theorem hypogeumref17_digits.calls (k : Nat) : ∀ (a0 : Int) (r : List Int) (w : World) (h : hypogeumref17_digits.f k a0 = some r),
    Calls Tryd.prog 63 #[.int .i64 a0] w fun e w' => ∃ v0_ : Value, e = .returned (v0_) ∧ Kd.R (Kd.int .u8) 5 w' w.heap.size (fun _ => True) v0_ r ∧ Below w.heap.size w w' := by
  induction k using Nat.strongRecOn with
  | _ k ih =>
  intro a0 r w h
  cases k with
  | zero => exact absurd h (by simp [hypogeumref17_digits.f])
  | succ k =>
  simp only [hypogeumref17_digits.f] at h
  have HB := Aside0.mk (Below.refl w.heap.size w)
  have H : (if a0 = 0 then (some ([] : List Int)) else ((hypogeumref17_digits.f k (wrap64 (Int.tdiv a0 256))).bind fun t211 => (if t211.length < 140737488355328 then (some (t211 ++ [(Int.tmod a0 256) % 256])) else (none)))) = some r := h
  clear h
  by_cases c2 : a0 = 0
  · rw [if_pos c2] at H
    have c2b0 : (a0 == 0) = true := beq_iff_eq.mpr c2
    have c2b1 : (a0 != 0) = false := bne_eq_false_iff_eq.mpr c2
    clear c2
    obtain rfl := Option.some.inj H
    go_enter Tryd.func63, Tryd.ntmps63
    go_wp2
    go_ret
    exact ⟨_, by first | rfl | (simp [errW_none, errW_some] <;> rfl) | (simp [*, errW_none, errW_some] <;> rfl), by first | exact Kd.R_nil _ _ _ _ _ | exact Kd.N_nil _ _ _ _ _ | exact Kd.V_nil _ _ _ _ _ | exact Kd.Q_nil _ _ _ _ _ | exact Kd.S_nil _ _ _ _ _, by repeat (first | (with_reducible first | exact HB.out | apply below_alloc | apply pw_below_drewN | apply below_drew1) | exact HB.out)⟩
  · rw [if_neg c2] at H
    have c2b0 : (a0 == 0) = false := beq_eq_false_iff_ne.mpr c2
    have c2b1 : (a0 != 0) = true := bne_iff_ne.mpr c2
    replace H := Option.bind_eq_some_iff.mp H
    obtain ⟨t211, A30, H⟩ := H
    replace H : (if t211.length < 140737488355328 then (some (t211 ++ [(Int.tmod a0 256) % 256])) else (none)) = some r := H
    have A3 := Aside0.mk A30
    clear A30
    by_cases c4 : t211.length < 140737488355328
    · rw [if_pos c4] at H
      have LMc4 := Aside0.mk c4
      clear c4
      obtain ⟨y214, hy214⟩ : ∃ y_ : List Int, y_ = (t211 ++ [(Int.tmod a0 256) % 256]) := ⟨_, rfl⟩
      replace H : (some y214) = some r := by first | (rw [hy214]; with_reducible exact H) | (have H2_ := (Option.bind_some _ _).symm.trans H; rw [hy214]; with_reducible exact H2_) | (have H2_ := (Option.bind_some _ _).symm.trans H; with_reducible exact H2_) | with_reducible exact H | (rw [hy214]; exact H) | exact H
      have Ny214 := Aside0.mk hy214
      clear hy214
      obtain rfl := Option.some.inj H
      go_enter Tryd.func63, Tryd.ntmps63
      go_wp2_with (first | ((with_reducible refine gate_callee (f := 63) rfl ?_); refine goesL_ (some 7) rfl rfl Tryd.func63 (by kernel_rfl) rfl #[.int .i64 (wrap64 (Int.tdiv a0 256))] rfl (by (try simp only [List.map_toArray, List.map_cons, List.map_nil]); first | done | rfl | (simp only [List.length_drop, List.length_take]; rfl)) ?_; (with_reducible refine (ih k (by omega) (wrap64 (Int.tdiv a0 256)) t211 _ A3.out).mono ?_); rintro e w5 ⟨v212, rfl, ho0, hb⟩; refine ⟨_, rfl, ?_⟩; have n0_ := Aside0.mk (Kd.R_lower ho0 (below_size (by repeat (first | (with_reducible first | exact HB.out | apply below_alloc | apply pw_below_drewN | apply below_drew1) | exact HB.out)))); have n1_ := Aside0.mk (below_step (by repeat (first | (with_reducible first | exact HB.out | apply below_alloc | apply pw_below_drewN | apply below_drew1) | exact HB.out)) hb); clear HB; have HO213 := n0_; have HB := n1_; clear n0_ n1_; (try clear hb); (try clear hb2); (try clear hk); (try clear hi); (try clear ho0)) | ((with_reducible refine gate_builtin (b := .append) (xs := #[.tmp 7, .tmp 11]) rfl ?_); at_builtin; refine Kd.R_append (Kd.int .u8) (w0 := w) w.heap.size rfl (.tmp 7) (.tmp 11) 25 5 (.int .u8 0) 1 rfl Tryd.underlying25 info5 rfl (by decide) (by omega) v212 t211 ((Int.tmod a0 256) % 256) [.int .u8 ((Int.tmod a0 256) % 256)] (fun _ => True) (fun _ => False) rfl rfl ?aP (fun _ hk => hk.elim) ?aF ?aO ?aB ?aS ?aL ?_; (case aP => exact rfl); (case aB => exact (by repeat (first | (with_reducible first | exact HB.out | apply below_alloc | apply pw_below_drewN | apply below_drew1) | exact HB.out))); (case aF => exact (fun _ _ => trivial)); (case aO => exact (by (with_reducible repeat (first | apply Kd.R_alloc | apply Kd.R_drewN | apply Kd.R_drew)); exact HO213.out)); (case aS => exact (below_size (by repeat (first | (with_reducible first | exact HB.out | apply below_alloc | apply pw_below_drewN | apply below_drew1) | exact HB.out)))); (case aL => have := LMc4.out; omega); intro v215 w6 ho hb hg hat; rw [← Ny214.out] at ho; have n0_ := Aside0.mk (hb); have n1_ := Aside0.mk (ho); clear HB; clear HO213; have HB := n0_; have HO216 := n1_; clear n0_ n1_; clear ho hb hg hat))
      go_ret
      exact ⟨_, by first | rfl | (simp [errW_none, errW_some] <;> rfl) | (simp [*, errW_none, errW_some] <;> rfl), by (with_reducible repeat (first | apply Kd.R_alloc | apply Kd.R_drewN | apply Kd.R_drew)); exact HO216.out, by repeat (first | (with_reducible first | exact HB.out | apply below_alloc | apply pw_below_drewN | apply below_drew1) | exact HB.out)⟩
    · rw [if_neg c4] at H
      exact absurd H (by simp)

/-! ### hypogeumref17_Number: function 40 -/
def hypogeumref17_Number.f (k : Nat) (l0 : List Int) (a1 : Int) : Option (List Int) := (hypogeumref17_digits.f k (mn (mx a1 0) 9007199254740992)).bind fun t217 => ((some (([] : List Int) : List Int)).bind fun y220 => (if y220.length + l0.length < 140737488355328 then ((some (y220 ++ l0 : List Int)).bind fun y223 => (if y223.length < 140737488355328 then ((some (y223 ++ [((t217.length : Int)) % 256] : List Int)).bind fun y226 => (if y226.length + t217.length < 140737488355328 then (some (y226 ++ t217)) else (none))) else (none))) else (none)))
theorem hypogeumref17_Number.mono : ∀ a0 a1 k, LeO (hypogeumref17_Number.f k a0 a1) (hypogeumref17_Number.f (k + 1) a0 a1) := by
  intro a0 a1 k
  unfold hypogeumref17_Number.f
  repeat' first
      | (with_reducible exact hypogeumref17_digits.mono _ _)
      | (with_reducible exact LeO.refl _)
      | (with_reducible exact LeO.none _)
      | (with_reducible refine LeO.ite ?_ ?_)
      | (with_reducible refine LeO.bind ?_ (fun _ => ?_))
      | exact hypogeumref17_digits.mono _ _
      | exact LeO.none _
      | refine LeO.ite ?_ ?_
      | refine LeO.bind ?_ (fun _ => ?_)
set_option maxHeartbeats 8000000 in
set_option maxRecDepth 100000 in
theorem hypogeumref17_Number.calls (k : Nat) (A0 : Option Addr) (c0 : Nat) (l0 : List Int) (a1 : Int) (r : List Int) (w : World) (hr0 : Kd.C (Kd.int .u8) w A0 l0.length l0) (hc0 : l0.length ≤ c0) (h : hypogeumref17_Number.f k l0 a1 = some r) :
    Calls Tryd.prog 40 #[.slice A0 l0.length c0, .int .i64 a1] w fun e w' => ∃ v0_ : Value, e = .returned (v0_) ∧ Kd.R (Kd.int .u8) 5 w' w.heap.size (fun _ => True) v0_ r ∧ Below w.heap.size w w' := by
  have HR0 := Aside0.mk hr0
  have HC0 := Aside0.mk hc0
  clear hr0 hc0
  have HB := Aside0.mk (Below.refl w.heap.size w)
  have H : ((hypogeumref17_digits.f k (mn (mx a1 0) 9007199254740992)).bind fun t217 => ((some (([] : List Int) : List Int)).bind fun y220 => (if y220.length + l0.length < 140737488355328 then ((some (y220 ++ l0 : List Int)).bind fun y223 => (if y223.length < 140737488355328 then ((some (y223 ++ [((t217.length : Int)) % 256] : List Int)).bind fun y226 => (if y226.length + t217.length < 140737488355328 then (some (y226 ++ t217)) else (none))) else (none))) else (none)))) = some r := h
  clear h
  obtain ⟨ji3, hji3⟩ : ∃ j_ : Int, (mx a1 0) = j_ := ⟨_, rfl⟩
  replace H : ((hypogeumref17_digits.f k (mn (ji3) 9007199254740992)).bind fun t217 => ((some (([] : List Int) : List Int)).bind fun y220 => (if y220.length + l0.length < 140737488355328 then ((some (y220 ++ l0 : List Int)).bind fun y223 => (if y223.length < 140737488355328 then ((some (y223 ++ [((t217.length : Int)) % 256] : List Int)).bind fun y226 => (if y226.length + t217.length < 140737488355328 then (some (y226 ++ t217)) else (none))) else (none))) else (none)))) = some r := by first | (rw [hji3] at H; exact H) | (simp only [hji3] at H ⊢; exact H)
  (try (have hji3l : 0 ≤ ji3 := by (rw [← hji3]; unfold mx; (repeat' split) <;> omega)))
  (try (have hji3m : 0 ≤ ji3 := by omega))
  have hji3_ : (if a1 < 0 then 0 else a1) = ji3 := hji3
  obtain ⟨ji4, hji4⟩ : ∃ j_ : Int, (mn (ji3) 9007199254740992) = j_ := ⟨_, rfl⟩
  replace H : ((hypogeumref17_digits.f k (ji4)).bind fun t217 => ((some (([] : List Int) : List Int)).bind fun y220 => (if y220.length + l0.length < 140737488355328 then ((some (y220 ++ l0 : List Int)).bind fun y223 => (if y223.length < 140737488355328 then ((some (y223 ++ [((t217.length : Int)) % 256] : List Int)).bind fun y226 => (if y226.length + t217.length < 140737488355328 then (some (y226 ++ t217)) else (none))) else (none))) else (none)))) = some r := by first | (rw [hji4] at H; exact H) | (simp only [hji4] at H ⊢; exact H)
  have hji4_ : (if 9007199254740992 < (ji3) then 9007199254740992 else (ji3)) = ji4 := hji4
  replace H := Option.bind_eq_some_iff.mp H
  obtain ⟨t217, A50, H⟩ := H
  replace H : ((some (([] : List Int) : List Int)).bind fun y220 => (if y220.length + l0.length < 140737488355328 then ((some (y220 ++ l0 : List Int)).bind fun y223 => (if y223.length < 140737488355328 then ((some (y223 ++ [((t217.length : Int)) % 256] : List Int)).bind fun y226 => (if y226.length + t217.length < 140737488355328 then (some (y226 ++ t217)) else (none))) else (none))) else (none))) = some r := H
  have A5 := Aside0.mk A50
  clear A50
  obtain ⟨y220, hy220⟩ : ∃ y_ : List Int, y_ = (([] : List Int)) := ⟨_, rfl⟩
  replace H : (if y220.length + l0.length < 140737488355328 then ((some (y220 ++ l0 : List Int)).bind fun y223 => (if y223.length < 140737488355328 then ((some (y223 ++ [((t217.length : Int)) % 256] : List Int)).bind fun y226 => (if y226.length + t217.length < 140737488355328 then (some (y226 ++ t217)) else (none))) else (none))) else (none)) = some r := by first | (rw [hy220]; with_reducible exact H) | (have H2_ := (Option.bind_some _ _).symm.trans H; rw [hy220]; with_reducible exact H2_) | (have H2_ := (Option.bind_some _ _).symm.trans H; with_reducible exact H2_) | with_reducible exact H | (rw [hy220]; exact H) | exact H
  have Ny220 := Aside0.mk hy220
  clear hy220
  by_cases c6 : y220.length + l0.length < 140737488355328
  · rw [if_pos c6] at H
    have LMc6 := Aside0.mk c6
    clear c6
    obtain ⟨y223, hy223⟩ : ∃ y_ : List Int, y_ = (y220 ++ l0) := ⟨_, rfl⟩
    replace H : (if y223.length < 140737488355328 then ((some (y223 ++ [((t217.length : Int)) % 256] : List Int)).bind fun y226 => (if y226.length + t217.length < 140737488355328 then (some (y226 ++ t217)) else (none))) else (none)) = some r := by first | (rw [hy223]; with_reducible exact H) | (have H2_ := (Option.bind_some _ _).symm.trans H; rw [hy223]; with_reducible exact H2_) | (have H2_ := (Option.bind_some _ _).symm.trans H; with_reducible exact H2_) | with_reducible exact H | (rw [hy223]; exact H) | exact H
    have Ny223 := Aside0.mk hy223
    clear hy223
    by_cases c7 : y223.length < 140737488355328
    · rw [if_pos c7] at H
      have LMc7 := Aside0.mk c7
      clear c7
      obtain ⟨y226, hy226⟩ : ∃ y_ : List Int, y_ = (y223 ++ [((t217.length : Int)) % 256]) := ⟨_, rfl⟩
      replace H : (if y226.length + t217.length < 140737488355328 then (some (y226 ++ t217)) else (none)) = some r := by first | (rw [hy226]; with_reducible exact H) | (have H2_ := (Option.bind_some _ _).symm.trans H; rw [hy226]; with_reducible exact H2_) | (have H2_ := (Option.bind_some _ _).symm.trans H; with_reducible exact H2_) | with_reducible exact H | (rw [hy226]; exact H) | exact H
      have Ny226 := Aside0.mk hy226
      clear hy226
      by_cases c8 : y226.length + t217.length < 140737488355328
      · rw [if_pos c8] at H
        have LMc8 := Aside0.mk c8
        clear c8
        obtain ⟨y229, hy229⟩ : ∃ y_ : List Int, y_ = (y226 ++ t217) := ⟨_, rfl⟩
        replace H : (some y229) = some r := by first | (rw [hy229]; with_reducible exact H) | (have H2_ := (Option.bind_some _ _).symm.trans H; rw [hy229]; with_reducible exact H2_) | (have H2_ := (Option.bind_some _ _).symm.trans H; with_reducible exact H2_) | with_reducible exact H | (rw [hy229]; exact H) | exact H
        have Ny229 := Aside0.mk hy229
        clear hy229
        obtain rfl := Option.some.inj H
        go_enter Tryd.func40, Tryd.ntmps40
        go_wp2_with (first | ((with_reducible refine gate_callee (f := 63) rfl ?_); refine goesL_ (some 10) rfl rfl Tryd.func63 (by kernel_rfl) rfl #[.int .i64 ji4] rfl (by (try simp only [List.map_toArray, List.map_cons, List.map_nil]); first | done | (simp only [hji4]; rfl) | rfl | (simp only [List.length_drop, List.length_take]; rfl)) ?_; (with_reducible refine (hypogeumref17_digits.calls k ji4 t217 _ A5.out).mono ?_); rintro e w9 ⟨v218, rfl, ho0, hb⟩; refine ⟨_, rfl, ?_⟩; have n0_ := Aside0.mk (Kd.R_lower ho0 (below_size (by repeat (first | (with_reducible first | exact HB.out | apply below_alloc | apply pw_below_drewN | apply below_drew1) | exact HB.out)))); have n1_ := Aside0.mk (below_step (by repeat (first | (with_reducible first | exact HB.out | apply below_alloc | apply pw_below_drewN | apply below_drew1) | exact HB.out)) hb); clear HB; have HO219 := n0_; have HB := n1_; clear n0_ n1_; (try clear hb); (try clear hb2); (try clear hk); (try clear hi); (try clear ho0)) | ((with_reducible refine gate_dst (N := 11) rfl ?_); refine Kd.R_lit (Kd.int .u8) _ 5 ?hg (N := 11) ?hd (xs := ([] : List Int)) (inner := []) (ok := fun _ => True) (okp := fun _ => True) ?hr ?hp (fun _ hk => hk) trivial (Below.refl _ _) (Nat.le_refl _) (by simp) ?_; (case hd => rfl); (case hg => rfl); (case hr => first | (go_simp; done) | (go_simp; rfl)); (case hp => exact (Reps.none _ _)); intro v221 w10 ho11 hb hg_ hnew_; clear hg_ hnew_; (first | rw [← Ny220.out] at ho11 | (simp only [Int.reduceToNat] at ho11; rw [← Ny220.out] at ho11)); have n0_ := Aside0.mk (Kd.R_elder' (by (with_reducible repeat (first | apply Kd.R_alloc | apply Kd.R_drewN | apply Kd.R_drew)); exact HO219.out) (Kd.R_base ho11) hb); have n1_ := Aside0.mk (Kd.R_lower (Kd.R_new' ho11 (Kd.R_lt (by (with_reducible repeat (first | apply Kd.R_alloc | apply Kd.R_drewN | apply Kd.R_drew)); exact HO219.out))) (below_size (by repeat (first | (with_reducible first | exact HB.out | apply below_alloc | apply pw_below_drewN | apply below_drew1) | exact HB.out)))); have n2_ := Aside0.mk (below_step (by repeat (first | (with_reducible first | exact HB.out | apply below_alloc | apply pw_below_drewN | apply below_drew1) | exact HB.out)) hb); clear HO219; clear HB; have HO219 := n0_; have HO222 := n1_; have HB := n2_; clear n0_ n1_ n2_; clear hb ho11) | ((with_reducible refine gate_builtin (b := .append) (xs := #[.tmp 11, .tmp 12]) rfl ?_); at_builtin; refine Kd.R_append_rows (Kd.int .u8) (w0 := w) w.heap.size rfl (.tmp 11) (.tmp 12) 25 5 (.int .u8 0) 1 rfl Tryd.underlying25 info5 rfl (by decide) (by omega) v221 y220 l0 _ _ _ (fun k_ => some k_ ≠ (v218 : Value).ownBlock) (fun _ => False) rfl rfl ?aO ?aR (fun _ _ h => h) (fun _ h => h.elim) ?aF ?aB ?aS ?aL ?_; (case aR => repeat (first | exact (Kd.C_below HR0.out HB.out) | (with_reducible refine Kd.C_alloc ?_ _) | (with_reducible refine Kd.C_drewN ?_ _) | (with_reducible refine Kd.C_drew ?_))); (case aB => exact (by repeat (first | (with_reducible first | exact HB.out | apply below_alloc | apply pw_below_drewN | apply below_drew1) | exact HB.out))); (case aF => exact (fun k_ hk => Kd.fresh' (Kd.R_lt (by (with_reducible repeat (first | apply Kd.R_alloc | apply Kd.R_drewN | apply Kd.R_drew)); exact HO219.out)) k_ hk)); (case aO => exact (by (with_reducible repeat (first | apply Kd.R_alloc | apply Kd.R_drewN | apply Kd.R_drew)); exact Kd.R_mono HO222.out (fun _ hk => hk.2))); (case aS => exact (below_size (by repeat (first | (with_reducible first | exact HB.out | apply below_alloc | apply pw_below_drewN | apply below_drew1) | exact HB.out)))); (case aL => have := LMc6.out; omega); intro v224 w12 ho hb hg hat; rw [← Ny223.out] at ho; have n0_ := Aside0.mk (Kd.R_after (ok := (fun _ => True)) (by (with_reducible repeat (first | apply Kd.R_alloc | apply Kd.R_drewN | apply Kd.R_drew)); exact HO219.out) hg hat); have n1_ := Aside0.mk (hb); have n2_ := Aside0.mk (ho); clear HO219; clear HB; clear HO222; have HO219 := n0_; have HB := n1_; have HO225 := n2_; clear n0_ n1_ n2_; clear ho hb hg hat; obtain ⟨Ao13, co13, eo13⟩ := Kd.R_slice HO219.out; subst eo13) | ((with_reducible refine gate_builtin (b := .append) (xs := #[.tmp 13, .tmp 17]) rfl ?_); at_builtin; refine Kd.R_append (Kd.int .u8) (w0 := w) w.heap.size rfl (.tmp 13) (.tmp 17) 25 5 (.int .u8 0) 1 rfl Tryd.underlying25 info5 rfl (by decide) (by omega) v224 y223 (((t217.length : Int)) % 256) [.int .u8 (((t217.length : Int)) % 256)] (fun k_ => some k_ ≠ (.slice Ao13 t217.length co13 : Value).ownBlock) (fun _ => False) rfl rfl ?aP (fun _ hk => hk.elim) ?aF ?aO ?aB ?aS ?aL ?_; (case aP => exact rfl); (case aB => exact (by repeat (first | (with_reducible first | exact HB.out | apply below_alloc | apply pw_below_drewN | apply below_drew1) | exact HB.out))); (case aF => exact (fun k_ hk => Kd.fresh' (Kd.R_lt (by (with_reducible repeat (first | apply Kd.R_alloc | apply Kd.R_drewN | apply Kd.R_drew)); exact HO219.out)) k_ hk)); (case aO => exact (by (with_reducible repeat (first | apply Kd.R_alloc | apply Kd.R_drewN | apply Kd.R_drew)); exact HO225.out)); (case aS => exact (below_size (by repeat (first | (with_reducible first | exact HB.out | apply below_alloc | apply pw_below_drewN | apply below_drew1) | exact HB.out)))); (case aL => have := LMc7.out; omega); intro v227 w14 ho hb hg hat; rw [← Ny226.out] at ho; have n0_ := Aside0.mk (Kd.R_after (ok := (fun _ => True)) (by (with_reducible repeat (first | apply Kd.R_alloc | apply Kd.R_drewN | apply Kd.R_drew)); exact HO219.out) hg hat); have n1_ := Aside0.mk (hb); have n2_ := Aside0.mk (ho); clear HO219; clear HB; clear HO225; have HO219 := n0_; have HB := n1_; have HO228 := n2_; clear n0_ n1_ n2_; clear ho hb hg hat) | ((with_reducible refine gate_builtin (b := .append) (xs := #[.tmp 19, .tmp 20]) rfl ?_); at_builtin; refine Kd.R_append_rows (Kd.int .u8) (w0 := w) w.heap.size rfl (.tmp 19) (.tmp 20) 25 5 (.int .u8 0) 1 rfl Tryd.underlying25 info5 rfl (by decide) (by omega) v227 y226 t217 _ _ _ (fun k_ => some k_ ≠ (.slice Ao13 t217.length co13 : Value).ownBlock) (fun _ => False) rfl rfl ?aO ?aR (fun _ _ h => h) (fun _ h => h.elim) ?aF ?aB ?aS ?aL ?_; (case aR => repeat (first | exact (Kd.R_reads' HO219.out).2.2 | (with_reducible refine Kd.C_alloc ?_ _) | (with_reducible refine Kd.C_drewN ?_ _) | (with_reducible refine Kd.C_drew ?_))); (case aB => exact (by repeat (first | (with_reducible first | exact HB.out | apply below_alloc | apply pw_below_drewN | apply below_drew1) | exact HB.out))); (case aF => exact (fun k_ hk => Kd.fresh' (Kd.R_lt (by (with_reducible repeat (first | apply Kd.R_alloc | apply Kd.R_drewN | apply Kd.R_drew)); exact HO219.out)) k_ hk)); (case aO => exact (by (with_reducible repeat (first | apply Kd.R_alloc | apply Kd.R_drewN | apply Kd.R_drew)); exact HO228.out)); (case aS => exact (below_size (by repeat (first | (with_reducible first | exact HB.out | apply below_alloc | apply pw_below_drewN | apply below_drew1) | exact HB.out)))); (case aL => have := LMc8.out; omega); intro v230 w15 ho hb hg hat; rw [← Ny229.out] at ho; have n0_ := Aside0.mk (Kd.R_after (ok := (fun _ => True)) (by (with_reducible repeat (first | apply Kd.R_alloc | apply Kd.R_drewN | apply Kd.R_drew)); exact HO219.out) hg hat); have n1_ := Aside0.mk (hb); have n2_ := Aside0.mk (ho); clear HO219; clear HB; clear HO228; have HO219 := n0_; have HB := n1_; have HO231 := n2_; clear n0_ n1_ n2_; clear ho hb hg hat))
        go_ret
        exact ⟨_, by first | rfl | (simp [errW_none, errW_some] <;> rfl) | (simp only [← hji3, ← hji4]; first | rfl | (simp [errW_none, errW_some] <;> rfl)) | (simp [*, errW_none, errW_some] <;> rfl), by (with_reducible repeat (first | apply Kd.R_alloc | apply Kd.R_drewN | apply Kd.R_drew)); exact Kd.R_mono HO231.out (fun _ hk => trivial), by repeat (first | (with_reducible first | exact HB.out | apply below_alloc | apply pw_below_drewN | apply below_drew1) | exact HB.out)⟩
      · rw [if_neg c8] at H
        exact absurd H (by simp)
    · rw [if_neg c7] at H
      exact absurd H (by simp)
  · rw [if_neg c6] at H
    exact absurd H (by simp)

/-! ### hypogeumref17_Text: function 39 -/
def hypogeumref17_Text.f (k : Nat) (l0 : List Int) (l1 : List Int) : Option (List Int) := (hypogeumref17_Number.f k l0 (l1.length : Int)).bind fun t232 => (if t232.length + l1.length < 140737488355328 then (some (t232 ++ l1)) else (none))
theorem hypogeumref17_Text.mono : ∀ a0 a1 k, LeO (hypogeumref17_Text.f k a0 a1) (hypogeumref17_Text.f (k + 1) a0 a1) := by
  intro a0 a1 k
  unfold hypogeumref17_Text.f
  repeat' first
      | (with_reducible exact hypogeumref17_Number.mono _ _ _)
      | (with_reducible exact LeO.refl _)
      | (with_reducible exact LeO.none _)
      | (with_reducible refine LeO.ite ?_ ?_)
      | (with_reducible refine LeO.bind ?_ (fun _ => ?_))
      | exact hypogeumref17_Number.mono _ _ _
      | exact LeO.none _
      | refine LeO.ite ?_ ?_
      | refine LeO.bind ?_ (fun _ => ?_)
set_option maxHeartbeats 8000000 in
set_option maxRecDepth 100000 in
theorem hypogeumref17_Text.calls (k : Nat) (A0 : Option Addr) (c0 : Nat) (l0 : List Int) (A1 : Option Addr) (c1 : Nat) (l1 : List Int) (r : List Int) (w : World) (hr0 : Kd.C (Kd.int .u8) w A0 l0.length l0) (hc0 : l0.length ≤ c0) (hr1 : Kd.C (Kd.int .u8) w A1 l1.length l1) (hc1 : l1.length ≤ c1) (h : hypogeumref17_Text.f k l0 l1 = some r) :
    Calls Tryd.prog 39 #[.slice A0 l0.length c0, .slice A1 l1.length c1] w fun e w' => ∃ v0_ : Value, e = .returned (v0_) ∧ Kd.R (Kd.int .u8) 5 w' w.heap.size (fun _ => True) v0_ r ∧ Below w.heap.size w w' := by
  have HR0 := Aside0.mk hr0
  have HC0 := Aside0.mk hc0
  clear hr0 hc0
  have HR1 := Aside0.mk hr1
  have HC1 := Aside0.mk hc1
  clear hr1 hc1
  have HB := Aside0.mk (Below.refl w.heap.size w)
  have H : ((hypogeumref17_Number.f k l0 (l1.length : Int)).bind fun t232 => (if t232.length + l1.length < 140737488355328 then (some (t232 ++ l1)) else (none))) = some r := h
  clear h
  replace H := Option.bind_eq_some_iff.mp H
  obtain ⟨t232, A30, H⟩ := H
  replace H : (if t232.length + l1.length < 140737488355328 then (some (t232 ++ l1)) else (none)) = some r := H
  have A3 := Aside0.mk A30
  clear A30
  by_cases c4 : t232.length + l1.length < 140737488355328
  · rw [if_pos c4] at H
    have LMc4 := Aside0.mk c4
    clear c4
    obtain ⟨y235, hy235⟩ : ∃ y_ : List Int, y_ = (t232 ++ l1) := ⟨_, rfl⟩
    replace H : (some y235) = some r := by first | (rw [hy235]; with_reducible exact H) | (have H2_ := (Option.bind_some _ _).symm.trans H; rw [hy235]; with_reducible exact H2_) | (have H2_ := (Option.bind_some _ _).symm.trans H; with_reducible exact H2_) | with_reducible exact H | (rw [hy235]; exact H) | exact H
    have Ny235 := Aside0.mk hy235
    clear hy235
    obtain rfl := Option.some.inj H
    go_enter Tryd.func39, Tryd.ntmps39
    go_wp2_with (first | ((with_reducible refine gate_callee (f := 40) rfl ?_); refine goesL_ (some 8) rfl rfl Tryd.func40 (by kernel_rfl) rfl #[.slice A0 l0.length c0, .int .i64 (l1.length : Int)] rfl (by (try simp only [List.map_toArray, List.map_cons, List.map_nil]); first | done | rfl | (simp only [List.length_drop, List.length_take]; rfl)) ?_; (with_reducible refine (hypogeumref17_Number.calls k _ _ l0 (l1.length : Int) t232 _ ?side1 ?side2 A3.out).mono ?_); (case side1 => repeat (first | exact HR0.out | (with_reducible refine Kd.C_alloc ?_ _) | (with_reducible refine Kd.C_drewN ?_ _) | (with_reducible refine Kd.C_drew ?_))); (case side2 => exact HC0.out); rintro e w5 ⟨v233, rfl, ho0, hb⟩; refine ⟨_, rfl, ?_⟩; have n0_ := Aside0.mk (Kd.R_lower ho0 (below_size (by repeat (first | (with_reducible first | exact HB.out | apply below_alloc | apply pw_below_drewN | apply below_drew1) | exact HB.out)))); have n1_ := Aside0.mk (below_step (by repeat (first | (with_reducible first | exact HB.out | apply below_alloc | apply pw_below_drewN | apply below_drew1) | exact HB.out)) hb); clear HB; have HO234 := n0_; have HB := n1_; clear n0_ n1_; (try clear hb); (try clear hb2); (try clear hk); (try clear hi); (try clear ho0)) | ((with_reducible refine gate_builtin (b := .append) (xs := #[.tmp 8, .tmp 9]) rfl ?_); at_builtin; refine Kd.R_append_rows (Kd.int .u8) (w0 := w) w.heap.size rfl (.tmp 8) (.tmp 9) 25 5 (.int .u8 0) 1 rfl Tryd.underlying25 info5 rfl (by decide) (by omega) v233 t232 l1 _ _ _ (fun _ => True) (fun _ => False) rfl rfl ?aO ?aR (fun _ _ h => h) (fun _ h => h.elim) ?aF ?aB ?aS ?aL ?_; (case aR => repeat (first | exact (Kd.C_below HR1.out HB.out) | (with_reducible refine Kd.C_alloc ?_ _) | (with_reducible refine Kd.C_drewN ?_ _) | (with_reducible refine Kd.C_drew ?_))); (case aB => exact (by repeat (first | (with_reducible first | exact HB.out | apply below_alloc | apply pw_below_drewN | apply below_drew1) | exact HB.out))); (case aF => exact (fun _ _ => trivial)); (case aO => exact (by (with_reducible repeat (first | apply Kd.R_alloc | apply Kd.R_drewN | apply Kd.R_drew)); exact HO234.out)); (case aS => exact (below_size (by repeat (first | (with_reducible first | exact HB.out | apply below_alloc | apply pw_below_drewN | apply below_drew1) | exact HB.out)))); (case aL => have := LMc4.out; omega); intro v236 w6 ho hb hg hat; rw [← Ny235.out] at ho; have n0_ := Aside0.mk (hb); have n1_ := Aside0.mk (ho); clear HB; clear HO234; have HB := n0_; have HO237 := n1_; clear n0_ n1_; clear ho hb hg hat))
    go_ret
    exact ⟨_, by first | rfl | (simp [errW_none, errW_some] <;> rfl) | (simp [*, errW_none, errW_some] <;> rfl), by (with_reducible repeat (first | apply Kd.R_alloc | apply Kd.R_drewN | apply Kd.R_drew)); exact HO237.out, by repeat (first | (with_reducible first | exact HB.out | apply below_alloc | apply pw_below_drewN | apply below_drew1) | exact HB.out)⟩
  · rw [if_neg c4] at H
    exact absurd H (by simp)

/-! ### hypogeumref21_Text: function 21 -/
theorem text_nil (k : Nat) (A1 : Option Addr) (c1 : Nat) (l1 : List Int) (r : List Int) (w : World) (hr1 : Kd.C (Kd.int .u8) w A1 l1.length l1) (hc1 : l1.length ≤ c1) (h : hypogeumref17_Text.f k [] l1 = some r) :
    Calls Tryd.prog 39 #[.slice none 0 0, .slice A1 l1.length c1] w fun e w' => ∃ v0_ : Value, e = .returned (v0_) ∧ Kd.R (Kd.int .u8) 5 w' w.heap.size (fun _ => True) v0_ r ∧ Below w.heap.size w w' :=
  hypogeumref17_Text.calls k none 0 [] A1 c1 l1 r w ⟨rfl, by decide, fun h => absurd h (by decide)⟩ (Nat.le_refl _) hr1 hc1 h
/-- a text as bytes: a row that is read -/
theorem wpList_bytes21 {ops : Array Oper} {rest : List Oper} {o : Oper} {a : Act} {w : World} {Q : Exit → Act → World → Prop} (hgd : o.guard = none) (x : Operand) (ho : o.op = .convert 9 25 x) (s : ByteArray) (hx : a.eval x = .string s) (hs : s.size ≤ 140737488355328)
    (h : ∀ (A : Option Addr) (c : Nat) (w1 : World), Kd.C (Kd.int .u8) w1 A (bytesOf s).length (bytesOf s) → (bytesOf s).length ≤ c → Below w.heap.size w w1 → wpList Tryd.prog ops Q rest (a.put o.dst (.slice A (bytesOf s).length c)) w1) : wpList Tryd.prog ops Q (o :: rest) a w := by
  refine wpList_plain hgd fun K hK => ?_
  have hr := Lib.run_convert_string_bytes (P := Tryd.prog) w 9 25 5 s Tryd.underlying9 Tryd.underlying25 Tryd.underlying5
  have hcap : s.size ≤ grownCap w s.size 0 5 := grownCap_ge w s.size 0 5
  have hbel : Below w.heap.size w (Lib.bytesWorld w 5 s) := bytes_below (Below.refl _ _) (Nat.le_refl _) 5 s
  have hrd := bytes_reads w 5 s (by omega)
  have hC : Kd.C (Kd.int .u8) (Lib.bytesWorld w 5 s) (some ⟨w.heap.size, 0, none⟩) (bytesOf s).length (bytesOf s) := Kd.C_of_reads (enc := Value.int .u8) (d := (0 : Int)) (h1 := fun _ => rfl) (by rw [bytesOf_length]; exact hrd)
  unfold Oper.wp execOp
  simp only [ho, hx, Sem.run_bind, Sem.run_pure, Result.andThen_ok, hr]
  refine hK _ _ ?_
  have := h _ (grownCap w s.size 0 5) _ hC (by rw [bytesOf_length]; exact hcap) hbel
  rw [bytesOf_length] at this
  exact this
mutual
def hypogeumref21_Text.l0 : Nat → ByteArray → Int → List (S28) → Option ByteArray
  | 0, _, _, _ => none
  | k + 1, s, i, ks => if i < (ks.length : Int) then (if 0 ≤ i then ((hypogeumref21_Text.f k ((rd_T28 ks i).f0) ((rd_T28 ks i).f1) ((rd_T28 ks i).f2) ((rd_T28 ks i).f3)).bind fun t => (if s.size + t.size ≤ 9223372036854775807 then hypogeumref21_Text.l0 k (s ++ t) (wrap64 (i + 1)) ks else none)) else none) else some s
def hypogeumref21_Text.f : Nat → ByteArray → Bool → List Int → List (S28) → Option ByteArray
  | 0, _, _, _, _ => none
  | k + 1, nm, dir, by_, ks => if nm.size ≤ 140737488355328 then (hypogeumref17_Text.f k [] (bytesOf nm)).bind fun b1 => ((hypogeumref17_Number.f k b1 (if dir = true then 1 else 0)).bind fun b2 => ((hypogeumref17_Text.f k b2 by_).bind fun b3 => ((hypogeumref17_Number.f k b3 (ks.length : Int)).bind fun b4 => hypogeumref21_Text.l0 k (strOfNums b4) 0 ks))) else none
end
theorem hypogeumref21_Text.mono_l : ∀ k, (∀ y0 y1 y2 y3, LeO (hypogeumref21_Text.f k y0 y1 y2 y3) (hypogeumref21_Text.f (k + 1) y0 y1 y2 y3)) ∧ (∀ y0 y1 y2, LeO (hypogeumref21_Text.l0 k y0 y1 y2) (hypogeumref21_Text.l0 (k + 1) y0 y1 y2))
  | 0 => ⟨fun _ _ _ _ r h => by simp [hypogeumref21_Text.f] at h, fun _ _ _ r h => by simp [hypogeumref21_Text.l0] at h⟩
  | k + 1 => by
    obtain ⟨ih0, ih1⟩ := hypogeumref21_Text.mono_l k
    refine ⟨?_, ?_⟩
    · intro y0 y1 y2 y3
      unfold hypogeumref21_Text.f
      exact LeO.ite (LeO.bind (hypogeumref17_Text.mono _ _ _) (fun _ => LeO.bind (hypogeumref17_Number.mono _ _ _) (fun _ => LeO.bind (hypogeumref17_Text.mono _ _ _) (fun _ => LeO.bind (hypogeumref17_Number.mono _ _ _) (fun _ => ih1 _ _ _))))) (LeO.refl _)
    · intro y0 y1 y2
      unfold hypogeumref21_Text.l0
      exact LeO.ite (LeO.ite (LeO.bind (ih0 _ _ _ _) (fun _ => LeO.ite (ih1 _ _ _) (LeO.refl _))) (LeO.refl _)) (LeO.refl _)
theorem hypogeumref21_Text.mono : ∀ a0 a1 a2 a3 k, LeO (hypogeumref21_Text.f k a0 a1 a2 a3) (hypogeumref21_Text.f (k + 1) a0 a1 a2 a3) := fun a0 a1 a2 a3 k => (hypogeumref21_Text.mono_l k).1 a0 a1 a2 a3
set_option maxHeartbeats 8000000 in
set_option maxRecDepth 100000 in
theorem hypogeumref21_Text.calls (k : Nat) : ∀ (a0_0 : ByteArray) (a0_1 : Bool) (A0_2 : Option Addr) (c0_2 : Nat) (l0_2 : List Int) (A0_3 : Option Addr) (c0_3 : Nat) (l0_3 : List (S28)) (r : ByteArray) (w : World) (hr0_2 : Kd.C (Kd.int .u8) w A0_2 l0_2.length l0_2) (hc0_2 : l0_2.length ≤ c0_2) (hr0_3 : Kd.C k28 w A0_3 l0_3.length l0_3) (hc0_3 : l0_3.length ≤ c0_3) (h : hypogeumref21_Text.f k a0_0 a0_1 l0_2 l0_3 = some r),
    Calls Tryd.prog 21 #[.agg #[.string a0_0, .bool a0_1, .slice A0_2 l0_2.length c0_2, .slice A0_3 l0_3.length c0_3]] w fun e w' => e = .returned (.string r) ∧ Below w.heap.size w w' := by
  induction k using Nat.strongRecOn with
  | _ k ih =>
  intro a0_0 a0_1 A0_2 c0_2 l0_2 A0_3 c0_3 l0_3 r w hr0_2 hc0_2 hr0_3 hc0_3 h
  cases k with
  | zero => exact absurd h (by simp [hypogeumref21_Text.f])
  | succ k =>
  obtain ⟨kd, b1, b2, b3, b4, HS, HKD, A1, A2, A3, A4, H5⟩ : ∃ (kd : Int) (b1 b2 b3 b4 : List Int), Aside0 (a0_0.size ≤ 140737488355328) ∧ Aside0 (kd = (if a0_1 = true then 1 else 0)) ∧ Aside0 (hypogeumref17_Text.f k [] (bytesOf a0_0) = some b1) ∧ Aside0 (hypogeumref17_Number.f k b1 kd = some b2) ∧ Aside0 (hypogeumref17_Text.f k b2 l0_2 = some b3) ∧ Aside0 (hypogeumref17_Number.f k b3 (l0_3.length : Int) = some b4) ∧ Aside0 (hypogeumref21_Text.l0 k (strOfNums b4) 0 l0_3 = some r) := by
    simp only [hypogeumref21_Text.f] at h
    by_cases hs : a0_0.size ≤ 140737488355328
    · rw [if_pos hs] at h
      obtain ⟨b1, h1, h⟩ := Option.bind_eq_some_iff.mp h
      obtain ⟨b2, h2, h⟩ := Option.bind_eq_some_iff.mp h
      obtain ⟨b3, h3, h⟩ := Option.bind_eq_some_iff.mp h
      obtain ⟨b4, h4, h⟩ := Option.bind_eq_some_iff.mp h
      exact ⟨_, b1, b2, b3, b4, ⟨hs⟩, ⟨rfl⟩, ⟨h1⟩, ⟨h2⟩, ⟨h3⟩, ⟨h4⟩, ⟨h⟩⟩
    · rw [if_neg hs] at h; cases h
  clear h
  have hu28 := Tryd.underlying28
  have HR2 := Aside0.mk hr0_2
  have HC2 := Aside0.mk hc0_2
  have HR3 := Aside0.mk hr0_3
  have HC3 := Aside0.mk hc0_3
  clear hr0_2 hc0_2 hr0_3 hc0_3
  have HB := Aside0.mk (Below.refl w.heap.size w)
  have BR := Aside0.mk HR3.out
  cases a0_1
  case false =>
    obtain rfl : kd = 0 := by have := HKD.out; simpa using this
    clear HKD
    go_enter Tryd.func21, Tryd.ntmps21
    go_wp2_with (first | ((with_reducible refine gate_dst (N := 1) rfl ?_); refine box_event ?hg (N := 1) ?hd (cs := #[.string a0_0, .bool false, .slice A0_2 l0_2.length c0_2, .slice A0_3 l0_3.length c0_3]) (t := 28) ?hr ?_; (case hd => rfl); (case hg => rfl); (case hr => first | (go_simp; done) | (go_simp; rfl)); intro gb hg w1 hbox hb; have n0_ := Aside0.mk (below_step HB.out hb); clear HB; have HB := n0_; clear n0_ hb hg; have BK := Aside0.mk hbox; clear hbox; have hcz0 : w1.cell? ⟨gb, 0, none⟩ = some (.string a0_0) := (blk_cell BK.out 0).trans rfl; have hcz1 : w1.cell? ⟨gb, 1, none⟩ = some (.bool false) := (blk_cell BK.out 1).trans rfl; have hcz2 : w1.cell? ⟨gb, 2, none⟩ = some (.slice A0_2 l0_2.length c0_2) := (blk_cell BK.out 2).trans rfl; have hcz3 : w1.cell? ⟨gb, 3, none⟩ = some (.slice A0_3 l0_3.length c0_3) := (blk_cell BK.out 3).trans rfl; have hfz0 := blk_frozen BK.out 0; have hfz1 := blk_frozen BK.out 1; have hfz2 := blk_frozen BK.out 2; have hfz3 := blk_frozen BK.out 3) | ((with_reducible refine gate_dst (N := 9) rfl ?_); refine wpList_bytes21 rfl (.tmp 8) rfl a0_0 rfl HS.out ?_; intro A9 c9 w2 hC hl hb; clear hcz0 hcz1 hcz2 hcz3 hfz0 hfz1 hfz2 hfz3; have R9 := Aside0.mk hC; have L9 := Aside0.mk hl; clear hC hl; have n0_ := Aside0.mk (below_step HB.out hb); have n1_ := Aside0.mk (blk_below BK.out hb); clear HB BK; have HB := n0_; have BK := n1_; clear n0_ n1_; have hcz0 : w2.cell? ⟨gb, 0, none⟩ = some (.string a0_0) := (blk_cell BK.out 0).trans rfl; have hcz1 : w2.cell? ⟨gb, 1, none⟩ = some (.bool false) := (blk_cell BK.out 1).trans rfl; have hcz2 : w2.cell? ⟨gb, 2, none⟩ = some (.slice A0_2 l0_2.length c0_2) := (blk_cell BK.out 2).trans rfl; have hcz3 : w2.cell? ⟨gb, 3, none⟩ = some (.slice A0_3 l0_3.length c0_3) := (blk_cell BK.out 3).trans rfl; have hfz0 := blk_frozen BK.out 0; have hfz1 := blk_frozen BK.out 1; have hfz2 := blk_frozen BK.out 2; have hfz3 := blk_frozen BK.out 3; clear hb) | (go_at_call 39; (with_reducible refine (text_nil k _ _ (bytesOf a0_0) b1 _ R9.out L9.out A1.out).mono ?_); rintro e w3 ⟨v0_, rfl, ho, hb⟩; obtain ⟨Aa, ca, ev⟩ := Kd.R_slice ho; subst ev; clear hcz0 hcz1 hcz2 hcz3 hfz0 hfz1 hfz2 hfz3; have RA := Aside0.mk (Kd.R_reads' ho).2.2; have LA := Aside0.mk (Kd.R_reads' ho).2.1; clear ho; have n0_ := Aside0.mk (below_step HB.out hb); have n1_ := Aside0.mk (blk_below BK.out hb); clear HB BK; have HB := n0_; have BK := n1_; clear n0_ n1_; have hcz0 : w3.cell? ⟨gb, 0, none⟩ = some (.string a0_0) := (blk_cell BK.out 0).trans rfl; have hcz1 : w3.cell? ⟨gb, 1, none⟩ = some (.bool false) := (blk_cell BK.out 1).trans rfl; have hcz2 : w3.cell? ⟨gb, 2, none⟩ = some (.slice A0_2 l0_2.length c0_2) := (blk_cell BK.out 2).trans rfl; have hcz3 : w3.cell? ⟨gb, 3, none⟩ = some (.slice A0_3 l0_3.length c0_3) := (blk_cell BK.out 3).trans rfl; have hfz0 := blk_frozen BK.out 0; have hfz1 := blk_frozen BK.out 1; have hfz2 := blk_frozen BK.out 2; have hfz3 := blk_frozen BK.out 3; clear hb))
    have n0_ := Aside0.mk (below_drew HB.out)
    have n1_ := Aside0.mk (blk_drew BK.out)
    have n2_ := Aside0.mk (Kd.C_drew RA.out)
    clear HB BK RA
    have HB := n0_; have BK := n1_; have RA := n2_
    clear n0_ n1_ n2_
    go_region_held3 (fun (w' : World) => w'.cell? ⟨gb, 2, none⟩ = some (.slice A0_2 l0_2.length c0_2) ∧ w'.cell? ⟨gb, 3, none⟩ = some (.slice A0_3 l0_3.length c0_3) ∧ w'.frozen? ⟨gb, 2, none⟩ = false ∧ w'.frozen? ⟨gb, 3, none⟩ = false) (exact ⟨hcz2, hcz3, hfz2, hfz3⟩) (first | (go_at_call 40; (with_reducible refine (hypogeumref17_Number.calls k _ _ b1 0 b2 _ RA.out LA.out A2.out).mono ?_); rintro e w4 ⟨v0_, rfl, ho, hb⟩; obtain ⟨Ab, cb, ev⟩ := Kd.R_slice ho; subst ev; clear hcz0 hcz1 hcz2 hcz3 hfz0 hfz1 hfz2 hfz3; have RB := Aside0.mk (Kd.R_reads' ho).2.2; have LB := Aside0.mk (Kd.R_reads' ho).2.1; clear ho; have n0_ := Aside0.mk (below_step HB.out hb); have n1_ := Aside0.mk (blk_below BK.out hb); clear HB BK; have HB := n0_; have BK := n1_; clear n0_ n1_; have hcz0 : w4.cell? ⟨gb, 0, none⟩ = some (.string a0_0) := (blk_cell BK.out 0).trans rfl; have hcz1 : w4.cell? ⟨gb, 1, none⟩ = some (.bool false) := (blk_cell BK.out 1).trans rfl; have hcz2 : w4.cell? ⟨gb, 2, none⟩ = some (.slice A0_2 l0_2.length c0_2) := (blk_cell BK.out 2).trans rfl; have hcz3 : w4.cell? ⟨gb, 3, none⟩ = some (.slice A0_3 l0_3.length c0_3) := (blk_cell BK.out 3).trans rfl; have hfz0 := blk_frozen BK.out 0; have hfz1 := blk_frozen BK.out 1; have hfz2 := blk_frozen BK.out 2; have hfz3 := blk_frozen BK.out 3; clear hb) | (go_at_call 39; (with_reducible refine (hypogeumref17_Text.calls k _ _ b2 _ _ l0_2 b3 _ RB.out LB.out (Kd.C_below HR2.out HB.out) HC2.out A3.out).mono ?_); rintro e w5 ⟨v0_, rfl, ho, hb⟩; obtain ⟨Ac, cc, ev⟩ := Kd.R_slice ho; subst ev; clear hcz0 hcz1 hcz2 hcz3 hfz0 hfz1 hfz2 hfz3; have RC := Aside0.mk (Kd.R_reads' ho).2.2; have LC := Aside0.mk (Kd.R_reads' ho).2.1; clear ho; have n0_ := Aside0.mk (below_step HB.out hb); have n1_ := Aside0.mk (blk_below BK.out hb); clear HB BK; have HB := n0_; have BK := n1_; clear n0_ n1_; have hcz0 : w5.cell? ⟨gb, 0, none⟩ = some (.string a0_0) := (blk_cell BK.out 0).trans rfl; have hcz1 : w5.cell? ⟨gb, 1, none⟩ = some (.bool false) := (blk_cell BK.out 1).trans rfl; have hcz2 : w5.cell? ⟨gb, 2, none⟩ = some (.slice A0_2 l0_2.length c0_2) := (blk_cell BK.out 2).trans rfl; have hcz3 : w5.cell? ⟨gb, 3, none⟩ = some (.slice A0_3 l0_3.length c0_3) := (blk_cell BK.out 3).trans rfl; have hfz0 := blk_frozen BK.out 0; have hfz1 := blk_frozen BK.out 1; have hfz2 := blk_frozen BK.out 2; have hfz3 := blk_frozen BK.out 3; clear hb) | (go_at_call 40; (with_reducible refine (hypogeumref17_Number.calls k _ _ b3 (l0_3.length : Int) b4 _ RC.out LC.out A4.out).mono ?_); rintro e w6 ⟨v0_, rfl, ho, hb⟩; obtain ⟨Ad, cd, ev⟩ := Kd.R_slice ho; subst ev; clear hcz0 hcz1 hcz2 hcz3 hfz0 hfz1 hfz2 hfz3; have RD := Aside0.mk (Kd.R_reads' ho).2.2; have LD := Aside0.mk (Kd.R_reads' ho).2.1; clear ho; have n0_ := Aside0.mk (below_step HB.out hb); have n1_ := Aside0.mk (blk_below BK.out hb); clear HB BK; have HB := n0_; have BK := n1_; clear n0_ n1_; have hcz0 : w6.cell? ⟨gb, 0, none⟩ = some (.string a0_0) := (blk_cell BK.out 0).trans rfl; have hcz1 : w6.cell? ⟨gb, 1, none⟩ = some (.bool false) := (blk_cell BK.out 1).trans rfl; have hcz2 : w6.cell? ⟨gb, 2, none⟩ = some (.slice A0_2 l0_2.length c0_2) := (blk_cell BK.out 2).trans rfl; have hcz3 : w6.cell? ⟨gb, 3, none⟩ = some (.slice A0_3 l0_3.length c0_3) := (blk_cell BK.out 3).trans rfl; have hfz0 := blk_frozen BK.out 0; have hfz1 := blk_frozen BK.out 1; have hfz2 := blk_frozen BK.out 2; have hfz3 := blk_frozen BK.out 3; clear hb))
    have hcv := Kd.C_string (P := Tryd.prog) (c := cd) Tryd.underlying25 Tryd.underlying5 Tryd.underlying9 RD.out
    clear RA LA RB LB RC LC A1 A2 A3 A4 R9 L9
    go_wp2_with fail
    clear hcv
    go_loopg [5, 6] k (fun kq v5 v6 w' => ∃ (x5 : ByteArray) (x6 : Int), v5 = .string x5 ∧ v6 = .int .i64 x6 ∧ Aside0 (hypogeumref21_Text.l0 kq x5 x6 l0_3 = some r) ∧ Aside0 (kq ≤ k) ∧ Aside0 (w'.heap[gb]? = some (.cells #[.string a0_0, .bool false, .slice A0_2 l0_2.length c0_2, .slice A0_3 l0_3.length c0_3] 28 (0, 0))) ∧ Aside0 (Below w.heap.size w w'))
    case atStart => exact ⟨strOfNums b4, 0, rfl, rfl, H5, ⟨Nat.le_refl _⟩, BK, HB⟩
    case round =>
      clear H5 BK HB hcz0 hcz1 hcz2 hcz3 hfz0 hfz1 hfz2 hfz3 RD LD
      obtain ⟨x5, x6, rfl, rfl, HA, HK1, BK, HB⟩ := hrel
      cases gk with
      | zero => exact absurd HA.out (by simp [hypogeumref21_Text.l0])
      | succ k1 =>
        have H := HA.out
        clear HA
        simp only [hypogeumref21_Text.l0] at H
        have hcz0 : wr.cell? ⟨gb, 0, none⟩ = some (.string a0_0) := (blk_cell BK.out 0).trans rfl
        have hcz1 : wr.cell? ⟨gb, 1, none⟩ = some (.bool false) := (blk_cell BK.out 1).trans rfl
        have hcz2 : wr.cell? ⟨gb, 2, none⟩ = some (.slice A0_2 l0_2.length c0_2) := (blk_cell BK.out 2).trans rfl
        have hcz3 : wr.cell? ⟨gb, 3, none⟩ = some (.slice A0_3 l0_3.length c0_3) := (blk_cell BK.out 3).trans rfl
        have hfz0 := blk_frozen BK.out 0
        have hfz1 := blk_frozen BK.out 1
        have hfz2 := blk_frozen BK.out 2
        have hfz3 := blk_frozen BK.out 3
        by_cases c4 : x6 < (l0_3.length : Int)
        · rw [if_pos c4] at H
          have c4b0 : decide (x6 < (l0_3.length : Int)) = true := decide_eq_true c4
          clear c4
          by_cases c5 : 0 ≤ x6
          · rw [if_pos c5] at H
            have c5b0 : decide (0 ≤ x6) = true := decide_eq_true c5
            clear c5
            obtain ⟨t1, A7, HSZ, H'⟩ : ∃ t1, Aside0 (hypogeumref21_Text.f k1 ((rd_T28 l0_3 x6).f0) ((rd_T28 l0_3 x6).f1) ((rd_T28 l0_3 x6).f2) ((rd_T28 l0_3 x6).f3) = some t1) ∧ Aside0 (x5.size + t1.size ≤ 9223372036854775807) ∧ Aside0 (hypogeumref21_Text.l0 k1 (x5 ++ t1) (wrap64 (x6 + 1)) l0_3 = some r) := by
              obtain ⟨t1, h1, h2⟩ := Option.bind_eq_some_iff.mp H
              by_cases hz : x5.size + t1.size ≤ 9223372036854775807
              · rw [if_pos hz] at h2; exact ⟨t1, ⟨h1⟩, ⟨hz⟩, ⟨h2⟩⟩
              · rw [if_neg hz] at h2; cases h2
            clear H
            have hcat : (9223372036854775807 < x5.size + t1.size) = False := eq_false (Nat.not_lt.2 HSZ.out)
            have p214 : 0 ≤ (x6 : Int) := of_decide_eq_true (by first | (with_reducible assumption) | assumption)
            have q214 : x6 < (l0_3.length : Int) := of_decide_eq_true (by first | (with_reducible assumption) | assumption)
            obtain ⟨ad214, A214_2, c214_2, A214_3, c214_3, e214, hx0, hx1, hx2, hx3, hl2, hi2, hl3, hi3⟩ := at_T28 HR3.out x6 p214 q214
            cases e214
            replace hx0 := (HB.out.cell (World.block_lt_of_cell? w _ hx0)).trans hx0
            replace hx1 := (HB.out.cell (World.block_lt_of_cell? w _ hx1)).trans hx1
            replace hx2 := (HB.out.cell (World.block_lt_of_cell? w _ hx2)).trans hx2
            replace hx3 := (HB.out.cell (World.block_lt_of_cell? w _ hx3)).trans hx3
            have HQ2 := Aside0.mk hi2
            have HD2 := Aside0.mk hl2
            have HQ3 := Aside0.mk hi3
            have HD3 := Aside0.mk hl3
            clear hi2 hl2 hi3 hl3
            replace p214 := eq_true p214
            replace q214 := eq_true q214
            go_wp2_with (first | (go_at_call 21; (with_reducible refine (ih k1 (by have := HK1.out; omega) _ _ _ _ _ _ _ _ t1 _ (Kd.C_below HQ2.out HB.out) HD2.out (Kd.C_below HQ3.out HB.out) HD3.out A7.out).mono ?_); rintro e w7 ⟨rfl, hb⟩; have n0_ := Aside0.mk (below_step HB.out hb); have n1_ := Aside0.mk (blk_below BK.out hb); clear HB BK; have HB := n0_; have BK := n1_; clear n0_ n1_ hb))
            go_roundg k1
            case measure => have := HK1.out; omega
            case rel => exact ⟨(x5 ++ t1), (wrap64 (x6 + 1)), (by first | rfl | (simp; done) | (simp [*]; done)), (by first | rfl | (simp; done) | (simp [*]; done)), H', ⟨by have := HK1.out; omega⟩, BK, HB⟩
          · rw [if_neg c5] at H
            exact absurd H (by simp)
        · rw [if_neg c4] at H
          have c4b0 : decide (x6 < (l0_3.length : Int)) = false := decide_eq_false c4
          clear c4
          obtain rfl := Option.some.inj H
          go_wp2
          go_ret
          exact ⟨rfl, HB.out⟩
  case true =>
    obtain rfl : kd = 1 := by have := HKD.out; simpa using this
    clear HKD
    go_enter Tryd.func21, Tryd.ntmps21
    go_wp2_with (first | ((with_reducible refine gate_dst (N := 1) rfl ?_); refine box_event ?hg (N := 1) ?hd (cs := #[.string a0_0, .bool true, .slice A0_2 l0_2.length c0_2, .slice A0_3 l0_3.length c0_3]) (t := 28) ?hr ?_; (case hd => rfl); (case hg => rfl); (case hr => first | (go_simp; done) | (go_simp; rfl)); intro gb hg w1 hbox hb; have n0_ := Aside0.mk (below_step HB.out hb); clear HB; have HB := n0_; clear n0_ hb hg; have BK := Aside0.mk hbox; clear hbox; have hcz0 : w1.cell? ⟨gb, 0, none⟩ = some (.string a0_0) := (blk_cell BK.out 0).trans rfl; have hcz1 : w1.cell? ⟨gb, 1, none⟩ = some (.bool true) := (blk_cell BK.out 1).trans rfl; have hcz2 : w1.cell? ⟨gb, 2, none⟩ = some (.slice A0_2 l0_2.length c0_2) := (blk_cell BK.out 2).trans rfl; have hcz3 : w1.cell? ⟨gb, 3, none⟩ = some (.slice A0_3 l0_3.length c0_3) := (blk_cell BK.out 3).trans rfl; have hfz0 := blk_frozen BK.out 0; have hfz1 := blk_frozen BK.out 1; have hfz2 := blk_frozen BK.out 2; have hfz3 := blk_frozen BK.out 3) | ((with_reducible refine gate_dst (N := 9) rfl ?_); refine wpList_bytes21 rfl (.tmp 8) rfl a0_0 rfl HS.out ?_; intro A9 c9 w2 hC hl hb; clear hcz0 hcz1 hcz2 hcz3 hfz0 hfz1 hfz2 hfz3; have R9 := Aside0.mk hC; have L9 := Aside0.mk hl; clear hC hl; have n0_ := Aside0.mk (below_step HB.out hb); have n1_ := Aside0.mk (blk_below BK.out hb); clear HB BK; have HB := n0_; have BK := n1_; clear n0_ n1_; have hcz0 : w2.cell? ⟨gb, 0, none⟩ = some (.string a0_0) := (blk_cell BK.out 0).trans rfl; have hcz1 : w2.cell? ⟨gb, 1, none⟩ = some (.bool true) := (blk_cell BK.out 1).trans rfl; have hcz2 : w2.cell? ⟨gb, 2, none⟩ = some (.slice A0_2 l0_2.length c0_2) := (blk_cell BK.out 2).trans rfl; have hcz3 : w2.cell? ⟨gb, 3, none⟩ = some (.slice A0_3 l0_3.length c0_3) := (blk_cell BK.out 3).trans rfl; have hfz0 := blk_frozen BK.out 0; have hfz1 := blk_frozen BK.out 1; have hfz2 := blk_frozen BK.out 2; have hfz3 := blk_frozen BK.out 3; clear hb) | (go_at_call 39; (with_reducible refine (text_nil k _ _ (bytesOf a0_0) b1 _ R9.out L9.out A1.out).mono ?_); rintro e w3 ⟨v0_, rfl, ho, hb⟩; obtain ⟨Aa, ca, ev⟩ := Kd.R_slice ho; subst ev; clear hcz0 hcz1 hcz2 hcz3 hfz0 hfz1 hfz2 hfz3; have RA := Aside0.mk (Kd.R_reads' ho).2.2; have LA := Aside0.mk (Kd.R_reads' ho).2.1; clear ho; have n0_ := Aside0.mk (below_step HB.out hb); have n1_ := Aside0.mk (blk_below BK.out hb); clear HB BK; have HB := n0_; have BK := n1_; clear n0_ n1_; have hcz0 : w3.cell? ⟨gb, 0, none⟩ = some (.string a0_0) := (blk_cell BK.out 0).trans rfl; have hcz1 : w3.cell? ⟨gb, 1, none⟩ = some (.bool true) := (blk_cell BK.out 1).trans rfl; have hcz2 : w3.cell? ⟨gb, 2, none⟩ = some (.slice A0_2 l0_2.length c0_2) := (blk_cell BK.out 2).trans rfl; have hcz3 : w3.cell? ⟨gb, 3, none⟩ = some (.slice A0_3 l0_3.length c0_3) := (blk_cell BK.out 3).trans rfl; have hfz0 := blk_frozen BK.out 0; have hfz1 := blk_frozen BK.out 1; have hfz2 := blk_frozen BK.out 2; have hfz3 := blk_frozen BK.out 3; clear hb))
    have n0_ := Aside0.mk (below_drew HB.out)
    have n1_ := Aside0.mk (blk_drew BK.out)
    have n2_ := Aside0.mk (Kd.C_drew RA.out)
    clear HB BK RA
    have HB := n0_; have BK := n1_; have RA := n2_
    clear n0_ n1_ n2_
    go_region_held3 (fun (w' : World) => w'.cell? ⟨gb, 2, none⟩ = some (.slice A0_2 l0_2.length c0_2) ∧ w'.cell? ⟨gb, 3, none⟩ = some (.slice A0_3 l0_3.length c0_3) ∧ w'.frozen? ⟨gb, 2, none⟩ = false ∧ w'.frozen? ⟨gb, 3, none⟩ = false) (exact ⟨hcz2, hcz3, hfz2, hfz3⟩) (first | (go_at_call 40; (with_reducible refine (hypogeumref17_Number.calls k _ _ b1 1 b2 _ RA.out LA.out A2.out).mono ?_); rintro e w4 ⟨v0_, rfl, ho, hb⟩; obtain ⟨Ab, cb, ev⟩ := Kd.R_slice ho; subst ev; clear hcz0 hcz1 hcz2 hcz3 hfz0 hfz1 hfz2 hfz3; have RB := Aside0.mk (Kd.R_reads' ho).2.2; have LB := Aside0.mk (Kd.R_reads' ho).2.1; clear ho; have n0_ := Aside0.mk (below_step HB.out hb); have n1_ := Aside0.mk (blk_below BK.out hb); clear HB BK; have HB := n0_; have BK := n1_; clear n0_ n1_; have hcz0 : w4.cell? ⟨gb, 0, none⟩ = some (.string a0_0) := (blk_cell BK.out 0).trans rfl; have hcz1 : w4.cell? ⟨gb, 1, none⟩ = some (.bool true) := (blk_cell BK.out 1).trans rfl; have hcz2 : w4.cell? ⟨gb, 2, none⟩ = some (.slice A0_2 l0_2.length c0_2) := (blk_cell BK.out 2).trans rfl; have hcz3 : w4.cell? ⟨gb, 3, none⟩ = some (.slice A0_3 l0_3.length c0_3) := (blk_cell BK.out 3).trans rfl; have hfz0 := blk_frozen BK.out 0; have hfz1 := blk_frozen BK.out 1; have hfz2 := blk_frozen BK.out 2; have hfz3 := blk_frozen BK.out 3; clear hb) | (go_at_call 39; (with_reducible refine (hypogeumref17_Text.calls k _ _ b2 _ _ l0_2 b3 _ RB.out LB.out (Kd.C_below HR2.out HB.out) HC2.out A3.out).mono ?_); rintro e w5 ⟨v0_, rfl, ho, hb⟩; obtain ⟨Ac, cc, ev⟩ := Kd.R_slice ho; subst ev; clear hcz0 hcz1 hcz2 hcz3 hfz0 hfz1 hfz2 hfz3; have RC := Aside0.mk (Kd.R_reads' ho).2.2; have LC := Aside0.mk (Kd.R_reads' ho).2.1; clear ho; have n0_ := Aside0.mk (below_step HB.out hb); have n1_ := Aside0.mk (blk_below BK.out hb); clear HB BK; have HB := n0_; have BK := n1_; clear n0_ n1_; have hcz0 : w5.cell? ⟨gb, 0, none⟩ = some (.string a0_0) := (blk_cell BK.out 0).trans rfl; have hcz1 : w5.cell? ⟨gb, 1, none⟩ = some (.bool true) := (blk_cell BK.out 1).trans rfl; have hcz2 : w5.cell? ⟨gb, 2, none⟩ = some (.slice A0_2 l0_2.length c0_2) := (blk_cell BK.out 2).trans rfl; have hcz3 : w5.cell? ⟨gb, 3, none⟩ = some (.slice A0_3 l0_3.length c0_3) := (blk_cell BK.out 3).trans rfl; have hfz0 := blk_frozen BK.out 0; have hfz1 := blk_frozen BK.out 1; have hfz2 := blk_frozen BK.out 2; have hfz3 := blk_frozen BK.out 3; clear hb) | (go_at_call 40; (with_reducible refine (hypogeumref17_Number.calls k _ _ b3 (l0_3.length : Int) b4 _ RC.out LC.out A4.out).mono ?_); rintro e w6 ⟨v0_, rfl, ho, hb⟩; obtain ⟨Ad, cd, ev⟩ := Kd.R_slice ho; subst ev; clear hcz0 hcz1 hcz2 hcz3 hfz0 hfz1 hfz2 hfz3; have RD := Aside0.mk (Kd.R_reads' ho).2.2; have LD := Aside0.mk (Kd.R_reads' ho).2.1; clear ho; have n0_ := Aside0.mk (below_step HB.out hb); have n1_ := Aside0.mk (blk_below BK.out hb); clear HB BK; have HB := n0_; have BK := n1_; clear n0_ n1_; have hcz0 : w6.cell? ⟨gb, 0, none⟩ = some (.string a0_0) := (blk_cell BK.out 0).trans rfl; have hcz1 : w6.cell? ⟨gb, 1, none⟩ = some (.bool true) := (blk_cell BK.out 1).trans rfl; have hcz2 : w6.cell? ⟨gb, 2, none⟩ = some (.slice A0_2 l0_2.length c0_2) := (blk_cell BK.out 2).trans rfl; have hcz3 : w6.cell? ⟨gb, 3, none⟩ = some (.slice A0_3 l0_3.length c0_3) := (blk_cell BK.out 3).trans rfl; have hfz0 := blk_frozen BK.out 0; have hfz1 := blk_frozen BK.out 1; have hfz2 := blk_frozen BK.out 2; have hfz3 := blk_frozen BK.out 3; clear hb))
    have hcv := Kd.C_string (P := Tryd.prog) (c := cd) Tryd.underlying25 Tryd.underlying5 Tryd.underlying9 RD.out
    clear RA LA RB LB RC LC A1 A2 A3 A4 R9 L9
    go_wp2_with fail
    clear hcv
    go_loopg [5, 6] k (fun kq v5 v6 w' => ∃ (x5 : ByteArray) (x6 : Int), v5 = .string x5 ∧ v6 = .int .i64 x6 ∧ Aside0 (hypogeumref21_Text.l0 kq x5 x6 l0_3 = some r) ∧ Aside0 (kq ≤ k) ∧ Aside0 (w'.heap[gb]? = some (.cells #[.string a0_0, .bool true, .slice A0_2 l0_2.length c0_2, .slice A0_3 l0_3.length c0_3] 28 (0, 0))) ∧ Aside0 (Below w.heap.size w w'))
    case atStart => exact ⟨strOfNums b4, 0, rfl, rfl, H5, ⟨Nat.le_refl _⟩, BK, HB⟩
    case round =>
      clear H5 BK HB hcz0 hcz1 hcz2 hcz3 hfz0 hfz1 hfz2 hfz3 RD LD
      obtain ⟨x5, x6, rfl, rfl, HA, HK1, BK, HB⟩ := hrel
      cases gk with
      | zero => exact absurd HA.out (by simp [hypogeumref21_Text.l0])
      | succ k1 =>
        have H := HA.out
        clear HA
        simp only [hypogeumref21_Text.l0] at H
        have hcz0 : wr.cell? ⟨gb, 0, none⟩ = some (.string a0_0) := (blk_cell BK.out 0).trans rfl
        have hcz1 : wr.cell? ⟨gb, 1, none⟩ = some (.bool true) := (blk_cell BK.out 1).trans rfl
        have hcz2 : wr.cell? ⟨gb, 2, none⟩ = some (.slice A0_2 l0_2.length c0_2) := (blk_cell BK.out 2).trans rfl
        have hcz3 : wr.cell? ⟨gb, 3, none⟩ = some (.slice A0_3 l0_3.length c0_3) := (blk_cell BK.out 3).trans rfl
        have hfz0 := blk_frozen BK.out 0
        have hfz1 := blk_frozen BK.out 1
        have hfz2 := blk_frozen BK.out 2
        have hfz3 := blk_frozen BK.out 3
        by_cases c4 : x6 < (l0_3.length : Int)
        · rw [if_pos c4] at H
          have c4b0 : decide (x6 < (l0_3.length : Int)) = true := decide_eq_true c4
          clear c4
          by_cases c5 : 0 ≤ x6
          · rw [if_pos c5] at H
            have c5b0 : decide (0 ≤ x6) = true := decide_eq_true c5
            clear c5
            obtain ⟨t1, A7, HSZ, H'⟩ : ∃ t1, Aside0 (hypogeumref21_Text.f k1 ((rd_T28 l0_3 x6).f0) ((rd_T28 l0_3 x6).f1) ((rd_T28 l0_3 x6).f2) ((rd_T28 l0_3 x6).f3) = some t1) ∧ Aside0 (x5.size + t1.size ≤ 9223372036854775807) ∧ Aside0 (hypogeumref21_Text.l0 k1 (x5 ++ t1) (wrap64 (x6 + 1)) l0_3 = some r) := by
              obtain ⟨t1, h1, h2⟩ := Option.bind_eq_some_iff.mp H
              by_cases hz : x5.size + t1.size ≤ 9223372036854775807
              · rw [if_pos hz] at h2; exact ⟨t1, ⟨h1⟩, ⟨hz⟩, ⟨h2⟩⟩
              · rw [if_neg hz] at h2; cases h2
            clear H
            have hcat : (9223372036854775807 < x5.size + t1.size) = False := eq_false (Nat.not_lt.2 HSZ.out)
            have p214 : 0 ≤ (x6 : Int) := of_decide_eq_true (by first | (with_reducible assumption) | assumption)
            have q214 : x6 < (l0_3.length : Int) := of_decide_eq_true (by first | (with_reducible assumption) | assumption)
            obtain ⟨ad214, A214_2, c214_2, A214_3, c214_3, e214, hx0, hx1, hx2, hx3, hl2, hi2, hl3, hi3⟩ := at_T28 HR3.out x6 p214 q214
            cases e214
            replace hx0 := (HB.out.cell (World.block_lt_of_cell? w _ hx0)).trans hx0
            replace hx1 := (HB.out.cell (World.block_lt_of_cell? w _ hx1)).trans hx1
            replace hx2 := (HB.out.cell (World.block_lt_of_cell? w _ hx2)).trans hx2
            replace hx3 := (HB.out.cell (World.block_lt_of_cell? w _ hx3)).trans hx3
            have HQ2 := Aside0.mk hi2
            have HD2 := Aside0.mk hl2
            have HQ3 := Aside0.mk hi3
            have HD3 := Aside0.mk hl3
            clear hi2 hl2 hi3 hl3
            replace p214 := eq_true p214
            replace q214 := eq_true q214
            go_wp2_with (first | (go_at_call 21; (with_reducible refine (ih k1 (by have := HK1.out; omega) _ _ _ _ _ _ _ _ t1 _ (Kd.C_below HQ2.out HB.out) HD2.out (Kd.C_below HQ3.out HB.out) HD3.out A7.out).mono ?_); rintro e w7 ⟨rfl, hb⟩; have n0_ := Aside0.mk (below_step HB.out hb); have n1_ := Aside0.mk (blk_below BK.out hb); clear HB BK; have HB := n0_; have BK := n1_; clear n0_ n1_ hb))
            go_roundg k1
            case measure => have := HK1.out; omega
            case rel => exact ⟨(x5 ++ t1), (wrap64 (x6 + 1)), (by first | rfl | (simp; done) | (simp [*]; done)), (by first | rfl | (simp; done) | (simp [*]; done)), H', ⟨by have := HK1.out; omega⟩, BK, HB⟩
          · rw [if_neg c5] at H
            exact absurd H (by simp)
        · rw [if_neg c4] at H
          have c4b0 : decide (x6 < (l0_3.length : Int)) = false := decide_eq_false c4
          clear c4
          obtain rfl := Option.some.inj H
          go_wp2
          go_ret
          exact ⟨rfl, HB.out⟩

/-! ### slices_Clone_byte_byte: function 41 -/
def slices_Clone_byte_byte.f (l0 : List Int) : Option (List Int) := if l0.length < 140737488355328 then some l0 else none
set_option maxHeartbeats 8000000 in
set_option maxRecDepth 100000 in
theorem slices_Clone_byte_byte.calls (A0 : Option Addr) (c0 : Nat) (l0 : List Int) (r : List Int) (w : World) (hr0 : Kd.C (Kd.int .u8) w A0 l0.length l0) (hc0 : l0.length ≤ c0) (h : slices_Clone_byte_byte.f l0 = some r) :
    Calls Tryd.prog 41 #[.slice A0 l0.length c0] w fun e w' => ∃ v0_ : Value, e = .returned (v0_) ∧ Kd.R (Kd.int .u8) 5 w' w.heap.size (fun _ => True) v0_ r ∧ Below w.heap.size w w' := by
  obtain ⟨HS, rfl⟩ : Aside0 (l0.length < 140737488355328) ∧ r = l0 := by
    unfold slices_Clone_byte_byte.f at h
    by_cases hs : l0.length < 140737488355328
    · rw [if_pos hs] at h; exact ⟨⟨hs⟩, (Option.some.inj h).symm⟩
    · rw [if_neg hs] at h; cases h
  clear h
  rcases A0 with _ | ad
  · have hl : r = [] := by
      rcases Nat.eq_zero_or_pos r.length with h0 | h0
      · exact List.eq_nil_of_length_eq_zero h0
      · obtain ⟨ad, h', _⟩ := hr0.2.2 h0
        cases h'
    subst hl
    clear hr0 HS
    have hnil : Sem.run Tryd.prog (binOp .eql 25 (.slice none 0 c0) (.slice none 0 0)) w = .ok (.bool true) w := Lib.run_eql_slice_nil (P := Tryd.prog) w 25 5 none 0 c0 0 0 Tryd.underlying25
    go_enter Tryd.func41, Tryd.ntmps41
    go_wp2
    go_ret
    exact ⟨_, rfl, Kd.R_nil _ _ _ _ _, Below.refl _ _⟩
  · have HR := Aside0.mk hr0
    have HC := Aside0.mk hc0
    have HB := Aside0.mk (Below.refl w.heap.size w)
    clear hr0 hc0
    have hnil : Sem.run Tryd.prog (binOp .eql 25 (.slice (some ad) r.length c0) (.slice none 0 0)) w = .ok (.bool false) w := Lib.run_eql_slice_nil (P := Tryd.prog) w 25 5 (some ad) r.length c0 0 0 Tryd.underlying25
    go_enter Tryd.func41, Tryd.ntmps41
    go_wp2_with (first | ((with_reducible refine gate_dst (N := 5) rfl ?_); (try (refine gate_guard (by rfl) ?_; dsimp only)); refine Kd.R_lit (Kd.int .u8) _ 5 ?hg (N := 5) ?hd (xs := ([] : List Int)) (inner := []) (ok := fun _ => True) (okp := fun _ => True) ?hr ?hp (fun _ hk => hk) trivial (Below.refl _ _) (Nat.le_refl _) (by simp) ?_; (case hd => rfl); (case hg => rfl); (case hr => first | (go_simp; done) | (go_simp; rfl)); (case hp => exact (Reps.none _ _)); intro vHO wHO ho hb hg_ hnew_; clear hg_ hnew_; have n0_ := Aside0.mk (Kd.R_lower ho (below_size (by repeat (first | (with_reducible first | exact HB.out | apply below_alloc | apply pw_below_drewN | apply below_drew1) | exact HB.out)))); have n1_ := Aside0.mk (below_step (by repeat (first | (with_reducible first | exact HB.out | apply below_alloc | apply pw_below_drewN | apply below_drew1) | exact HB.out)) hb); clear HB; have HO := n0_; have HB := n1_; clear n0_ n1_; clear hb ho) | ((with_reducible refine gate_builtin (b := .append) (xs := #[.tmp 5, .tmp 6]) rfl ?_); (try (refine gate_guard (by rfl) ?_; dsimp only)); at_builtin; refine Kd.R_append_rows (Kd.int .u8) (w0 := w) w.heap.size rfl (.tmp 5) (.tmp 6) 25 5 (.int .u8 0) 1 rfl Tryd.underlying25 info5 rfl (by decide) (by omega) vHO [] r _ _ _ (fun _ => True) (fun _ => False) rfl rfl ?aO ?aR (fun _ _ h => h) (fun _ h => h.elim) ?aF ?aB ?aS ?aL ?_; (case aR => repeat (first | exact (Kd.C_below HR.out HB.out) | (with_reducible refine Kd.C_alloc ?_ _) | (with_reducible refine Kd.C_drewN ?_ _) | (with_reducible refine Kd.C_drew ?_))); (case aB => exact (by repeat (first | (with_reducible first | exact HB.out | apply below_alloc | apply pw_below_drewN | apply below_drew1) | exact HB.out))); (case aF => exact (fun _ _ => trivial)); (case aO => exact (by (with_reducible repeat (first | apply Kd.R_alloc | apply Kd.R_drewN | apply Kd.R_drew)); exact HO.out)); (case aS => exact (below_size (by repeat (first | (with_reducible first | exact HB.out | apply below_alloc | apply pw_below_drewN | apply below_drew1) | exact HB.out)))); (case aL => (have := HS.out; simp; omega)); intro vHO wHO ho hb hg hat; (try rw [List.nil_append] at ho); have n0_ := Aside0.mk (hb); have n1_ := Aside0.mk (ho); clear HB; clear HO; have HB := n0_; have HO := n1_; clear n0_ n1_; clear ho hb hg hat))
    go_ret
    exact ⟨_, rfl, HO.out, HB.out⟩

end Go.Proofs.YthpgbhpnlnpfnaaDoor.E
