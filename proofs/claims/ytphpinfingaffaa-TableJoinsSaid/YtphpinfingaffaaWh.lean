/- Whole and Pick: the span of a row, and which parts of which spans any span's bytes are: the walks. -/
import Derived.Test.YtphpinfingaffaaRw
namespace Go.Proofs.Ytphpinfingaffaa.Law
open Go.RowKit Go.Proofs.Ytphpinfingaffaa Go.Proofs.YtphpinfingaffaaW.PrintWords Go.Proofs.YtphpinfingaffaaW.PrintLast Go.Proofs.YtphpinfingaffaaW.PrintMore Go.Proofs.Ytphpinfingaffaa.D Go.Proofs.Ytphpinfingaffaa.Fl
set_option linter.unusedSimpArgs false
set_option linter.unusedVariables false
/-- spans one behind the other, from a place on -/
def rowOk : Int → List S34 → Prop
  | b, [] => In b
  | b, x :: l => x.f0 = b ∧ In b ∧ In x.f1 ∧ rowOk (b + x.f1) l
/-- where they end -/
def rowE : Int → List S34 → Int
  | b, [] => b
  | b, x :: l => rowE (b + x.f1) l
theorem rowOk_in : ∀ {b : Int} {l : List S34}, rowOk b l → In b
  | _, [], h => h
  | _, _ :: _, h => h.2.1
theorem rowE_in : ∀ {b : Int} {l : List S34}, rowOk b l → b ≤ rowE b l ∧ rowE b l ≤ 1099511627776
  | _, [], h => ⟨Int.le_refl _, h.2⟩
  | b, x :: l, h => by
    have := rowE_in h.2.2.2
    have h2 := h.2.2.1.1
    unfold rowE
    omega
theorem rowL_ok : ∀ (l : List Int) (b : Int) (r : List S34), In b → rowL b l = some r → rowOk b r
  | [], b, r, hb, h => by rw [rowL] at h; obtain rfl := Option.some.inj h; exact hb
  | n :: l, b, r, hb, h => by
    rw [rowL] at h
    by_cases c : In n ∧ In (b + n)
    · rw [if_pos c] at h
      obtain ⟨r1, h1, rfl⟩ := Option.map_eq_some_iff.mp h
      exact ⟨rfl, hb, c.1, rowL_ok l (b + n) r1 c.2 h1⟩
    · rw [if_neg c] at h; cases h
theorem rowL_len : ∀ (l : List Int) (b : Int) (r : List S34), rowL b l = some r → r.length = l.length
  | [], b, r, h => by rw [rowL] at h; obtain rfl := Option.some.inj h; rfl
  | n :: l, b, r, h => by
    rw [rowL] at h
    by_cases c : In n ∧ In (b + n)
    · rw [if_pos c] at h
      obtain ⟨r1, h1, rfl⟩ := Option.map_eq_some_iff.mp h
      rw [List.length_cons, List.length_cons, rowL_len l (b + n) r1 h1]
    · rw [if_neg c] at h; cases h
theorem drop_S34 {l : List S34} {i : Nat} (h : i < l.length) : l.drop i = rd_T34 l (i : Int) :: l.drop (i + 1) := by
  rw [List.drop_eq_getElem_cons h]
  congr 1
  unfold rd_T34
  rw [Int.toNat_natCast, List.getD_eq_getElem?_getD, List.getElem?_eq_getElem h]; rfl
theorem o_ne {n : Int} (k : 0 ≤ n) (h1 : n < 9007199254740992) : (FloatKind.f64.format.order (floatOfInt .f64 n) (floatOfInt .f64 n) != some .eq) = false := by
  rw [f_eq k h1]; rfl
theorem far_ngt {n : Int} (h : In n) : (FloatKind.f64.format.order (floatOfInt .f64 n) 4787326403894837248 == some .gt) = false := by
  have := o_ngt (n := n) (m := 1099511627776) h.2 h.1 (by omega)
  rwa [f_far] at this
set_option maxHeartbeats 4000000 in
set_option maxRecDepth 100000 in
theorem whole_ok (A : Option Addr) (c : Nat) (l : List S34) (b : Int) (w : World) (hr : Kd.C kC w A l.length l) (hc : l.length ≤ c) (hm : l.length ≤ 1000) (hl : 0 < l.length) (ho : rowOk b l) :
    Calls Try.prog 33 #[.slice A l.length c] w fun e w' => e = .returned (.tuple #[Cx b (rowE b l - b), .int .i64 0]) ∧ Below w.heap.size w w' := by
  have HR := Aside0.mk hr
  have HO := Aside0.mk ho
  have HB := Aside0.mk (Below.refl w.heap.size w)
  clear hr
  have hlen : ((l.length : Int) == 0) = false := beq_eq_false_iff_ne.mpr (by omega)
  obtain ⟨ad, rfl, hx0⟩ := at_C HR.out 0 (by omega) (by omega)
  rw [show ((0 : Int).toNat) = 0 by rfl, show ad.add 0 = ad by cases ad; rfl] at hx0
  have e0 : (rd_T34 l 0).f0 = b := by
    cases l with
    | nil => cases hl
    | cons x l => exact ho.1
  rw [e0] at hx0
  generalize (rd_T34 l 0).f1 = n0 at *
  clear e0 ho
  have HX := Aside0.mk hx0
  have p1 : (0 < (l.length : Int)) = True := eq_true (by omega)
  go_enter Try.func33, Try.ntmps33
  go_wp2
  go_loopw [4, 16] (fun v4 v16 w' => ∃ (i : Nat) (bi : Int), i ≤ l.length ∧ v4 = F bi ∧ v16 = .int .i64 i ∧ b ≤ bi ∧ Aside0 (rowOk bi (l.drop i)) ∧ Aside0 (rowE b l = rowE bi (l.drop i)) ∧ Aside0 (Below w.heap.size w w')) (fun _ v16 _ => l.length - (intOf v16).toNat)
  case atStart => exact ⟨0, b, by omega, rfl, rfl, Int.le_refl _, ⟨by rw [List.drop_zero]; exact HO.out⟩, ⟨by rw [List.drop_zero]⟩, HB⟩
  case round =>
    obtain ⟨i, bi, hi, rfl, rfl, hbb, HOi, HE, HBn⟩ := hrel
    clear HB hx0 p1 hlen
    have HB := HBn
    clear HBn
    by_cases hlt : i < l.length
    · have hltb : decide ((i : Int) < (l.length : Int)) = true := decide_eq_true (by omega)
      have hwi : wrap64 ((i : Int) + 1) = (i : Int) + 1 := w64 (by omega) (by omega)
      have hst := HOi.out
      have hse := HE.out
      rw [drop_S34 hlt] at hst hse
      rw [rowE] at hse
      obtain ⟨h1, h2, h3, h4⟩ := hst
      have h5 := rowOk_in h4
      obtain ⟨ad', e', hx0⟩ := at_C HR.out (i : Int) (by omega) (by omega)
      cases e'
      rw [Int.toNat_natCast] at hx0
      have hx := (HB.out.cell (World.block_lt_of_cell? w _ hx0)).trans hx0
      have p1 : (0 ≤ (i : Int)) = True := eq_true (by omega)
      have p2 : ((i : Int) < (l.length : Int)) = True := eq_true (by omega)
      clear hx0 HOi HE
      rw [h1] at hx
      generalize (rd_T34 l (i : Int)).f1 = n at *
      have HE := Aside0.mk hse
      have H4 := Aside0.mk h4
      clear hse h4 h1
      have q := run_add h2.1 h3.1 (show bi + n < 9007199254740992 by unfold In at h5; omega)
      have q2 := far_ngt h5
      have q3 := o_eq h2.1 (show bi < 9007199254740992 by unfold In at h2; omega)
      have q4 := o_ne h2.1 (show bi < 9007199254740992 by unfold In at h2; omega)
      have hbn : b ≤ bi + n := by unfold In at h3; omega
      go_wp2_with (first | simp only [q] | (go_at_call 34; with_reducible refine (right_calls h2 h3 _).mono ?_; rintro e w1 ⟨rfl, h⟩; have nB_ := Aside0.mk (below_step (by repeat (first | (with_reducible first | exact HB.out | apply below_alloc | apply pw_below_drewN | apply below_drew1) | exact HB.out)) h); clear HB h; have HB := nB_; clear nB_))
      go_roundw
      case rel => exact ⟨i + 1, bi + n, by omega, rfl, by go_num, hbn, H4, HE, HB⟩
      case measure => simp [intOf]; omega
    · obtain rfl : i = l.length := by omega
      have hltb : decide ((l.length : Int) < (l.length : Int)) = false := decide_eq_false (by omega)
      have hin := HOi.out
      have hse := HE.out
      rw [List.drop_length] at hse hin
      rw [rowE] at hse
      have hb0 := (rowOk_in HO.out).1
      have hin' : In bi := hin
      have q := run_sub hb0 hbb (show bi < 9007199254740992 by unfold In at hin'; omega)
      have hx := (HB.out.cell (World.block_lt_of_cell? w _ HX.out)).trans HX.out
      have p1 : (0 < (l.length : Int)) = True := eq_true (by omega)
      have HSE := Aside0.mk hse
      clear hse hin HOi HE
      go_wp2
      refine start_ (n := 13) (S := fun w' => w'.cell? ad = some (Cx b n0)) (ds := []) #[false, false, false, false, false, false, false, false, false, false, false, false, false] (by kernel_rfl) rfl rfl (hx) (fun hHeld => ?_)
      refine pure_ (i := 0) (N := some 41) (v := ?_) (a' := ?_) #[true, false, false, false, false, false, false, false, false, false, false, false, false] rfl rfl (by kernel_rfl) (fun _ _ _ h => h) (Or.inl ⟨by rfl, ?_⟩) ?_ ?_
      rotate_left
      · intro w'
        go_simp
        with_reducible rfl
      rotate_left
      · simp only [Act.put, List.setIfInBounds_toArray, List.set_cons_zero, List.set_cons_succ, i64_w, i32_w]
        rfl
      refine pure_ (i := 1) (N := some 42) (v := ?_) (a' := ?_) #[true, true, false, false, false, false, false, false, false, false, false, false, false] rfl rfl (by kernel_rfl) (fun _ _ _ h => h) (Or.inl ⟨by rfl, ?_⟩) ?_ ?_
      rotate_left
      · intro w'
        go_simp
        with_reducible rfl
      rotate_left
      · simp only [Act.put, List.setIfInBounds_toArray, List.set_cons_zero, List.set_cons_succ, i64_w, i32_w]
        rfl
      refine pure_ (i := 4) (N := some 45) (v := ?_) (a' := ?_) #[true, true, false, false, true, false, false, false, false, false, false, false, false] rfl rfl (by kernel_rfl) (fun _ _ _ h => h) (Or.inl ⟨by rfl, ?_⟩) ?_ ?_
      rotate_left
      · intro w'
        go_simp
        with_reducible rfl
      rotate_left
      · simp only [Act.put, List.setIfInBounds_toArray, List.set_cons_zero, List.set_cons_succ, i64_w, i32_w]
        rfl
      refine pure_ (i := 5) (N := some 46) (v := ?_) (a' := ?_) #[true, true, false, false, true, true, false, false, false, false, false, false, false] rfl rfl (by kernel_rfl) (fun _ _ _ h => h) (Or.inl ⟨by rfl, ?_⟩) ?_ ?_
      rotate_left
      · intro w'
        go_simp
        with_reducible rfl
      rotate_left
      · simp only [Act.put, List.setIfInBounds_toArray, List.set_cons_zero, List.set_cons_succ, i64_w, i32_w]
        rfl
      refine pure_ (i := 6) (N := some 47) (v := ?_) (a' := ?_) #[true, true, false, false, true, true, true, false, false, false, false, false, false] rfl rfl (by kernel_rfl) (fun _ _ _ h => h) (Or.inl ⟨by rfl, ?_⟩) ?_ ?_
      rotate_left
      · intro w'
        go_simp
        with_reducible rfl
      rotate_left
      · simp only [Act.put, List.setIfInBounds_toArray, List.set_cons_zero, List.set_cons_succ, i64_w, i32_w]
        rfl
      refine take_ (i := 2) (N := some 43) (v := ?_) (a' := ?_) #[true, true, true, false, true, true, true, false, false, false, false, false, false] rfl rfl (by kernel_rfl) (fun _ _ _ h => h) (Or.inl ⟨by rfl, ?_⟩) hHeld ?_ ?_
      rotate_left
      · intro w' s0
        go_simp
        with_reducible rfl
      rotate_left
      · simp only [Act.put, List.setIfInBounds_toArray, List.set_cons_zero, List.set_cons_succ, i64_w, i32_w]
        rfl
      refine pure_ (i := 3) (N := some 44) (v := ?_) (a' := ?_) #[true, true, true, true, true, true, true, false, false, false, false, false, false] rfl rfl (by kernel_rfl) (fun _ _ _ h => h) (Or.inl ⟨by rfl, ?_⟩) ?_ ?_
      rotate_left
      · intro w'
        go_simp
        with_reducible rfl
      rotate_left
      · simp only [Act.put, List.setIfInBounds_toArray, List.set_cons_zero, List.set_cons_succ, i64_w, i32_w]
        rfl
      refine take_ (i := 7) (N := some 48) (v := ?_) (a' := ?_) #[true, true, true, true, true, true, true, true, false, false, false, false, false] rfl rfl (by kernel_rfl) (fun _ _ _ h => h) (Or.inl ⟨by rfl, ?_⟩) hHeld ?_ ?_
      rotate_left
      · intro w' s0
        go_simp
        with_reducible rfl
      rotate_left
      · simp only [Act.put, List.setIfInBounds_toArray, List.set_cons_zero, List.set_cons_succ, i64_w, i32_w]
        rfl
      refine pure_ (i := 8) (N := some 49) (v := ?_) (a' := ?_) #[true, true, true, true, true, true, true, true, true, false, false, false, false] rfl rfl (by kernel_rfl) (fun _ _ _ h => h) (Or.inl ⟨by rfl, ?_⟩) ?_ ?_
      rotate_left
      · intro w'
        go_simp
        with_reducible rfl
      rotate_left
      · simp only [Act.put, List.setIfInBounds_toArray, List.set_cons_zero, List.set_cons_succ, i64_w, i32_w]
        rfl
      refine pure_ (i := 9) (N := some 50) (v := ?_) (a' := ?_) #[true, true, true, true, true, true, true, true, true, true, false, false, false] rfl rfl (by kernel_rfl) (fun _ _ _ h => h) (Or.inl ⟨by rfl, ?_⟩) ?_ ?_
      rotate_left
      · intro w'
        go_simp
        with_reducible rfl
      rotate_left
      · simp only [Act.put, List.setIfInBounds_toArray, List.set_cons_zero, List.set_cons_succ, i64_w, i32_w]
        rfl
      refine pure_ (i := 10) (N := some 51) (v := ?_) (a' := ?_) #[true, true, true, true, true, true, true, true, true, true, true, false, false] rfl rfl (by kernel_rfl) (fun _ _ _ h => h) (Or.inl ⟨by rfl, ?_⟩) ?_ ?_
      rotate_left
      · intro w'
        go_simp
        with_reducible rfl
      rotate_left
      · simp only [Act.put, List.setIfInBounds_toArray, List.set_cons_zero, List.set_cons_succ, i64_w, i32_w]
        rfl
      refine pure_ (i := 11) (N := some 2) (v := ?_) (a' := ?_) #[true, true, true, true, true, true, true, true, true, true, true, true, false] rfl rfl (by kernel_rfl) (fun _ _ _ h => h) (Or.inl ⟨by rfl, ?_⟩) ?_ ?_
      rotate_left
      · intro w'
        go_simp
        with_reducible rfl
      rotate_left
      · simp only [Act.put, List.setIfInBounds_toArray, List.set_cons_zero, List.set_cons_succ, i64_w, i32_w]
        rfl
      refine pure_ (i := 12) (N := some 3) (v := ?_) (a' := ?_) #[true, true, true, true, true, true, true, true, true, true, true, true, true] rfl rfl (by kernel_rfl) (fun _ _ _ h => h) (Or.inl ⟨by rfl, ?_⟩) ?_ ?_
      rotate_left
      · intro w'
        go_simp
        with_reducible rfl
      rotate_left
      · simp only [Act.put, List.setIfInBounds_toArray, List.set_cons_zero, List.set_cons_succ, i64_w, i32_w]
        rfl
      refine done_ (by kernel_rfl) ?_
      go_wp2
      go_ret2
      exact ⟨by rw [HSE.out]; rfl, below_drew1 HB.out⟩
theorem whole_none (A : Option Addr) (c : Nat) (w : World) : Calls Try.prog 33 #[.slice A 0 c] w fun e w' => e = .returned (.tuple #[.complex .f64 0 0, .int .i64 1]) ∧ Below w.heap.size w w' := by
  go_enter Try.func33, Try.ntmps33
  go_wp2
  go_ret2
  exact ⟨rfl, Below.refl _ _⟩
end Go.Proofs.Ytphpinfingaffaa.Law
