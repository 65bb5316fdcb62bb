/- The walks of package rolling: shift, Push, Value, Reset, Copy, New: what each does to the block of a Roll. -/
import Derived.Test.YtkaabkoadoomjaaDx1
import Derived.Test.YtkaabkoadoomjaaRow
import Derived.StillTailTactics
import Derived.RegionTactic
import Derived.BigRegion
import Derived.Deep.DeepMust
namespace Go.Proofs.Ytkaabkoadoomjaa.Roll
open Go.RowKit Go.Proofs.Ytkaabkoadoomjaa Go.Proofs.Ytkaabkoadoomjaa.D Go.Proofs.YtkaabkoadoomjaaW.PrintWords Go.Proofs.YtkaabkoadoomjaaW.PrintLast Go.Proofs.YtkaabkoadoomjaaW.PrintMore
/-- one bit's shift, as the walk tells it -/
def sh1 (m d y : Int) : Int :=
  Go.bits .xor .u64 (IntKind.u64.wrap (y * 2)) (Go.bits .and .u64 m (IntKind.u64.wrap (-Go.bits .and .u64 (IntKind.u64.wrap (y * 2) / 2 ^ d.toNat) 1)))
def shN (m d : Int) : Nat → Int → Int
  | 0, x => x
  | k + 1, x => sh1 m d (shN m d k x)
set_option maxHeartbeats 400000 in
set_option maxRecDepth 100000 in
theorem shift_calls (g : Nat) (m d x : Int) (w : World) (h0 : w.cell? ⟨g, 0, none⟩ = some (.int .u64 m)) (h1 : w.cell? ⟨g, 1, none⟩ = some (.int .i64 d)) (hd0 : 0 ≤ d) (hd1 : d ≤ 63) :
    Calls Try.prog 31 #[.pointer (some ⟨g, 0, none⟩), .int .u64 x] w fun e w' => e = .returned (.int .u64 (shN m d 8 x)) ∧ w = w' := by
  go_enter Try.func31, Try.ntmps31
  go_wp2
  go_loop [1, 5, 6] (fun v1 v5 v6 => ∃ (k : Nat), k ≤ 8 ∧ v6 = .int .i64 k ∧ v1 = .int .u64 (shN m d k x)) (fun _ _ v6 => 8 - (intOf v6).toNat)
  case atStart => exact ⟨0, by omega, rfl, rfl⟩
  case round =>
    obtain ⟨k, hk, rfl, rfl⟩ := hrel
    generalize hy : shN m d k x = y
    have Hy := Aside0.mk hy
    clear hy
    go_wp2
    · go_round
      case rel => exact ⟨k + 1, by omega, by go_num, by show _ = Value.int .u64 (sh1 m d (shN m d k x)); rw [Hy.out]; rfl⟩
      case measure => simp [intOf]; omega
    · go_ret
      have : k = 8 := by omega
      subst this
      exact ⟨by rw [Hy.out]; rfl, rfl⟩
set_option maxHeartbeats 400000 in
set_option maxRecDepth 100000 in
theorem push_calls (g : Nat) (C : Nat → Value) (m d v o q b : Int) (pn : Nat) (w : World) (HB : Blk w g 276 C) (c0 : C 0 = .int .u64 m) (c1 : C 1 = .int .i64 d) (hd0 : 0 ≤ d) (hd1 : d ≤ 63)
   (c2 : C 2 = .int .u64 v) (cp : C 19 = .int .i64 (pn : Int)) (hpn : (pn : Int) < 16)
   (co : C (3 + pn) = .int .u8 o) (ho0 : 0 ≤ o) (ho1 : o < 256) (cq : C (20 + o.toNat) = .int .u64 q) (hb0 : 0 ≤ b) (hb1 : b < 256) :
    Calls Try.prog 25 #[.pointer (some ⟨g, 0, none⟩), .int .u8 b] w fun e w' => e = .returned (.int .u64 (Go.bits .xor .u64 (shN m d 8 (Go.bits .xor .u64 v q)) b)) ∧
      Blk w' g 276 (upd (upd (upd C (3 + pn) (.int .u8 b)) 19 (.int .i64 (((pn + 1) % 16 : Nat) : Int))) 2 (.int .u64 (Go.bits .xor .u64 (shN m d 8 (Go.bits .xor .u64 v q)) b))) ∧ Only g w w' := by
  have HB := Aside0.mk HB
  have HO := Aside0.mk (Only.refl g w)
  have hp := (HB.out.cell 19 (by omega)).trans (congrArg some cp)
  have ho := (HB.out.cell (3 + pn) (by omega)).trans (congrArg some co)
  have hf := HB.out.fz
  have C0 := Aside0.mk c0
  have CP := Aside0.mk cp
  have C1 := Aside0.mk c1
  have C2 := Aside0.mk c2
  have CQ := Aside0.mk cq
  clear c0 c1 c2 cp co cq
  go_enter Try.func25, Try.ntmps25
  go_wp2
  go_quiet (fail)
  go_wp2
  go_region
  have HB1 := Aside0.mk ((HB.out.drewN (nq + 1)).set (o := 3 + pn) (by omega) (.int .u8 b))
  have HO1 := Aside0.mk ((HO.out.drewN (nq + 1)).set (3 + pn) (.int .u8 b))
  have hp1 := (HB1.out.cell 19 (by omega)).trans (congrArg some (show upd C (3 + pn) (.int .u8 b) 19 = .int .i64 (pn : Int) by rw [upd_ne _ _ (by omega)]; exact CP.out))
  have hf1 := HB1.out.fz
  clear hp ho hf HB HO
  generalize (w.drewN (nq + 1)).setCell ⟨g, 3 + pn, none⟩ (.int .u8 b) = w1 at *
  go_wp2
  have HB2 := Aside0.mk (HB1.out.set (o := 19) (by omega) (.int .i64 (((pn : Int) + 1) % 16)))
  have HO2 := Aside0.mk (HO1.out.set 19 (.int .i64 (((pn : Int) + 1) % 16)))
  clear hp1 hf1 HB1 HO1
  generalize w1.setCell ⟨g, 19, none⟩ (.int .i64 (((pn : Int) + 1) % 16)) = w2 at *
  have k0 := (HB2.out.cell 0 (by omega)).trans (congrArg some (show _ = Value.int .u64 m by rw [upd_ne _ _ (by omega), upd_ne _ _ (by omega)]; exact C0.out))
  have k1 := (HB2.out.cell 1 (by omega)).trans (congrArg some (show _ = Value.int .i64 d by rw [upd_ne _ _ (by omega), upd_ne _ _ (by omega)]; exact C1.out))
  have k2 := (HB2.out.cell 2 (by omega)).trans (congrArg some (show _ = Value.int .u64 v by rw [upd_ne _ _ (by omega), upd_ne _ _ (by omega)]; exact C2.out))
  have kq := (HB2.out.cell (20 + o.toNat) (by omega)).trans (congrArg some (show _ = Value.int .u64 q by rw [upd_ne _ _ (by omega), upd_ne _ _ (by omega)]; exact CQ.out))
  have hf2 := HB2.out.fz
  go_region_with (go_at_call 31; refine (shift_calls g m d (Go.bits .xor .u64 v q) _ (by exact k0) (by exact k1) hd0 hd1).mono ?_; rintro e w' ⟨rfl, rfl⟩)
  all_goals
    have HB3 := Aside0.mk (HB2.out.set (o := 2) (by omega) (.int .u64 (Go.bits .xor .u64 (shN m d 8 (Go.bits .xor .u64 v q)) b)))
    go_wp2
    go_ret
    refine ⟨rfl, ?_, ?_⟩
    · rw [show ((((pn + 1) % 16 : Nat) : Int)) = ((pn : Int) + 1) % 16 by omega]
      exact ⟨HB3.out.cell, HB3.out.fz⟩
    · exact ((HO2.out.drewN 1).set 2 _)
def zeros16 : List Value := List.replicate 16 (.int .u8 0)
set_option maxHeartbeats 400000 in
set_option maxRecDepth 100000 in
theorem reset_calls (g : Nat) (C : Nat → Value) (w : World) (HB : Blk w g 276 C) : Calls Try.prog 26 #[.pointer (some ⟨g, 0, none⟩)] w fun e w' => e = .returned (.tuple #[]) ∧
    Blk w' g 276 (upd (upd (updRow C 3 zeros16 0) 2 (.int .u64 0)) 19 (.int .i64 0)) ∧ Only g w w' := by
  have HB := Aside0.mk HB
  go_enter Try.func26, Try.ntmps26
  go_wp2_with (first | ((with_reducible refine wpList_store_row rfl 58 (.tmp 7) (.tmp 5) rfl g 3 rfl zeros16 rfl (by kernel_rfl) (by decide) (fun j hj => ⟨_, HB.out.cell (3 + j) (by simp [zeros16] at hj; omega)⟩) HB.out.fz ?_); have HB1 := Aside0.mk (Blk.setRow (off := 3) zeros16 0 w C HB.out (by simp [zeros16])); have HO1 := Aside0.mk (Only.setRow (off := 3) zeros16 0 w (Only.refl g w)); generalize setRow w g 3 zeros16 0 = w1 at *; have h2 := HB1.out.cell 2 (by omega); have h19 := HB1.out.cell 19 (by omega); have hf := HB1.out.fz))
  have HB2 := Aside0.mk ((HB1.out.set (o := 2) (by omega) (.int .u64 0)).set (o := 19) (by omega) (.int .i64 0))
  have HO2 := Aside0.mk ((HO1.out.set 2 (.int .u64 0)).set 19 (.int .i64 0))
  go_end0
  exact ⟨rfl, HB2.out, HO2.out⟩
def zeroCells : List Value := [.int .u64 0, .int .i64 0, .int .u64 0] ++ List.replicate 16 (.int .u8 0) ++ [.int .i64 0] ++ List.replicate 256 (.int .u64 0)
theorem zero_run (w : World) : Sem.run Try.prog (zeroValue 61) w = .ok (.agg zeroCells.toArray) w := by kernel_rfl
theorem shN_add (m d : Int) (a b : Nat) (x : Int) : shN m d a (shN m d b x) = shN m d (a + b) x := by
  induction a with
  | zero => rw [Nat.zero_add]; rfl
  | succ a ih => rw [Nat.succ_add]; show sh1 m d (shN m d a (shN m d b x)) = sh1 m d (shN m d (a + b) x); rw [ih]
/-- the cells of a new Roll behind i rounds -/
def newC (m d : Int) (i : Nat) : Nat → Value := fun j => if 20 ≤ j ∧ j < 20 + i then .int .u64 (shN m d 120 ((j - 20 : Nat) : Int)) else ((zeroCells.set 0 (.int .u64 m)).set 1 (.int .i64 d)).getD j undef
theorem newC_zero (m d : Int) : newC m d 0 = fun j => ((zeroCells.set 0 (.int .u64 m)).set 1 (.int .i64 d)).getD j undef := by
  funext j; unfold newC; rw [if_neg (by omega)]
theorem newC_succ (m d : Int) (i : Nat) : newC m d (i + 1) = upd (newC m d i) (20 + i) (.int .u64 (shN m d 120 (i : Int))) := by
  funext j
  simp only [newC, upd]
  by_cases h : j = 20 + i
  · subst h; rw [if_pos (by omega), if_pos rfl, Nat.add_sub_cancel_left]
  · by_cases h2 : 20 ≤ j ∧ j < 20 + i
    · simp only [if_neg h, if_pos h2, if_pos (show 20 ≤ j ∧ j < 20 + (i + 1) by omega)]
    · simp only [if_neg h, if_neg h2, if_neg (show ¬ (20 ≤ j ∧ j < 20 + (i + 1)) by omega)]
theorem newC_01 (m d : Int) (i : Nat) : newC m d i 0 = .int .u64 m ∧ newC m d i 1 = .int .i64 d := by
  unfold newC; rw [if_neg (by omega), if_neg (by omega)]; exact ⟨rfl, rfl⟩
set_option maxHeartbeats 400000 in
set_option maxRecDepth 100000 in
theorem new_calls (k : Nat) (m d : Int) (w : World) (hd : gf2_Degree.f k m = some d) (h1 : ¬ d < 9) (h2 : ¬ d > 53) : Calls Try.prog 24 #[.int .u64 m] w fun e w' => ∃ g', w.heap.size ≤ g' ∧ e = .returned (.tuple #[.pointer (some ⟨g', 0, none⟩), .int .i64 0]) ∧
    Blk w' g' 276 (newC m d 256) ∧ Below w.heap.size w w' := by
  have HD := Aside0.mk hd
  clear hd
  have kz : ∀ w : World, Sem.run Try.prog (zeroValue 61) w = .ok (.agg zeroCells.toArray) w := fun w => zero_run w
  have HZ : Aside0 (((zeroCells.set 0 (.int .u64 m)).set 1 (.int .i64 d)).length = 276) := ⟨rfl⟩
  have HN := Aside0.mk (newC_zero m d)
  have hzl : zeroCells.length = 276 := rfl
  have hzn : ¬ zeroCells = [] := fun h => by rw [h] at hzl; cases hzl
  generalize zeroCells = zs at *
  have b1 : decide (d < 9) = false := decide_eq_false h1
  have b2 : decide (53 < d) = false := decide_eq_false h2
  have hd0 : 9 ≤ d := by omega
  have hd1 : d ≤ 53 := by omega
  clear h1 h2
  go_enter Try.func24, Try.ntmps24
  go_wp2_with (first | ((with_reducible refine gate_callee (f := 20) rfl ?_); refine goesL_ (some 9) rfl rfl Try.func20 (by kernel_rfl) rfl #[.int .u64 m] rfl (by (try simp only [List.map_toArray, List.map_cons, List.map_nil]); first | done | rfl) ?_; (with_reducible refine (gf2_Degree.calls k m d _ HD.out).mono ?_); rintro e w' ⟨rfl, ⟨nd, rfl⟩⟩; refine ⟨_, rfl, ?_⟩))
  have hb := Blk.new (w.drewN nd) ((zs.set 0 (.int .u64 m)).set 1 (.int .i64 d)) 61
  rw [HZ.out, ← HN.out, show (w.drewN nd).heap.size = w.heap.size from rfl] at hb
  have HB := Aside0.mk hb
  have HL := Aside0.mk (((Below.refl w.heap.size w).trans (show Below w.heap.size w (w.drewN nd) from ⟨rfl, rfl, rfl, Nat.le_refl _, fun _ _ => rfl⟩)).alloc (Nat.le_refl _) (.cells ((zs.set 0 (.int .u64 m)).set 1 (.int .i64 d)).toArray 61))
  have hsz : w.heap.size ≤ w.heap.size := Nat.le_refl _
  clear hb b1 b2 kz HN HZ hzl hzn
  generalize (w.drewN nd).alloc (.cells ((zs.set 0 (.int .u64 m)).set 1 (.int .i64 d)).toArray 61) = w1 at *
  generalize (Value.agg ((zs.set 0 (.int .u64 m)).set 1 (.int .i64 d)).toArray) = va
  obtain ⟨g', hg'⟩ : ∃ g', g' = w.heap.size := ⟨_, rfl⟩
  rw [← hg'] at HB HL hsz ⊢
  have HG := Aside0.mk hg'
  clear hg'
  have HW := Aside0.mk (Only.refl g' w1)
  go_loopw [20] (fun v20 wr => ∃ (i : Nat), i ≤ 256 ∧ v20 = .int .i64 i ∧ Aside0 (Blk wr g' 276 (newC m d i)) ∧ Aside0 (Only g' w1 wr)) (fun v20 _ => 256 - (intOf v20).toNat)
  case atStart => exact ⟨0, by omega, rfl, HB, HW⟩
  case round =>
    obtain ⟨i, hi, rfl, HBr, HWr⟩ := hrel
    obtain ⟨wo, rfl⟩ : ∃ wo : World, wo = wr := ⟨_, rfl⟩
    have k0 := (HBr.out.cell 0 (by omega)).trans (congrArg some (newC_01 m d i).1)
    have k1 := (HBr.out.cell 1 (by omega)).trans (congrArg some (newC_01 m d i).2)
    have hf := HBr.out.fz
    by_cases hlt : i < 256
    · have hc := HBr.out.cell (20 + i) (by omega)
      have hltb : decide ((i : Int) < 256) = true := decide_eq_true (by omega)
      go_wp2
      go_loop [7, 25] (fun v7 v25 => ∃ (j : Nat), j ≤ 15 ∧ v25 = .int .i64 j ∧ v7 = .int .u64 (shN m d (8 * j) (i : Int))) (fun _ v25 => 15 - (intOf v25).toNat)
      case atStart => exact ⟨0, by omega, rfl, rfl⟩
      case round =>
        obtain ⟨j, hj, rfl, rfl⟩ := hrel
        generalize hy : shN m d (8 * j) (i : Int) = y
        have Hy := Aside0.mk hy
        clear hy
        go_wp2_with (go_at_call 31; refine (shift_calls g' m d y _ k0 k1 (by omega) (by omega)).mono ?_; rintro e w' ⟨rfl, rfl⟩)
        · go_round
          case rel => exact ⟨j + 1, by omega, by go_num, by rw [← Hy.out, shN_add, show 8 + 8 * j = 8 * (j + 1) by omega]⟩
          case measure => simp [intOf]; omega
        · have : j = 15 := by omega
          subst this
          go_roundw
          case rel =>
            refine ⟨i + 1, by omega, by go_num, ⟨?_⟩, ⟨HWr.out.set _ _⟩⟩
            rw [newC_succ, show (120 : Nat) = 8 * 15 from rfl, Hy.out]
            exact HBr.out.set (by omega) _
          case measure => simp [intOf]; omega
    · have : i = 256 := by omega
      subst this
      go_wp2
      go_ret2
      exact ⟨g', by rw [HG.out]; exact Nat.le_refl _, rfl, HBr.out, by rw [← HG.out]; exact HL.out.trans (HWr.out.below (Nat.le_refl _))⟩
set_option maxRecDepth 100000 in
theorem new_bad (k : Nat) (m d : Int) (w : World) (hd : gf2_Degree.f k m = some d) (h : d < 9 ∨ d > 53) : Calls Try.prog 24 #[.int .u64 m] w fun e w' => e = .returned (.tuple #[.pointer none, .int .i64 6]) ∧ Drawn0 w w' := by
  have HD := Aside0.mk hd
  clear hd
  by_cases h1 : d < 9
  · clear h
    go_enter Try.func24, Try.ntmps24
    go_wp2_with (first | ((with_reducible refine gate_callee (f := 20) rfl ?_); refine goesL_ (some 9) rfl rfl Try.func20 (by kernel_rfl) rfl #[.int .u64 m] rfl (by (try simp only [List.map_toArray, List.map_cons, List.map_nil]); first | done | rfl) ?_; (with_reducible refine (gf2_Degree.calls k m d _ HD.out).mono ?_); rintro e w' ⟨rfl, ⟨nd, rfl⟩⟩; refine ⟨_, rfl, ?_⟩))
    go_ret2
    exact ⟨rfl, by repeat (first | exact Drawn0.refl _ | apply Drawn0.step)⟩
  · have h2 : 53 < d := by omega
    clear h
    go_enter Try.func24, Try.ntmps24
    go_wp2_with (first | ((with_reducible refine gate_callee (f := 20) rfl ?_); refine goesL_ (some 9) rfl rfl Try.func20 (by kernel_rfl) rfl #[.int .u64 m] rfl (by (try simp only [List.map_toArray, List.map_cons, List.map_nil]); first | done | rfl) ?_; (with_reducible refine (gf2_Degree.calls k m d _ HD.out).mono ?_); rintro e w' ⟨rfl, ⟨nd, rfl⟩⟩; refine ⟨_, rfl, ?_⟩))
    go_ret2
    exact ⟨rfl, by repeat (first | exact Drawn0.refl _ | apply Drawn0.step)⟩
end Go.Proofs.Ytkaabkoadoomjaa.Roll
