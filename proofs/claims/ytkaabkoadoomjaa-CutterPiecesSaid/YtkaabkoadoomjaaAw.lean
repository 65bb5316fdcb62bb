/- The cuts that the document fixes: the walk of awake. -/
import Derived.Test.YtkaabkoadoomjaaLq
namespace Go.Proofs.Ytkaabkoadoomjaa.Law
open Go.RowKit Go.Proofs.Ytkaabkoadoomjaa Go.Proofs.Ytkaabkoadoomjaa.D Go.Proofs.Ytkaabkoadoomjaa.Roll Go.Proofs.YtkaabkoadoomjaaW.PrintWords Go.Proofs.YtkaabkoadoomjaaW.PrintLast Go.Proofs.YtkaabkoadoomjaaW.PrintMore
set_option linter.unusedSimpArgs false
set_option linter.unusedVariables false
theorem lit8_C (w : World) (l : List Int) (T : TypeId) (h : l.length ≤ 1000) : Kd.C (Kd.int .u8) (w.alloc (.cells (l.map (Value.int .u8)).toArray T)) (some ⟨w.heap.size, 0, none⟩) l.length l := by
  refine Kd.C_of_reads (enc := Value.int .u8) (d := (0 : Int)) ⟨rfl, by omega, fun _ => ⟨_, rfl, fun j hj => ?_⟩⟩
  have hadd : (⟨w.heap.size, 0, none⟩ : Addr).add j = ⟨w.heap.size, j, none⟩ := by unfold Addr.add; split <;> simp_all
  rw [hadd, cell_of_row _ w.heap.size j _ T (0, 0) (heap_alloc_new w _)]
  simp [List.getD_eq_getElem?_getD, List.getElem?_eq_getElem hj]
theorem lit64_C (w : World) (l : List Int) (T : TypeId) (h : l.length ≤ 1000) : Kd.C (Kd.int .i64) (w.alloc (.cells (l.map (Value.int .i64)).toArray T)) (some ⟨w.heap.size, 0, none⟩) l.length l := by
  refine Kd.C_of_reads (enc := Value.int .i64) (d := (0 : Int)) ⟨rfl, by omega, fun _ => ⟨_, rfl, fun j hj => ?_⟩⟩
  have hadd : (⟨w.heap.size, 0, none⟩ : Addr).add j = ⟨w.heap.size, j, none⟩ := by unfold Addr.add; split <;> simp_all
  rw [hadd, cell_of_row _ w.heap.size j _ T (0, 0) (heap_alloc_new w _)]
  simp [List.getD_eq_getElem?_getD, List.getElem?_eq_getElem hj]
theorem same_l0 (l : List Int) (hl : l.length ≤ 140737488351232) : ∀ (k i : Nat), i ≤ l.length → l.length < k + i → hypogeumref14_Same.l0 k l l (i : Int) = some true
  | 0, i, h1, h2 => by omega
  | k + 1, i, h1, h2 => by
    unfold hypogeumref14_Same.l0
    by_cases h : i < l.length
    · rw [if_pos (by omega), if_pos (by omega), if_pos (by omega), if_pos rfl, w64 (by omega) (by omega)]
      have := same_l0 l hl k (i + 1) h (by omega)
      rwa [show ((i + 1 : Nat) : Int) = (i : Int) + 1 by omega] at this
    · rw [if_neg (by omega)]
theorem same_f (l : List Int) (hl : l.length ≤ 140737488351232) : hypogeumref14_Same.f (l.length + 1) l l = some true := by
  unfold hypogeumref14_Same.f
  rw [if_pos rfl]
  exact same_l0 l hl (l.length + 1) 0 (Nat.zero_le _) (by omega)
theorem same_calls {A B : Option Addr} {c d : Nat} {l : List Int} {w : World} (ha : Kd.C (Kd.int .i64) w A l.length l) (hc : l.length ≤ c) (hb : Kd.C (Kd.int .i64) w B l.length l) (hd : l.length ≤ d) (hl : l.length ≤ 140737488351232) :
    Calls Try.prog 13 #[.slice A l.length c, .slice B l.length d] w fun e w' => e = .returned (.bool true) ∧ Drawn0 w w' :=
  hypogeumref14_Same.calls _ A c l B d l true w ha hc hb hd (same_f l hl)
theorem ends0 (m : Nat) (mn mx : Int) (os : List Int) : ends m 0 mn mx os = (decide ((os.length : Int) = mx) || decide (mn ≤ (os.length : Int))) := by
  unfold ends endsAt
  rw [Nat.and_zero, decide_eq_true (rfl : (0 : Nat) = 0), Bool.and_true]
theorem lens_aw : lens 512 0 2 5 [] [1, 2, 3, 4, 5] = [2, 2, 1] := by
  simp [lens, ends0]
theorem ok_aw : OkC 512 2 5 := ⟨⟨by unfold U; omega, by decide, by decide⟩, by decide, by decide, by decide⟩
theorem not_aw : ¬ OkC 0 0 0 := fun h => absurd h.lo (by decide)
theorem lengths_aw (w : World) : Calls Try.prog 10 #[.agg #[.int .u64 512, .int .u64 0, .int .i64 2, .int .i64 5], .slice (some ⟨w.heap.size, 0, none⟩) 5 5] (w.alloc (.cells #[.int .u8 1, .int .u8 2, .int .u8 3, .int .u8 4, .int .u8 5] 5)) fun e w' => ∃ V, e = .returned (.tuple #[V, .int .i64 0]) ∧ Kd.R (Kd.int .i64) 3 w' w.heap.size (fun _ => True) V [2, 2, 1] ∧ Below w.heap.size w w' := by
  have h := lengths_ok 512 0 2 5 ok_aw (by unfold U; omega) _ 5 [1, 2, 3, 4, 5] _ (by intro x hx; simp at hx; omega) (lit8_C w [1, 2, 3, 4, 5] 5 (by decide)) (Nat.le_refl _) (by rw [lens_aw]; decide) (by decide)
  rw [lens_aw] at h
  refine h.mono ?_
  rintro e w' ⟨V, rfl, hv, hb⟩
  exact ⟨V, rfl, Kd.R_lower hv (by rw [World.size_alloc]; omega), below_step (below_alloc (Below.refl _ _) _) hb⟩
set_option maxHeartbeats 4000000 in
set_option maxRecDepth 100000 in
theorem awake_calls (w : World) : Calls Try.prog 8 #[] w fun e w' => e = .returned (.bool true) ∧ Below w.heap.size w w' := by
  have HN := Aside0.mk (fun w => cnew_no (m := 0) (k := 0) (mn := 0) (mx := 0) (by unfold U; omega) not_aw w)
  go_enter Try.func8, Try.ntmps8
  go_wp2_with (first | (go_at_call 10; with_reducible refine (lengths_aw _).mono ?_; rintro e w1 ⟨V, rfl, hv, hb⟩; obtain ⟨A, c, rfl, hc, hC⟩ := Kd.R_reads hv; have HV := Aside0.mk hC; have HB := Aside0.mk hb; clear hv hC hb) | (go_at_call 17; refine (HN.out _).mono ?_; rintro e w2 ⟨rfl, hb⟩; have nR_ := Aside0.mk (Kd.C_below HV.out hb); have n0_ := Aside0.mk (below_step HB.out hb); clear HB HV hb; have HB := n0_; have HV := nR_; clear n0_ nR_) | (go_at_call 13; refine (same_calls (l := [2, 2, 1]) (Kd.C_below HV.out (below_alloc (Below.refl _ _) _)) hc (lit64_C _ [2, 2, 1] 3 (by decide)) (Nat.le_refl _) (by decide)).mono ?_; rintro e w3 ⟨rfl, ⟨nd, rfl⟩⟩))
  go_ret
  exact ⟨rfl, pw_below_drewN (below_alloc HB.out _) _⟩
end Go.Proofs.Ytkaabkoadoomjaa.Law
