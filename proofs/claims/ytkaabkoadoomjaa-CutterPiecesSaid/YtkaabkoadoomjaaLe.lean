/- CutterLengths: the walk. -/
import Derived.Test.YtkaabkoadoomjaaPl
namespace Go.Proofs.Ytkaabkoadoomjaa.Law
open Go.RowKit Go.Proofs.Ytkaabkoadoomjaa Go.Proofs.Ytkaabkoadoomjaa.D Go.Proofs.Ytkaabkoadoomjaa.Roll Go.Proofs.YtkaabkoadoomjaaW.PrintWords Go.Proofs.YtkaabkoadoomjaaW.PrintLast Go.Proofs.YtkaabkoadoomjaaW.PrintMore
set_option linter.unusedSimpArgs false
set_option linter.unusedVariables false
theorem conv_u8 {w : World} {A : Option Addr} {c : Nat} {l : List Int} (h : Kd.C (Kd.int .u8) w A l.length l) : (convert 25 9 (.slice A l.length c)).run Try.prog w = .ok (.string (strOfNums l)) w :=
  Kd.C_string (P := Try.prog) (A := A) (c := c) Try.underlying25 Try.underlying5 Try.underlying9 h
theorem own_calls {A : Option Addr} {c : Nat} {l : List Int} {w : World} (hr : Kd.C (Kd.int .u8) w A l.length l) (hc : l.length ≤ c) (hl : l.length < 140737488355328) :
    Calls Try.prog 9 #[.slice A l.length c] w fun e w' => ∃ V, e = .returned V ∧ Kd.R (Kd.int .u8) 5 w' w.heap.size (fun _ => True) V l ∧ Below w.heap.size w w' :=
  hypogeumlaw14_own.calls A c l l w hr hc (by unfold hypogeumlaw14_own.f; rw [Option.bind_some, if_pos (by rw [List.length_nil]; omega), List.nil_append])
theorem rlengths_calls {m k : Nat} {mn mx : Int} (ok : OkC m mn mx) (hk : U k) {A : Option Addr} {c : Nat} {b : List Int} {w : World} (hb : Bytes b) (hr : Kd.C (Kd.int .u8) w A b.length b) (hc : b.length ≤ c) (hl : b.length ≤ 17592186044415) :
    Calls Try.prog 14 #[.agg #[.int .u64 (m : Int), .int .u64 (k : Int), .int .i64 mn, .int .i64 mx], .slice A b.length c] w fun e w' => ∃ V, e = .returned V ∧ Kd.R (Kd.int .i64) 3 w' w.heap.size (fun _ => True) V (lens m k mn mx [] b) ∧ Below w.heap.size w w' := by
  obtain ⟨n, hn⟩ := (ev_lengths ok hk b.length b [] (Nat.le_refl _) hb (by rw [List.length_nil]; omega) (by omega)).rounds
  refine (hypogeumref14_Lengths.calls n (m : Int) (k : Int) mn mx (fun q => q < w.heap.size) A c b _ w (Kd.V_mk hc (Kd.C_F (Kd.heap_int _) hr)) (by rw [List.nil_append] at hn; exact hn)).mono ?_
  rintro e w' ⟨V, rfl, hv, hbe⟩
  exact ⟨V, rfl, Kd.R_mono hv (fun _ _ => trivial), hbe⟩
theorem rright_calls {m : Nat} (hu : U m) (k mn mx : Int) (w : World) : Calls Try.prog 12 #[.agg #[.int .u64 (m : Int), .int .u64 k, .int .i64 mn, .int .i64 mx]] w fun e w' => e = .returned (.bool (decide (OkC m mn mx))) ∧ Below w.heap.size w w' := by
  obtain ⟨n, hn⟩ := (ev_rright hu k mn mx).rounds
  exact hypogeumref14_Right.calls n (m : Int) k mn mx _ w hn
set_option maxHeartbeats 4000000 in
set_option maxRecDepth 100000 in
theorem cl_ok (m k : Nat) (mn mx : Int) (ok : OkC m mn mx) (hk : U k) (A : Option Addr) (c : Nat) (b : List Int) (w : World) (hb : Bytes b) (hr : Kd.C (Kd.int .u8) w A b.length b) (hc : b.length ≤ c) (hl : b.length ≤ 600) :
    Calls Try.prog 3 #[.agg #[.int .u64 (m : Int), .int .u64 (k : Int), .int .i64 mn, .int .i64 mx], .slice A b.length c] w fun e w' => e = .returned (.bool true) ∧ Below w.heap.size w w' := by
  have hgt : decide ((600 : Int) < (b.length : Int)) = false := decide_eq_false (by omega)
  have HRR := Aside0.mk (rright_calls ok.may.u (k : Int) mn mx)
  have HR1 := Aside0.mk (right_calls ok.may.u (k : Int) mn mx)
  rw [decide_eq_true ok] at HRR HR1
  have HU := Aside0.mk hk
  have HBY := Aside0.mk hb
  have HOK := Aside0.mk ok
  have hln := lens_len m k mn mx b.length b (Nat.le_refl _)
  have HLN := Aside0.mk (show (lens m k mn mx [] b).length ≤ 17592186044415 by omega)
  have HLM := Aside0.mk (show (lens m k mn mx [] b).length ≤ 140737488351232 by omega)
  have HLC := Aside0.mk (show b.length ≤ 17592186044415 by omega)
  have HLB := Aside0.mk (show b.length ≤ 140737488351232 by omega)
  clear hln
  have HB := Aside0.mk (below_alloc (Below.refl w.heap.size w) (.cells #[.int .u64 (m : Int), .int .u64 (k : Int), .int .i64 mn, .int .i64 mx] 24))
  have KC := Aside0.mk (heap_alloc_new w (.cells #[.int .u64 (m : Int), .int .u64 (k : Int), .int .i64 mn, .int .i64 mx] 24))
  have RB := Aside0.mk (Kd.C_below hr (below_alloc (Below.refl w.heap.size w) (.cells #[.int .u64 (m : Int), .int .u64 (k : Int), .int .i64 mn, .int .i64 mx] 24)))
  have z0 := (blk_cell KC.out 0).trans rfl
  have z1 := (blk_cell KC.out 1).trans rfl
  have z2 := (blk_cell KC.out 2).trans rfl
  have z3 := (blk_cell KC.out 3).trans rfl
  clear hk hb hr ok
  go_enter Try.func3, Try.ntmps3
  go_wp2_with (first | (go_at_call 9; with_reducible refine (own_calls RB.out hc (by omega)).mono ?_; rintro e w1 ⟨V1, rfl, hv, hb⟩; obtain ⟨A1, c1, rfl, hc1, hC1⟩ := Kd.R_reads hv; have RX := Aside0.mk hC1; clear hv hC1; have n0_ := Aside0.mk (below_step (by repeat (first | (with_reducible first | exact HB.out | apply below_alloc | apply pw_below_drewN | apply below_drew1) | exact HB.out)) hb); have n1_ := Aside0.mk (blk_below KC.out hb); have n2_ := Aside0.mk (Kd.C_below RB.out hb); clear hb z0 z1 z2 z3 HB KC RB; have HB := n0_; have KC := n1_; have RB := n2_; clear n0_ n1_ n2_; have z0 := (blk_cell KC.out 0).trans rfl; have z1 := (blk_cell KC.out 1).trans rfl; have z2 := (blk_cell KC.out 2).trans rfl; have z3 := (blk_cell KC.out 3).trans rfl) | (go_at_call 8; with_reducible refine (awake_calls _).mono ?_; rintro e w9 ⟨rfl, hb⟩; have n0_ := Aside0.mk (below_step (by repeat (first | (with_reducible first | exact HB.out | apply below_alloc | apply pw_below_drewN | apply below_drew1) | exact HB.out)) hb); clear HB hb; have HB := n0_; clear n0_) | (go_at_call 10; with_reducible refine (lengths_ok m k mn mx HOK.out HU.out A1 c1 b _ HBY.out RX.out hc1 HLN.out HLB.out).mono ?_; rintro e w2 ⟨V2, rfl, hv, hb⟩; obtain ⟨A2, c2, rfl, hc2, hC2⟩ := Kd.R_reads hv; have RL := Aside0.mk hC2; clear hv hC2; have n0_ := Aside0.mk (below_step (by repeat (first | (with_reducible first | exact HB.out | apply below_alloc | apply pw_below_drewN | apply below_drew1) | exact HB.out)) hb); have n1_ := Aside0.mk (blk_below KC.out hb); have n2_ := Aside0.mk (Kd.C_below RB.out hb); have n3_ := Aside0.mk (Kd.C_below RX.out hb); clear hb z0 z1 z2 z3 HB KC RB RX; have HB := n0_; have KC := n1_; have RB := n2_; have RX := n3_; clear n0_ n1_ n2_ n3_; have z0 := (blk_cell KC.out 0).trans rfl; have z1 := (blk_cell KC.out 1).trans rfl; have z2 := (blk_cell KC.out 2).trans rfl; have z3 := (blk_cell KC.out 3).trans rfl) | (go_at_call 14; with_reducible refine (rlengths_calls HOK.out HU.out HBY.out RB.out hc HLC.out).mono ?_; rintro e w6 ⟨V6, rfl, hv, hb⟩; obtain ⟨A6, c6, rfl, hc6, hC6⟩ := Kd.R_reads hv; have RM := Aside0.mk hC6; clear hv hC6; have n0_ := Aside0.mk (below_step (by repeat (first | (with_reducible first | exact HB.out | apply below_alloc | apply pw_below_drewN | apply below_drew1) | exact HB.out)) hb); have n1_ := Aside0.mk (blk_below KC.out hb); have n2_ := Aside0.mk (Kd.C_below RB.out hb); have n3_ := Aside0.mk (Kd.C_below RX.out hb); have n4_ := Aside0.mk (Kd.C_below RL.out hb); clear hb z0 z1 z2 z3 HB KC RB RX RL; have HB := n0_; have KC := n1_; have RB := n2_; have RX := n3_; have RL := n4_; clear n0_ n1_ n2_ n3_ n4_; have z0 := (blk_cell KC.out 0).trans rfl; have z1 := (blk_cell KC.out 1).trans rfl; have z2 := (blk_cell KC.out 2).trans rfl; have z3 := (blk_cell KC.out 3).trans rfl) | (go_at_call 13; with_reducible refine (same_calls RL.out hc2 RM.out hc6 HLM.out).mono ?_; rintro e w7 ⟨rfl, ⟨nd, rfl⟩⟩; have n0_ := Aside0.mk (pw_below_drewN HB.out nd); clear HB; have HB := n0_; clear n0_) | (go_at_call 12; with_reducible refine (HRR.out _).mono ?_; rintro e w5 ⟨rfl, hb⟩; have n0_ := Aside0.mk (below_step (by repeat (first | (with_reducible first | exact HB.out | apply below_alloc | apply pw_below_drewN | apply below_drew1) | exact HB.out)) hb); have n1_ := Aside0.mk (blk_below KC.out hb); have n2_ := Aside0.mk (Kd.C_below RB.out hb); have n3_ := Aside0.mk (Kd.C_below RX.out hb); have n4_ := Aside0.mk (Kd.C_below RL.out hb); clear hb z0 z1 z2 z3 HB KC RB RX RL; have HB := n0_; have KC := n1_; have RB := n2_; have RX := n3_; have RL := n4_; clear n0_ n1_ n2_ n3_ n4_; have z0 := (blk_cell KC.out 0).trans rfl; have z1 := (blk_cell KC.out 1).trans rfl; have z2 := (blk_cell KC.out 2).trans rfl; have z3 := (blk_cell KC.out 3).trans rfl))
  obtain ⟨gc, hgc⟩ : ∃ g, g = w.heap.size := ⟨_, rfl⟩
  rw [← hgc] at KC ⊢
  have HGC := Aside0.mk hgc
  clear hgc z0 z1 z2 z3
  refine start_ (n := 12) (S := fun w' => w'.cell? ⟨gc, 0, none⟩ = some (.int .u64 (m : Int)) ∧ w'.cell? ⟨gc, 1, none⟩ = some (.int .u64 (k : Int)) ∧ w'.cell? ⟨gc, 2, none⟩ = some (.int .i64 mn) ∧ w'.cell? ⟨gc, 3, none⟩ = some (.int .i64 mx) ∧ (convert 25 9 (.slice A1 b.length c1)).run Try.prog w' = .ok (.string (strOfNums b)) w' ∧ (convert 25 9 (.slice A b.length c)).run Try.prog w' = .ok (.string (strOfNums b)) w') (ds := []) #[false, false, false, false, false, false, false, false, false, false, false, false] (by kernel_rfl) rfl rfl ⟨(blk_cell (w := w2.drew) KC.out 0).trans rfl, (blk_cell (w := w2.drew) KC.out 1).trans rfl, (blk_cell (w := w2.drew) KC.out 2).trans rfl, (blk_cell (w := w2.drew) KC.out 3).trans rfl, conv_u8 (Kd.C_below RX.out (below_drew1 (Below.refl _ _))), conv_u8 (Kd.C_below RB.out (below_drew1 (Below.refl _ _)))⟩ (fun hHeld => ?_)
  refine take_ (i := 0) (N := some 20) (v := ?_) (a' := ?_) #[true, false, false, false, false, false, false, false, false, false, false, false] rfl rfl (by kernel_rfl) (fun _ _ _ h => h) (Or.inl ⟨by rfl, ?_⟩) hHeld ?_ ?_
  rotate_left
  · rintro w' ⟨s0, s1, s2, s3, s4, s5⟩
    go_simp
    with_reducible rfl
  rotate_left
  · simp only [Act.put, List.setIfInBounds_toArray, List.set_cons_zero, List.set_cons_succ, i64_w, i32_w]
    rfl
  refine take_ (i := 2) (N := some 22) (v := ?_) (a' := ?_) #[true, false, true, false, false, false, false, false, false, false, false, false] rfl rfl (by kernel_rfl) (fun _ _ _ h => h) (Or.inl ⟨by rfl, ?_⟩) hHeld ?_ ?_
  rotate_left
  · rintro w' ⟨s0, s1, s2, s3, s4, s5⟩
    go_simp
    with_reducible rfl
  rotate_left
  · simp only [Act.put, List.setIfInBounds_toArray, List.set_cons_zero, List.set_cons_succ, i64_w, i32_w]
    rfl
  refine one_ (i := 1) (N := some 21) #[true, true, true, false, false, false, false, false, false, false, false, false] rfl rfl (by kernel_rfl) (by decide) (fun K hK => ?_)
  refine goes_ Try.func11 (by kernel_rfl) rfl #[.agg #[.int .u64 (m : Int), .int .u64 (k : Int), .int .i64 mn, .int .i64 mx]] (by rfl) rfl rfl (by simp only [List.map_toArray, List.map_cons, List.map_nil]; rfl) ?_
  with_reducible refine (HR1.out _).mono ?_
  rintro e w3 ⟨rfl, hb⟩
  refine ⟨_, rfl, ?_⟩
  have n0_ := Aside0.mk (below_step (below_drew1 HB.out) hb)
  have n1_ := Aside0.mk (blk_below KC.out (below_step (below_drew1 (Below.refl w2.heap.size w2)) hb))
  have n2_ := Aside0.mk (Kd.C_below RB.out (below_step (below_drew1 (Below.refl w2.heap.size w2)) hb))
  have n3_ := Aside0.mk (Kd.C_below RX.out (below_step (below_drew1 (Below.refl w2.heap.size w2)) hb))
  have n4_ := Aside0.mk (Kd.C_below RL.out (below_step (below_drew1 (Below.refl w2.heap.size w2)) hb))
  clear hb HB KC RB RX RL
  have HB := n0_
  have KC := n1_
  have RB := n2_
  have RX := n3_
  have RL := n4_
  clear n0_ n1_ n2_ n3_ n4_
  refine hK.out _ _ ⟨(blk_cell KC.out 0).trans rfl, (blk_cell KC.out 1).trans rfl, (blk_cell KC.out 2).trans rfl, (blk_cell KC.out 3).trans rfl, conv_u8 RX.out, conv_u8 RB.out⟩ (fun hHeld => ?_)
  clear hK K
  refine norm_ (a' := ?_) ?_ ?_
  rotate_left
  · show Act.put _ (some 21) _ = _
    simp only [Act.put, List.setIfInBounds_toArray, List.set_cons_zero, List.set_cons_succ, i64_w, i32_w]
    rfl
  refine one_ (i := 3) (N := some 23) #[true, true, true, true, false, false, false, false, false, false, false, false] rfl rfl (by kernel_rfl) (by decide) (fun K hK => ?_)
  refine goes_ Try.func12 (by kernel_rfl) rfl #[.agg #[.int .u64 (m : Int), .int .u64 (k : Int), .int .i64 mn, .int .i64 mx]] (by rfl) rfl rfl (by simp only [List.map_toArray, List.map_cons, List.map_nil]; rfl) ?_
  with_reducible refine (HRR.out _).mono ?_
  rintro e w4 ⟨rfl, hb⟩
  refine ⟨_, rfl, ?_⟩
  have n0_ := Aside0.mk (below_step HB.out hb)
  have n1_ := Aside0.mk (blk_below KC.out hb)
  have n2_ := Aside0.mk (Kd.C_below RB.out hb)
  have n3_ := Aside0.mk (Kd.C_below RX.out hb)
  have n4_ := Aside0.mk (Kd.C_below RL.out hb)
  clear hb HB KC RB RX RL
  have HB := n0_
  have KC := n1_
  have RB := n2_
  have RX := n3_
  have RL := n4_
  clear n0_ n1_ n2_ n3_ n4_
  refine hK.out _ _ ⟨(blk_cell KC.out 0).trans rfl, (blk_cell KC.out 1).trans rfl, (blk_cell KC.out 2).trans rfl, (blk_cell KC.out 3).trans rfl, conv_u8 RX.out, conv_u8 RB.out⟩ (fun hHeld => ?_)
  clear hK K
  refine norm_ (a' := ?_) ?_ ?_
  rotate_left
  · show Act.put _ (some 23) _ = _
    simp only [Act.put, List.setIfInBounds_toArray, List.set_cons_zero, List.set_cons_succ, i64_w, i32_w]
    rfl
  refine pure_ (i := 4) (N := some 24) (v := ?_) (a' := ?_) #[true, true, true, true, true, false, false, false, false, false, false, false] rfl rfl (by kernel_rfl) (fun _ _ _ h => h) (Or.inl ⟨by rfl, ?_⟩) ?_ ?_
  rotate_left
  · intro w'
    go_simp
    with_reducible rfl
  rotate_left
  · simp only [Act.put, List.setIfInBounds_toArray, List.set_cons_zero, List.set_cons_succ, i64_w, i32_w]
    rfl
  refine pure_ (i := 5) (N := some 25) (v := ?_) (a' := ?_) #[true, true, true, true, true, true, false, false, false, false, false, false] rfl rfl (by kernel_rfl) (fun _ _ _ h => h) (Or.inl ⟨by rfl, ?_⟩) ?_ ?_
  rotate_left
  · intro w'
    go_simp
    with_reducible rfl
  rotate_left
  · simp only [Act.put, List.setIfInBounds_toArray, List.set_cons_zero, List.set_cons_succ, i64_w, i32_w]
    rfl
  refine pure_ (i := 6) (N := some 26) (v := ?_) (a' := ?_) #[true, true, true, true, true, true, true, false, false, false, false, false] rfl rfl (by kernel_rfl) (fun _ _ _ h => h) (Or.inl ⟨by rfl, ?_⟩) ?_ ?_
  rotate_left
  · intro w'
    go_simp
    with_reducible rfl
  rotate_left
  · simp only [Act.put, List.setIfInBounds_toArray, List.set_cons_zero, List.set_cons_succ, i64_w, i32_w]
    rfl
  refine pure_ (i := 8) (N := some 28) (v := ?_) (a' := ?_) #[true, true, true, true, true, true, true, false, true, false, false, false] rfl rfl (by kernel_rfl) (fun _ _ _ h => h) (Or.inl ⟨by rfl, ?_⟩) ?_ ?_
  rotate_left
  · intro w'
    go_simp
    with_reducible rfl
  rotate_left
  · simp only [Act.put, List.setIfInBounds_toArray, List.set_cons_zero, List.set_cons_succ, i64_w, i32_w]
    rfl
  refine join_ (σ := Unit) 2 #[true, true, true, true, true, true, true, true, true, true, false, false] (fun _ => [(27, .string (strOfNums b)), (29, .string (strOfNums b))]) (fun _ w' => w' = w4) ?_ ?_
  rotate_left
  · intro hCont
    refine two_ (i := 7) (j := 9) (Ni := some 27) (Nj := some 29) #[true, true, true, true, true, true, true, true, true, false, false, false] #[true, true, true, true, true, true, true, false, true, true, false, false] rfl rfl rfl rfl (by kernel_rfl) (by decide) (by decide) (fun K hK => ?_) (fun K hK => ?_)
    · skip
      have cv_ := conv_u8 (c := c1) RX.out
      refine value_ (w1 := ?_) (v := ?_) (by rfl) rfl ?_ ?_
      rotate_left 2
      · go_simp
        constructor
        · rfl
        · rfl
      clear cv_
      refine hK.out _ _ ⟨(blk_cell KC.out 0).trans rfl, (blk_cell KC.out 1).trans rfl, (blk_cell KC.out 2).trans rfl, (blk_cell KC.out 3).trans rfl, conv_u8 RX.out, conv_u8 RB.out⟩ (fun hHeld => ?_)
      clear hK K
      refine norm_ (a' := ?_) ?_ ?_
      rotate_left
      · show Act.put _ (some 27) _ = _
        simp only [Act.put, List.setIfInBounds_toArray, List.set_cons_zero, List.set_cons_succ, i64_w, i32_w]
        rfl
      refine one_ (i := 9) (N := some 29) #[true, true, true, true, true, true, true, true, true, true, false, false] rfl rfl (by kernel_rfl) (by decide) (fun K hK => ?_)
      have cv_ := conv_u8 (c := c) RB.out
      refine value_ (w1 := ?_) (v := ?_) (by rfl) rfl ?_ ?_
      rotate_left 2
      · go_simp
        constructor
        · rfl
        · rfl
      clear cv_
      refine hK.out _ _ ⟨(blk_cell KC.out 0).trans rfl, (blk_cell KC.out 1).trans rfl, (blk_cell KC.out 2).trans rfl, (blk_cell KC.out 3).trans rfl, conv_u8 RX.out, conv_u8 RB.out⟩ (fun hHeld => ?_)
      clear hK K
      refine norm_ (a' := ?_) ?_ ?_
      rotate_left
      · show Act.put _ (some 29) _ = _
        simp only [Act.put, List.setIfInBounds_toArray, List.set_cons_zero, List.set_cons_succ, i64_w, i32_w]
        rfl
      exact norm_ (by simp only [putAll, Act.put, List.setIfInBounds_toArray, List.set_cons_zero, List.set_cons_succ]) (hCont () _ rfl)
    · skip
      have cv_ := conv_u8 (c := c) RB.out
      refine value_ (w1 := ?_) (v := ?_) (by rfl) rfl ?_ ?_
      rotate_left 2
      · go_simp
        constructor
        · rfl
        · rfl
      clear cv_
      refine hK.out _ _ ⟨(blk_cell KC.out 0).trans rfl, (blk_cell KC.out 1).trans rfl, (blk_cell KC.out 2).trans rfl, (blk_cell KC.out 3).trans rfl, conv_u8 RX.out, conv_u8 RB.out⟩ (fun hHeld => ?_)
      clear hK K
      refine norm_ (a' := ?_) ?_ ?_
      rotate_left
      · show Act.put _ (some 29) _ = _
        simp only [Act.put, List.setIfInBounds_toArray, List.set_cons_zero, List.set_cons_succ, i64_w, i32_w]
        rfl
      refine one_ (i := 7) (N := some 27) #[true, true, true, true, true, true, true, true, true, true, false, false] rfl rfl (by kernel_rfl) (by decide) (fun K hK => ?_)
      have cv_ := conv_u8 (c := c1) RX.out
      refine value_ (w1 := ?_) (v := ?_) (by rfl) rfl ?_ ?_
      rotate_left 2
      · go_simp
        constructor
        · rfl
        · rfl
      clear cv_
      refine hK.out _ _ ⟨(blk_cell KC.out 0).trans rfl, (blk_cell KC.out 1).trans rfl, (blk_cell KC.out 2).trans rfl, (blk_cell KC.out 3).trans rfl, conv_u8 RX.out, conv_u8 RB.out⟩ (fun hHeld => ?_)
      clear hK K
      refine norm_ (a' := ?_) ?_ ?_
      rotate_left
      · show Act.put _ (some 27) _ = _
        simp only [Act.put, List.setIfInBounds_toArray, List.set_cons_zero, List.set_cons_succ, i64_w, i32_w]
        rfl
      exact norm_ (by simp only [putAll, Act.put, List.setIfInBounds_toArray, List.set_cons_zero, List.set_cons_succ]) (hCont () _ rfl)
  rintro s_ w104 rfl
  have hHeld : w104.cell? ⟨gc, 0, none⟩ = some (.int .u64 (m : Int)) ∧ w104.cell? ⟨gc, 1, none⟩ = some (.int .u64 (k : Int)) ∧ w104.cell? ⟨gc, 2, none⟩ = some (.int .i64 mn) ∧ w104.cell? ⟨gc, 3, none⟩ = some (.int .i64 mx) ∧ (convert 25 9 (.slice A1 b.length c1)).run Try.prog w104 = .ok (.string (strOfNums b)) w104 ∧ (convert 25 9 (.slice A b.length c)).run Try.prog w104 = .ok (.string (strOfNums b)) w104 := ⟨(blk_cell KC.out 0).trans rfl, (blk_cell KC.out 1).trans rfl, (blk_cell KC.out 2).trans rfl, (blk_cell KC.out 3).trans rfl, conv_u8 RX.out, conv_u8 RB.out⟩
  refine norm_ (a' := ?_) ?_ ?_
  rotate_left
  · simp only [putAll, Act.put, List.setIfInBounds_toArray, List.set_cons_zero, List.set_cons_succ]
    rfl
  refine pure_ (i := 10) (N := some 30) (v := ?_) (a' := ?_) #[true, true, true, true, true, true, true, true, true, true, true, false] rfl rfl (by kernel_rfl) (fun _ _ _ h => h) (Or.inl ⟨by rfl, ?_⟩) ?_ ?_
  rotate_left
  · intro w'
    go_simp
    with_reducible rfl
  rotate_left
  · simp only [Act.put, List.setIfInBounds_toArray, List.set_cons_zero, List.set_cons_succ, i64_w, i32_w]
    rfl
  refine pure_ (i := 11) (N := some 31) (v := ?_) (a' := ?_) #[true, true, true, true, true, true, true, true, true, true, true, true] rfl rfl (by kernel_rfl) (fun _ _ _ h => h) (Or.inl ⟨by rfl, ?_⟩) ?_ ?_
  rotate_left
  · intro w'
    go_simp
    with_reducible rfl
  rotate_left
  · simp only [Act.put, List.setIfInBounds_toArray, List.set_cons_zero, List.set_cons_succ, i64_w, i32_w]
    rfl
  refine done_ (by kernel_rfl) ?_
  have z0 := (blk_cell KC.out 0).trans rfl
  have z1 := (blk_cell KC.out 1).trans rfl
  have z2 := (blk_cell KC.out 2).trans rfl
  have z3 := (blk_cell KC.out 3).trans rfl
  go_wp2_with (first | (go_at_call 9; with_reducible refine (own_calls RB.out hc (by omega)).mono ?_; rintro e w1 ⟨V1, rfl, hv, hb⟩; obtain ⟨A1, c1, rfl, hc1, hC1⟩ := Kd.R_reads hv; have RX := Aside0.mk hC1; clear hv hC1; have n0_ := Aside0.mk (below_step (by repeat (first | (with_reducible first | exact HB.out | apply below_alloc | apply pw_below_drewN | apply below_drew1) | exact HB.out)) hb); have n1_ := Aside0.mk (blk_below KC.out hb); have n2_ := Aside0.mk (Kd.C_below RB.out hb); clear hb z0 z1 z2 z3 HB KC RB; have HB := n0_; have KC := n1_; have RB := n2_; clear n0_ n1_ n2_; have z0 := (blk_cell KC.out 0).trans rfl; have z1 := (blk_cell KC.out 1).trans rfl; have z2 := (blk_cell KC.out 2).trans rfl; have z3 := (blk_cell KC.out 3).trans rfl) | (go_at_call 8; with_reducible refine (awake_calls _).mono ?_; rintro e w9 ⟨rfl, hb⟩; have n0_ := Aside0.mk (below_step (by repeat (first | (with_reducible first | exact HB.out | apply below_alloc | apply pw_below_drewN | apply below_drew1) | exact HB.out)) hb); clear HB hb; have HB := n0_; clear n0_) | (go_at_call 10; with_reducible refine (lengths_ok m k mn mx HOK.out HU.out A1 c1 b _ HBY.out RX.out hc1 HLN.out HLB.out).mono ?_; rintro e w2 ⟨V2, rfl, hv, hb⟩; obtain ⟨A2, c2, rfl, hc2, hC2⟩ := Kd.R_reads hv; have RL := Aside0.mk hC2; clear hv hC2; have n0_ := Aside0.mk (below_step (by repeat (first | (with_reducible first | exact HB.out | apply below_alloc | apply pw_below_drewN | apply below_drew1) | exact HB.out)) hb); have n1_ := Aside0.mk (blk_below KC.out hb); have n2_ := Aside0.mk (Kd.C_below RB.out hb); have n3_ := Aside0.mk (Kd.C_below RX.out hb); clear hb z0 z1 z2 z3 HB KC RB RX; have HB := n0_; have KC := n1_; have RB := n2_; have RX := n3_; clear n0_ n1_ n2_ n3_; have z0 := (blk_cell KC.out 0).trans rfl; have z1 := (blk_cell KC.out 1).trans rfl; have z2 := (blk_cell KC.out 2).trans rfl; have z3 := (blk_cell KC.out 3).trans rfl) | (go_at_call 14; with_reducible refine (rlengths_calls HOK.out HU.out HBY.out RB.out hc HLC.out).mono ?_; rintro e w6 ⟨V6, rfl, hv, hb⟩; obtain ⟨A6, c6, rfl, hc6, hC6⟩ := Kd.R_reads hv; have RM := Aside0.mk hC6; clear hv hC6; have n0_ := Aside0.mk (below_step (by repeat (first | (with_reducible first | exact HB.out | apply below_alloc | apply pw_below_drewN | apply below_drew1) | exact HB.out)) hb); have n1_ := Aside0.mk (blk_below KC.out hb); have n2_ := Aside0.mk (Kd.C_below RB.out hb); have n3_ := Aside0.mk (Kd.C_below RX.out hb); have n4_ := Aside0.mk (Kd.C_below RL.out hb); clear hb z0 z1 z2 z3 HB KC RB RX RL; have HB := n0_; have KC := n1_; have RB := n2_; have RX := n3_; have RL := n4_; clear n0_ n1_ n2_ n3_ n4_; have z0 := (blk_cell KC.out 0).trans rfl; have z1 := (blk_cell KC.out 1).trans rfl; have z2 := (blk_cell KC.out 2).trans rfl; have z3 := (blk_cell KC.out 3).trans rfl) | (go_at_call 13; with_reducible refine (same_calls RL.out hc2 RM.out hc6 HLM.out).mono ?_; rintro e w7 ⟨rfl, ⟨nd, rfl⟩⟩; have n0_ := Aside0.mk (pw_below_drewN HB.out nd); clear HB; have HB := n0_; clear n0_) | (go_at_call 12; with_reducible refine (HRR.out _).mono ?_; rintro e w5 ⟨rfl, hb⟩; have n0_ := Aside0.mk (below_step (by repeat (first | (with_reducible first | exact HB.out | apply below_alloc | apply pw_below_drewN | apply below_drew1) | exact HB.out)) hb); have n1_ := Aside0.mk (blk_below KC.out hb); have n2_ := Aside0.mk (Kd.C_below RB.out hb); have n3_ := Aside0.mk (Kd.C_below RX.out hb); have n4_ := Aside0.mk (Kd.C_below RL.out hb); clear hb z0 z1 z2 z3 HB KC RB RX RL; have HB := n0_; have KC := n1_; have RB := n2_; have RX := n3_; have RL := n4_; clear n0_ n1_ n2_ n3_ n4_; have z0 := (blk_cell KC.out 0).trans rfl; have z1 := (blk_cell KC.out 1).trans rfl; have z2 := (blk_cell KC.out 2).trans rfl; have z3 := (blk_cell KC.out 3).trans rfl))
  go_ret
  exact ⟨rfl, HB.out⟩
set_option maxHeartbeats 4000000 in
set_option maxRecDepth 100000 in
theorem cl_no (m k : Nat) (mn mx : Int) (hu : U m) (no : ¬ OkC m mn mx) (hk : U k) (A : Option Addr) (c : Nat) (b : List Int) (w : World) (hb : Bytes b) (hr : Kd.C (Kd.int .u8) w A b.length b) (hc : b.length ≤ c) (hl : b.length ≤ 600) :
    Calls Try.prog 3 #[.agg #[.int .u64 (m : Int), .int .u64 (k : Int), .int .i64 mn, .int .i64 mx], .slice A b.length c] w fun e w' => e = .returned (.bool true) ∧ Below w.heap.size w w' := by
  have hgt : decide ((600 : Int) < (b.length : Int)) = false := decide_eq_false (by omega)
  have HRR := Aside0.mk (rright_calls hu (k : Int) mn mx)
  have HR1 := Aside0.mk (right_calls hu (k : Int) mn mx)
  rw [decide_eq_false no] at HRR HR1
  have HU := Aside0.mk hk
  have HBY := Aside0.mk hb
  have HUM := Aside0.mk hu
  have HNO := Aside0.mk no
  have HB := Aside0.mk (below_alloc (Below.refl w.heap.size w) (.cells #[.int .u64 (m : Int), .int .u64 (k : Int), .int .i64 mn, .int .i64 mx] 24))
  have KC := Aside0.mk (heap_alloc_new w (.cells #[.int .u64 (m : Int), .int .u64 (k : Int), .int .i64 mn, .int .i64 mx] 24))
  have RB := Aside0.mk (Kd.C_below hr (below_alloc (Below.refl w.heap.size w) (.cells #[.int .u64 (m : Int), .int .u64 (k : Int), .int .i64 mn, .int .i64 mx] 24)))
  have z0 := (blk_cell KC.out 0).trans rfl
  have z1 := (blk_cell KC.out 1).trans rfl
  have z2 := (blk_cell KC.out 2).trans rfl
  have z3 := (blk_cell KC.out 3).trans rfl
  clear hk hb hr hu no
  go_enter Try.func3, Try.ntmps3
  go_wp2_with (first | (go_at_call 9; with_reducible refine (own_calls RB.out hc (by omega)).mono ?_; rintro e w1 ⟨V1, rfl, hv, hb⟩; obtain ⟨A1, c1, rfl, hc1, hC1⟩ := Kd.R_reads hv; have RX := Aside0.mk hC1; clear hv hC1; have n0_ := Aside0.mk (below_step (by repeat (first | (with_reducible first | exact HB.out | apply below_alloc | apply pw_below_drewN | apply below_drew1) | exact HB.out)) hb); have n1_ := Aside0.mk (blk_below KC.out hb); have n2_ := Aside0.mk (Kd.C_below RB.out hb); clear hb z0 z1 z2 z3 HB KC RB; have HB := n0_; have KC := n1_; have RB := n2_; clear n0_ n1_ n2_; have z0 := (blk_cell KC.out 0).trans rfl; have z1 := (blk_cell KC.out 1).trans rfl; have z2 := (blk_cell KC.out 2).trans rfl; have z3 := (blk_cell KC.out 3).trans rfl) | (go_at_call 8; with_reducible refine (awake_calls _).mono ?_; rintro e w9 ⟨rfl, hb⟩; have n0_ := Aside0.mk (below_step (by repeat (first | (with_reducible first | exact HB.out | apply below_alloc | apply pw_below_drewN | apply below_drew1) | exact HB.out)) hb); clear HB hb; have HB := n0_; clear n0_) | (go_at_call 10; with_reducible refine (lengths_no m k mn mx HUM.out HNO.out A1 b.length c1 _).mono ?_; rintro e w2 ⟨rfl, hb⟩; have n0_ := Aside0.mk (below_step (by repeat (first | (with_reducible first | exact HB.out | apply below_alloc | apply pw_below_drewN | apply below_drew1) | exact HB.out)) hb); have n1_ := Aside0.mk (blk_below KC.out hb); have n2_ := Aside0.mk (Kd.C_below RB.out hb); have n3_ := Aside0.mk (Kd.C_below RX.out hb); clear hb z0 z1 z2 z3 HB KC RB RX; have HB := n0_; have KC := n1_; have RB := n2_; have RX := n3_; clear n0_ n1_ n2_ n3_; have z0 := (blk_cell KC.out 0).trans rfl; have z1 := (blk_cell KC.out 1).trans rfl; have z2 := (blk_cell KC.out 2).trans rfl; have z3 := (blk_cell KC.out 3).trans rfl) | (go_at_call 12; with_reducible refine (HRR.out _).mono ?_; rintro e w5 ⟨rfl, hb⟩; have n0_ := Aside0.mk (below_step (by repeat (first | (with_reducible first | exact HB.out | apply below_alloc | apply pw_below_drewN | apply below_drew1) | exact HB.out)) hb); have n1_ := Aside0.mk (blk_below KC.out hb); have n2_ := Aside0.mk (Kd.C_below RB.out hb); have n3_ := Aside0.mk (Kd.C_below RX.out hb); clear hb z0 z1 z2 z3 HB KC RB RX; have HB := n0_; have KC := n1_; have RB := n2_; have RX := n3_; clear n0_ n1_ n2_ n3_; have z0 := (blk_cell KC.out 0).trans rfl; have z1 := (blk_cell KC.out 1).trans rfl; have z2 := (blk_cell KC.out 2).trans rfl; have z3 := (blk_cell KC.out 3).trans rfl))
  obtain ⟨gc, hgc⟩ : ∃ g, g = w.heap.size := ⟨_, rfl⟩
  rw [← hgc] at KC ⊢
  have HGC := Aside0.mk hgc
  clear hgc z0 z1 z2 z3
  refine start_ (n := 12) (S := fun w' => w'.cell? ⟨gc, 0, none⟩ = some (.int .u64 (m : Int)) ∧ w'.cell? ⟨gc, 1, none⟩ = some (.int .u64 (k : Int)) ∧ w'.cell? ⟨gc, 2, none⟩ = some (.int .i64 mn) ∧ w'.cell? ⟨gc, 3, none⟩ = some (.int .i64 mx) ∧ (convert 25 9 (.slice A1 b.length c1)).run Try.prog w' = .ok (.string (strOfNums b)) w' ∧ (convert 25 9 (.slice A b.length c)).run Try.prog w' = .ok (.string (strOfNums b)) w') (ds := []) #[false, false, false, false, false, false, false, false, false, false, false, false] (by kernel_rfl) rfl rfl ⟨(blk_cell (w := w2.drew) KC.out 0).trans rfl, (blk_cell (w := w2.drew) KC.out 1).trans rfl, (blk_cell (w := w2.drew) KC.out 2).trans rfl, (blk_cell (w := w2.drew) KC.out 3).trans rfl, conv_u8 (Kd.C_below RX.out (below_drew1 (Below.refl _ _))), conv_u8 (Kd.C_below RB.out (below_drew1 (Below.refl _ _)))⟩ (fun hHeld => ?_)
  refine take_ (i := 0) (N := some 20) (v := ?_) (a' := ?_) #[true, false, false, false, false, false, false, false, false, false, false, false] rfl rfl (by kernel_rfl) (fun _ _ _ h => h) (Or.inl ⟨by rfl, ?_⟩) hHeld ?_ ?_
  rotate_left
  · rintro w' ⟨s0, s1, s2, s3, s4, s5⟩
    go_simp
    with_reducible rfl
  rotate_left
  · simp only [Act.put, List.setIfInBounds_toArray, List.set_cons_zero, List.set_cons_succ, i64_w, i32_w]
    rfl
  refine take_ (i := 2) (N := some 22) (v := ?_) (a' := ?_) #[true, false, true, false, false, false, false, false, false, false, false, false] rfl rfl (by kernel_rfl) (fun _ _ _ h => h) (Or.inl ⟨by rfl, ?_⟩) hHeld ?_ ?_
  rotate_left
  · rintro w' ⟨s0, s1, s2, s3, s4, s5⟩
    go_simp
    with_reducible rfl
  rotate_left
  · simp only [Act.put, List.setIfInBounds_toArray, List.set_cons_zero, List.set_cons_succ, i64_w, i32_w]
    rfl
  refine one_ (i := 1) (N := some 21) #[true, true, true, false, false, false, false, false, false, false, false, false] rfl rfl (by kernel_rfl) (by decide) (fun K hK => ?_)
  refine goes_ Try.func11 (by kernel_rfl) rfl #[.agg #[.int .u64 (m : Int), .int .u64 (k : Int), .int .i64 mn, .int .i64 mx]] (by rfl) rfl rfl (by simp only [List.map_toArray, List.map_cons, List.map_nil]; rfl) ?_
  with_reducible refine (HR1.out _).mono ?_
  rintro e w3 ⟨rfl, hb⟩
  refine ⟨_, rfl, ?_⟩
  have n0_ := Aside0.mk (below_step (below_drew1 HB.out) hb)
  have n1_ := Aside0.mk (blk_below KC.out (below_step (below_drew1 (Below.refl w2.heap.size w2)) hb))
  have n2_ := Aside0.mk (Kd.C_below RB.out (below_step (below_drew1 (Below.refl w2.heap.size w2)) hb))
  have n3_ := Aside0.mk (Kd.C_below RX.out (below_step (below_drew1 (Below.refl w2.heap.size w2)) hb))
  clear hb HB KC RB RX
  have HB := n0_
  have KC := n1_
  have RB := n2_
  have RX := n3_
  clear n0_ n1_ n2_ n3_
  refine hK.out _ _ ⟨(blk_cell KC.out 0).trans rfl, (blk_cell KC.out 1).trans rfl, (blk_cell KC.out 2).trans rfl, (blk_cell KC.out 3).trans rfl, conv_u8 RX.out, conv_u8 RB.out⟩ (fun hHeld => ?_)
  clear hK K
  refine norm_ (a' := ?_) ?_ ?_
  rotate_left
  · show Act.put _ (some 21) _ = _
    simp only [Act.put, List.setIfInBounds_toArray, List.set_cons_zero, List.set_cons_succ, i64_w, i32_w]
    rfl
  refine one_ (i := 3) (N := some 23) #[true, true, true, true, false, false, false, false, false, false, false, false] rfl rfl (by kernel_rfl) (by decide) (fun K hK => ?_)
  refine goes_ Try.func12 (by kernel_rfl) rfl #[.agg #[.int .u64 (m : Int), .int .u64 (k : Int), .int .i64 mn, .int .i64 mx]] (by rfl) rfl rfl (by simp only [List.map_toArray, List.map_cons, List.map_nil]; rfl) ?_
  with_reducible refine (HRR.out _).mono ?_
  rintro e w4 ⟨rfl, hb⟩
  refine ⟨_, rfl, ?_⟩
  have n0_ := Aside0.mk (below_step HB.out hb)
  have n1_ := Aside0.mk (blk_below KC.out hb)
  have n2_ := Aside0.mk (Kd.C_below RB.out hb)
  have n3_ := Aside0.mk (Kd.C_below RX.out hb)
  clear hb HB KC RB RX
  have HB := n0_
  have KC := n1_
  have RB := n2_
  have RX := n3_
  clear n0_ n1_ n2_ n3_
  refine hK.out _ _ ⟨(blk_cell KC.out 0).trans rfl, (blk_cell KC.out 1).trans rfl, (blk_cell KC.out 2).trans rfl, (blk_cell KC.out 3).trans rfl, conv_u8 RX.out, conv_u8 RB.out⟩ (fun hHeld => ?_)
  clear hK K
  refine norm_ (a' := ?_) ?_ ?_
  rotate_left
  · show Act.put _ (some 23) _ = _
    simp only [Act.put, List.setIfInBounds_toArray, List.set_cons_zero, List.set_cons_succ, i64_w, i32_w]
    rfl
  refine pure_ (i := 4) (N := some 24) (v := ?_) (a' := ?_) #[true, true, true, true, true, false, false, false, false, false, false, false] rfl rfl (by kernel_rfl) (fun _ _ _ h => h) (Or.inl ⟨by rfl, ?_⟩) ?_ ?_
  rotate_left
  · intro w'
    go_simp
    with_reducible rfl
  rotate_left
  · simp only [Act.put, List.setIfInBounds_toArray, List.set_cons_zero, List.set_cons_succ, i64_w, i32_w]
    rfl
  refine pure_ (i := 5) (N := some 25) (v := ?_) (a' := ?_) #[true, true, true, true, true, true, false, false, false, false, false, false] rfl rfl (by kernel_rfl) (fun _ _ _ h => h) (Or.inl ⟨by rfl, ?_⟩) ?_ ?_
  rotate_left
  · intro w'
    go_simp
    with_reducible rfl
  rotate_left
  · simp only [Act.put, List.setIfInBounds_toArray, List.set_cons_zero, List.set_cons_succ, i64_w, i32_w]
    rfl
  refine pure_ (i := 6) (N := some 26) (v := ?_) (a' := ?_) #[true, true, true, true, true, true, true, false, false, false, false, false] rfl rfl (by kernel_rfl) (fun _ _ _ h => h) (Or.inl ⟨by rfl, ?_⟩) ?_ ?_
  rotate_left
  · intro w'
    go_simp
    with_reducible rfl
  rotate_left
  · simp only [Act.put, List.setIfInBounds_toArray, List.set_cons_zero, List.set_cons_succ, i64_w, i32_w]
    rfl
  refine pure_ (i := 8) (N := some 28) (v := ?_) (a' := ?_) #[true, true, true, true, true, true, true, false, true, false, false, false] rfl rfl (by kernel_rfl) (fun _ _ _ h => h) (Or.inl ⟨by rfl, ?_⟩) ?_ ?_
  rotate_left
  · intro w'
    go_simp
    with_reducible rfl
  rotate_left
  · simp only [Act.put, List.setIfInBounds_toArray, List.set_cons_zero, List.set_cons_succ, i64_w, i32_w]
    rfl
  refine join_ (σ := Unit) 2 #[true, true, true, true, true, true, true, true, true, true, false, false] (fun _ => [(27, .string (strOfNums b)), (29, .string (strOfNums b))]) (fun _ w' => w' = w4) ?_ ?_
  rotate_left
  · intro hCont
    refine two_ (i := 7) (j := 9) (Ni := some 27) (Nj := some 29) #[true, true, true, true, true, true, true, true, true, false, false, false] #[true, true, true, true, true, true, true, false, true, true, false, false] rfl rfl rfl rfl (by kernel_rfl) (by decide) (by decide) (fun K hK => ?_) (fun K hK => ?_)
    · skip
      have cv_ := conv_u8 (c := c1) RX.out
      refine value_ (w1 := ?_) (v := ?_) (by rfl) rfl ?_ ?_
      rotate_left 2
      · go_simp
        constructor
        · rfl
        · rfl
      clear cv_
      refine hK.out _ _ ⟨(blk_cell KC.out 0).trans rfl, (blk_cell KC.out 1).trans rfl, (blk_cell KC.out 2).trans rfl, (blk_cell KC.out 3).trans rfl, conv_u8 RX.out, conv_u8 RB.out⟩ (fun hHeld => ?_)
      clear hK K
      refine norm_ (a' := ?_) ?_ ?_
      rotate_left
      · show Act.put _ (some 27) _ = _
        simp only [Act.put, List.setIfInBounds_toArray, List.set_cons_zero, List.set_cons_succ, i64_w, i32_w]
        rfl
      refine one_ (i := 9) (N := some 29) #[true, true, true, true, true, true, true, true, true, true, false, false] rfl rfl (by kernel_rfl) (by decide) (fun K hK => ?_)
      have cv_ := conv_u8 (c := c) RB.out
      refine value_ (w1 := ?_) (v := ?_) (by rfl) rfl ?_ ?_
      rotate_left 2
      · go_simp
        constructor
        · rfl
        · rfl
      clear cv_
      refine hK.out _ _ ⟨(blk_cell KC.out 0).trans rfl, (blk_cell KC.out 1).trans rfl, (blk_cell KC.out 2).trans rfl, (blk_cell KC.out 3).trans rfl, conv_u8 RX.out, conv_u8 RB.out⟩ (fun hHeld => ?_)
      clear hK K
      refine norm_ (a' := ?_) ?_ ?_
      rotate_left
      · show Act.put _ (some 29) _ = _
        simp only [Act.put, List.setIfInBounds_toArray, List.set_cons_zero, List.set_cons_succ, i64_w, i32_w]
        rfl
      exact norm_ (by simp only [putAll, Act.put, List.setIfInBounds_toArray, List.set_cons_zero, List.set_cons_succ]) (hCont () _ rfl)
    · skip
      have cv_ := conv_u8 (c := c) RB.out
      refine value_ (w1 := ?_) (v := ?_) (by rfl) rfl ?_ ?_
      rotate_left 2
      · go_simp
        constructor
        · rfl
        · rfl
      clear cv_
      refine hK.out _ _ ⟨(blk_cell KC.out 0).trans rfl, (blk_cell KC.out 1).trans rfl, (blk_cell KC.out 2).trans rfl, (blk_cell KC.out 3).trans rfl, conv_u8 RX.out, conv_u8 RB.out⟩ (fun hHeld => ?_)
      clear hK K
      refine norm_ (a' := ?_) ?_ ?_
      rotate_left
      · show Act.put _ (some 29) _ = _
        simp only [Act.put, List.setIfInBounds_toArray, List.set_cons_zero, List.set_cons_succ, i64_w, i32_w]
        rfl
      refine one_ (i := 7) (N := some 27) #[true, true, true, true, true, true, true, true, true, true, false, false] rfl rfl (by kernel_rfl) (by decide) (fun K hK => ?_)
      have cv_ := conv_u8 (c := c1) RX.out
      refine value_ (w1 := ?_) (v := ?_) (by rfl) rfl ?_ ?_
      rotate_left 2
      · go_simp
        constructor
        · rfl
        · rfl
      clear cv_
      refine hK.out _ _ ⟨(blk_cell KC.out 0).trans rfl, (blk_cell KC.out 1).trans rfl, (blk_cell KC.out 2).trans rfl, (blk_cell KC.out 3).trans rfl, conv_u8 RX.out, conv_u8 RB.out⟩ (fun hHeld => ?_)
      clear hK K
      refine norm_ (a' := ?_) ?_ ?_
      rotate_left
      · show Act.put _ (some 27) _ = _
        simp only [Act.put, List.setIfInBounds_toArray, List.set_cons_zero, List.set_cons_succ, i64_w, i32_w]
        rfl
      exact norm_ (by simp only [putAll, Act.put, List.setIfInBounds_toArray, List.set_cons_zero, List.set_cons_succ]) (hCont () _ rfl)
  rintro s_ w104 rfl
  have hHeld : w104.cell? ⟨gc, 0, none⟩ = some (.int .u64 (m : Int)) ∧ w104.cell? ⟨gc, 1, none⟩ = some (.int .u64 (k : Int)) ∧ w104.cell? ⟨gc, 2, none⟩ = some (.int .i64 mn) ∧ w104.cell? ⟨gc, 3, none⟩ = some (.int .i64 mx) ∧ (convert 25 9 (.slice A1 b.length c1)).run Try.prog w104 = .ok (.string (strOfNums b)) w104 ∧ (convert 25 9 (.slice A b.length c)).run Try.prog w104 = .ok (.string (strOfNums b)) w104 := ⟨(blk_cell KC.out 0).trans rfl, (blk_cell KC.out 1).trans rfl, (blk_cell KC.out 2).trans rfl, (blk_cell KC.out 3).trans rfl, conv_u8 RX.out, conv_u8 RB.out⟩
  refine norm_ (a' := ?_) ?_ ?_
  rotate_left
  · simp only [putAll, Act.put, List.setIfInBounds_toArray, List.set_cons_zero, List.set_cons_succ]
    rfl
  refine pure_ (i := 10) (N := some 30) (v := ?_) (a' := ?_) #[true, true, true, true, true, true, true, true, true, true, true, false] rfl rfl (by kernel_rfl) (fun _ _ _ h => h) (Or.inl ⟨by rfl, ?_⟩) ?_ ?_
  rotate_left
  · intro w'
    go_simp
    with_reducible rfl
  rotate_left
  · simp only [Act.put, List.setIfInBounds_toArray, List.set_cons_zero, List.set_cons_succ, i64_w, i32_w]
    rfl
  refine pure_ (i := 11) (N := some 31) (v := ?_) (a' := ?_) #[true, true, true, true, true, true, true, true, true, true, true, true] rfl rfl (by kernel_rfl) (fun _ _ _ h => h) (Or.inl ⟨by rfl, ?_⟩) ?_ ?_
  rotate_left
  · intro w'
    go_simp
    with_reducible rfl
  rotate_left
  · simp only [Act.put, List.setIfInBounds_toArray, List.set_cons_zero, List.set_cons_succ, i64_w, i32_w]
    rfl
  refine done_ (by kernel_rfl) ?_
  have z0 := (blk_cell KC.out 0).trans rfl
  have z1 := (blk_cell KC.out 1).trans rfl
  have z2 := (blk_cell KC.out 2).trans rfl
  have z3 := (blk_cell KC.out 3).trans rfl
  go_wp2_with (first | (go_at_call 9; with_reducible refine (own_calls RB.out hc (by omega)).mono ?_; rintro e w1 ⟨V1, rfl, hv, hb⟩; obtain ⟨A1, c1, rfl, hc1, hC1⟩ := Kd.R_reads hv; have RX := Aside0.mk hC1; clear hv hC1; have n0_ := Aside0.mk (below_step (by repeat (first | (with_reducible first | exact HB.out | apply below_alloc | apply pw_below_drewN | apply below_drew1) | exact HB.out)) hb); have n1_ := Aside0.mk (blk_below KC.out hb); have n2_ := Aside0.mk (Kd.C_below RB.out hb); clear hb z0 z1 z2 z3 HB KC RB; have HB := n0_; have KC := n1_; have RB := n2_; clear n0_ n1_ n2_; have z0 := (blk_cell KC.out 0).trans rfl; have z1 := (blk_cell KC.out 1).trans rfl; have z2 := (blk_cell KC.out 2).trans rfl; have z3 := (blk_cell KC.out 3).trans rfl) | (go_at_call 8; with_reducible refine (awake_calls _).mono ?_; rintro e w9 ⟨rfl, hb⟩; have n0_ := Aside0.mk (below_step (by repeat (first | (with_reducible first | exact HB.out | apply below_alloc | apply pw_below_drewN | apply below_drew1) | exact HB.out)) hb); clear HB hb; have HB := n0_; clear n0_) | (go_at_call 10; with_reducible refine (lengths_no m k mn mx HUM.out HNO.out A1 b.length c1 _).mono ?_; rintro e w2 ⟨rfl, hb⟩; have n0_ := Aside0.mk (below_step (by repeat (first | (with_reducible first | exact HB.out | apply below_alloc | apply pw_below_drewN | apply below_drew1) | exact HB.out)) hb); have n1_ := Aside0.mk (blk_below KC.out hb); have n2_ := Aside0.mk (Kd.C_below RB.out hb); have n3_ := Aside0.mk (Kd.C_below RX.out hb); clear hb z0 z1 z2 z3 HB KC RB RX; have HB := n0_; have KC := n1_; have RB := n2_; have RX := n3_; clear n0_ n1_ n2_ n3_; have z0 := (blk_cell KC.out 0).trans rfl; have z1 := (blk_cell KC.out 1).trans rfl; have z2 := (blk_cell KC.out 2).trans rfl; have z3 := (blk_cell KC.out 3).trans rfl) | (go_at_call 12; with_reducible refine (HRR.out _).mono ?_; rintro e w5 ⟨rfl, hb⟩; have n0_ := Aside0.mk (below_step (by repeat (first | (with_reducible first | exact HB.out | apply below_alloc | apply pw_below_drewN | apply below_drew1) | exact HB.out)) hb); have n1_ := Aside0.mk (blk_below KC.out hb); have n2_ := Aside0.mk (Kd.C_below RB.out hb); have n3_ := Aside0.mk (Kd.C_below RX.out hb); clear hb z0 z1 z2 z3 HB KC RB RX; have HB := n0_; have KC := n1_; have RB := n2_; have RX := n3_; clear n0_ n1_ n2_ n3_; have z0 := (blk_cell KC.out 0).trans rfl; have z1 := (blk_cell KC.out 1).trans rfl; have z2 := (blk_cell KC.out 2).trans rfl; have z3 := (blk_cell KC.out 3).trans rfl))
  go_ret
  exact ⟨rfl, HB.out⟩
set_option maxHeartbeats 4000000 in
set_option maxRecDepth 100000 in
theorem cl_many (m k mn mx : Int) (A : Option Addr) (c n : Nat) (w : World) (hl : ¬ n ≤ 600) : Calls Try.prog 3 #[.agg #[.int .u64 m, .int .u64 k, .int .i64 mn, .int .i64 mx], .slice A n c] w fun e w' => e = .returned (.bool true) ∧ Below w.heap.size w w' := by
  have hgt : decide ((600 : Int) < (n : Int)) = true := decide_eq_true (by omega)
  have HB := Aside0.mk (below_alloc (Below.refl w.heap.size w) (.cells #[.int .u64 m, .int .u64 k, .int .i64 mn, .int .i64 mx] 24))
  clear hl
  go_enter Try.func3, Try.ntmps3
  go_wp2_with (go_at_call 8; with_reducible refine (awake_calls _).mono ?_; rintro e w9 ⟨rfl, hb⟩; have HB9 := Aside0.mk (below_step HB.out hb); clear hb)
  go_ret
  exact ⟨rfl, HB9.out⟩
end Go.Proofs.Ytkaabkoadoomjaa.Law
