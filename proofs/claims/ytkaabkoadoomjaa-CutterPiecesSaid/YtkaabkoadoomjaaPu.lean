/- CutterPushes: the walk. -/
import Derived.Test.YtkaabkoadoomjaaSu
namespace Go.Proofs.Ytkaabkoadoomjaa.Law
open Go.RowKit Go.Proofs.Ytkaabkoadoomjaa Go.Proofs.Ytkaabkoadoomjaa.D Go.Proofs.Ytkaabkoadoomjaa.Roll Go.Proofs.YtkaabkoadoomjaaW.PrintWords Go.Proofs.YtkaabkoadoomjaaW.PrintLast Go.Proofs.YtkaabkoadoomjaaW.PrintMore
set_option linter.unusedSimpArgs false
set_option linter.unusedVariables false
theorem lens_head (m k : Nat) (mn mx : Int) : ∀ (l os : List Int) (y : Int), ∃ c t, lens m k mn mx os (y :: l) = c :: t ∧ (os.length : Int) + 1 ≤ c
  | [], os, y => by
    rw [lens]
    by_cases h : ends m k mn mx (os ++ [y]) = true
    · rw [if_pos h]; exact ⟨_, _, rfl, by omega⟩
    · rw [if_neg h, lens, if_neg (by simp)]
      refine ⟨_, _, rfl, ?_⟩
      rw [List.length_append, List.length_singleton]; omega
  | z :: l, os, y => by
    rw [lens]
    by_cases h : ends m k mn mx (os ++ [y]) = true
    · rw [if_pos h]; exact ⟨_, _, rfl, by omega⟩
    · rw [if_neg h]
      obtain ⟨c, t, e, hc⟩ := lens_head m k mn mx l (os ++ [y]) z
      refine ⟨c, t, e, ?_⟩
      rw [List.length_append, List.length_singleton] at hc; omega
theorem bytes_snoc {b : List Int} (hb : Bytes b) : Bytes (b ++ [0]) := fun x hx => by
  rcases List.mem_append.mp hx with h | h
  · exact hb x h
  · rw [List.mem_singleton.mp h]; omega
theorem rd_at {pre t : List Int} {c : Int} : rd (pre ++ c :: t) (pre.length : Int) = c := by
  unfold rd
  rw [Int.toNat_natCast, List.getD_eq_getElem?_getD, List.getElem?_append_right (Nat.le_refl _), Nat.sub_self]; rfl
theorem ne_false {a c : Int} (h : a + 1 ≤ c) : (a == c) = false := beq_eq_false_iff_ne.mpr (by omega)
theorem small_i {n : Nat} (h : n < 1000000) : wrap64 ((n : Int) + 1) = (n : Int) + 1 := w64 (by omega) (by omega)
theorem pre_lt {pre t L : List Int} {c : Int} (h : L = pre ++ c :: t) : ((pre.length : Int) < (L.length : Int)) := by
  rw [h, List.length_append, List.length_cons]; omega
theorem R_away {e B kb rb : Nat} {w : World} {V : Value} {l : List Int} (h : Kd.R (Kd.int .i64) e w B (fun _ => True) V l) (hk : kb < B) (hr : rb < B) : Kd.R (Kd.int .i64) e w B (fun q => q ≠ kb ∧ q ≠ rb) V l :=
  Kd.R_mono (Kd.R_bound h) (fun q hq => ⟨by have := hq.2.1; omega, by have := hq.2.1; omega⟩)
set_option maxHeartbeats 4000000 in
set_option maxRecDepth 100000 in
theorem cp_no (m k : Nat) (mn mx : Int) (hu : U m) (no : ¬ OkC m mn mx) (hk : U k) (A : Option Addr) (c : Nat) (b : List Int) (w : World) (hb : Bytes b) (hr : Kd.C (Kd.int .u8) w A b.length b) (hc : b.length ≤ c) (hl : b.length ≤ 600) :
    Calls Try.prog 7 #[.agg #[.int .u64 (m : Int), .int .u64 (k : Int), .int .i64 mn, .int .i64 mx], .slice A b.length c] w fun e w' => e = .returned (.bool true) ∧ Below w.heap.size w w' := by
  have hgt : decide ((600 : Int) < (b.length : Int)) = false := decide_eq_false (by omega)
  have HRR := Aside0.mk (rright_calls hu (k : Int) mn mx)
  rw [decide_eq_false no] at HRR
  have HU := Aside0.mk hk
  have HBY := Aside0.mk hb
  have HUM := Aside0.mk hu
  have HNO := Aside0.mk no
  have HRD := Aside0.mk hr
  have HB := Aside0.mk (below_alloc (Below.refl w.heap.size w) (.cells #[.int .u64 (m : Int), .int .u64 (k : Int), .int .i64 mn, .int .i64 mx] 24))
  have KC := Aside0.mk (heap_alloc_new w (.cells #[.int .u64 (m : Int), .int .u64 (k : Int), .int .i64 mn, .int .i64 mx] 24))
  have RB := Aside0.mk (Kd.C_below hr (below_alloc (Below.refl w.heap.size w) (.cells #[.int .u64 (m : Int), .int .u64 (k : Int), .int .i64 mn, .int .i64 mx] 24)))
  have z0 := (blk_cell KC.out 0).trans rfl
  have z1 := (blk_cell KC.out 1).trans rfl
  have z2 := (blk_cell KC.out 2).trans rfl
  have z3 := (blk_cell KC.out 3).trans rfl
  clear hk hb hr hu no
  go_enter Try.func7, Try.ntmps7
  go_wp2_with (first | (go_at_call 17; with_reducible refine (cnew_no HUM.out HNO.out _).mono ?_; rintro e w2 ⟨rfl, hb⟩; have n0_ := Aside0.mk (below_step HB.out hb); have n1_ := Aside0.mk (blk_below KC.out hb); have n2_ := Aside0.mk (Kd.C_below RB.out hb); clear hb z0 z1 z2 z3 HB KC RB; have HB := n0_; have KC := n1_; have RB := n2_; clear n0_ n1_ n2_; have z0 := (blk_cell KC.out 0).trans rfl; have z1 := (blk_cell KC.out 1).trans rfl; have z2 := (blk_cell KC.out 2).trans rfl; have z3 := (blk_cell KC.out 3).trans rfl) | (go_at_call 12; with_reducible refine (HRR.out _).mono ?_; rintro e w5 ⟨rfl, hb⟩; have n0_ := Aside0.mk (below_step HB.out hb); have n1_ := Aside0.mk (blk_below KC.out hb); have n2_ := Aside0.mk (Kd.C_below RB.out hb); clear hb z0 z1 z2 z3 HB KC RB; have HB := n0_; have KC := n1_; have RB := n2_; clear n0_ n1_ n2_; have z0 := (blk_cell KC.out 0).trans rfl; have z1 := (blk_cell KC.out 1).trans rfl; have z2 := (blk_cell KC.out 2).trans rfl; have z3 := (blk_cell KC.out 3).trans rfl) | (go_at_call 18; with_reducible refine (cpush_nil 1 _).mono ?_; rintro e w6 ⟨rfl, rfl⟩) | (go_at_call 19; with_reducible refine (copen_nil _).mono ?_; rintro e w7 ⟨rfl, rfl⟩) | (go_at_call 8; with_reducible refine (awake_calls _).mono ?_; rintro e w9 ⟨rfl, hb⟩; have HB9 := Aside0.mk (below_step HB.out hb); clear hb))
  go_ret
  exact ⟨rfl, HB9.out⟩
set_option maxHeartbeats 4000000 in
set_option maxRecDepth 100000 in
theorem cp_ok (m k : Nat) (mn mx : Int) (ok : OkC m mn mx) (hk : U k) (A : Option Addr) (c : Nat) (b : List Int) (w : World) (hb : Bytes b) (hr : Kd.C (Kd.int .u8) w A b.length b) (hc : b.length ≤ c) (hl : b.length ≤ 600) :
    Calls Try.prog 7 #[.agg #[.int .u64 (m : Int), .int .u64 (k : Int), .int .i64 mn, .int .i64 mx], .slice A b.length c] w fun e w' => e = .returned (.bool true) ∧ Below w.heap.size w w' := by
  have hgt : decide ((600 : Int) < (b.length : Int)) = false := decide_eq_false (by omega)
  have HRR := Aside0.mk (rright_calls ok.may.u (k : Int) mn mx)
  rw [decide_eq_true ok] at HRR
  have HU := Aside0.mk hk
  have HBY := Aside0.mk hb
  have HOK := Aside0.mk ok
  have HBLT := Aside0.mk hl
  have HRD := Aside0.mk hr
  have HB := Aside0.mk (below_alloc (Below.refl w.heap.size w) (.cells #[.int .u64 (m : Int), .int .u64 (k : Int), .int .i64 mn, .int .i64 mx] 24))
  have KC := Aside0.mk (heap_alloc_new w (.cells #[.int .u64 (m : Int), .int .u64 (k : Int), .int .i64 mn, .int .i64 mx] 24))
  have RB := Aside0.mk (Kd.C_below hr (below_alloc (Below.refl w.heap.size w) (.cells #[.int .u64 (m : Int), .int .u64 (k : Int), .int .i64 mn, .int .i64 mx] 24)))
  have z0 := (blk_cell KC.out 0).trans rfl
  have z1 := (blk_cell KC.out 1).trans rfl
  have z2 := (blk_cell KC.out 2).trans rfl
  have z3 := (blk_cell KC.out 3).trans rfl
  obtain ⟨bz, hbz⟩ : ∃ l : List Int, l = b ++ [0] := ⟨_, rfl⟩
  have HBZ := Aside0.mk hbz
  have HBZY := Aside0.mk (show Bytes bz from hbz ▸ bytes_snoc hb)
  have HBZL := Aside0.mk (show bz.length ≤ 17592186044415 by rw [hbz, List.length_append, List.length_singleton]; omega)
  have HLO := Aside0.mk (show b.length < 140737488355328 by omega)
  have HLB := Aside0.mk (show b.length ≤ 140737488351232 by omega)
  clear hk hb hr ok hbz
  go_enter Try.func7, Try.ntmps7
  go_wp2_with (first | (go_at_call 17; with_reducible refine (cnew HOK.out _).mono ?_; rintro e w2 ⟨kb, rb, rfl, hs, hkb, hrb, hb⟩; have HS := Aside0.mk hs; have HKB := Aside0.mk (Nat.le_trans HB.out.size hkb); have HRB := Aside0.mk (Nat.le_trans HB.out.size hrb); clear hs hkb hrb; have n0_ := Aside0.mk (below_step HB.out hb); have n1_ := Aside0.mk (blk_below KC.out hb); have n2_ := Aside0.mk (Kd.C_below RB.out hb); clear hb z0 z1 z2 z3 HB KC RB; have HB := n0_; have KC := n1_; have RB := n2_; clear n0_ n1_ n2_; have z0 := (blk_cell KC.out 0).trans rfl; have z1 := (blk_cell KC.out 1).trans rfl; have z2 := (blk_cell KC.out 2).trans rfl; have z3 := (blk_cell KC.out 3).trans rfl) | (go_at_call 12; with_reducible refine (HRR.out _).mono ?_; rintro e w5 ⟨rfl, hb⟩; have n0_ := Aside0.mk (below_step HB.out hb); have n1_ := Aside0.mk (blk_below KC.out hb); have n2_ := Aside0.mk (Kd.C_below RB.out hb); have n3_ := Aside0.mk (HS.out.below hb HS.out.lt.1 HS.out.lt.2); clear hb z0 z1 z2 z3 HB KC RB HS; have HB := n0_; have KC := n1_; have RB := n2_; have HS := n3_; clear n0_ n1_ n2_ n3_; have z0 := (blk_cell KC.out 0).trans rfl; have z1 := (blk_cell KC.out 1).trans rfl; have z2 := (blk_cell KC.out 2).trans rfl; have z3 := (blk_cell KC.out 3).trans rfl))
  obtain ⟨gc, hgc⟩ : ∃ g, g = w.heap.size := ⟨_, rfl⟩
  rw [← hgc] at KC ⊢
  have HGC := Aside0.mk hgc
  clear hgc z0 z1 z2 z3 hl
  refine start_ (n := 7) (S := fun w' => w'.cell? ⟨gc, 0, none⟩ = some (.int .u64 (m : Int)) ∧ w'.cell? ⟨gc, 1, none⟩ = some (.int .u64 (k : Int)) ∧ w'.cell? ⟨gc, 2, none⟩ = some (.int .i64 mn) ∧ w'.cell? ⟨gc, 3, none⟩ = some (.int .i64 mx)) (ds := []) #[false, false, false, false, false, false, false] (by kernel_rfl) rfl rfl ⟨(blk_cell (w := w5.drew) KC.out 0).trans rfl, (blk_cell (w := w5.drew) KC.out 1).trans rfl, (blk_cell (w := w5.drew) KC.out 2).trans rfl, (blk_cell (w := w5.drew) KC.out 3).trans rfl⟩ (fun hHeld => ?_)
  refine pure_ (i := 1) (N := some 51) (v := ?_) (a' := ?_) #[false, true, false, false, false, false, false] rfl rfl (by kernel_rfl) (fun _ _ _ h => h) (Or.inl ⟨by rfl, ?_⟩) ?_ ?_
  rotate_left
  · intro w'
    go_simp
    with_reducible rfl
  rotate_left
  · simp only [Act.put, List.setIfInBounds_toArray, List.set_cons_zero, List.set_cons_succ, i64_w, i32_w]
    rfl
  refine take_ (i := 0) (N := some 50) (v := ?_) (a' := ?_) #[true, true, false, false, false, false, false] rfl rfl (by kernel_rfl) (fun _ _ _ h => h) (Or.inl ⟨by rfl, ?_⟩) hHeld ?_ ?_
  rotate_left
  · rintro w' ⟨s0, s1, s2, s3⟩
    go_simp
    with_reducible rfl
  rotate_left
  · simp only [Act.put, List.setIfInBounds_toArray, List.set_cons_zero, List.set_cons_succ, i64_w, i32_w]
    rfl
  refine join_ (σ := (Option Addr × Nat) × Nat) 3 #[true, true, true, true, false, false, false] (fun s => [(52, .slice s.1.1 b.length s.1.2), (53, .slice (some ⟨s.2, 0, none⟩) 1 1)]) (fun s w' => Kd.R (Kd.int .u8) 5 w' w5.heap.size (fun _ => True) (.slice s.1.1 b.length s.1.2) b ∧ Kd.C (Kd.int .u8) w' (some ⟨s.2, 0, none⟩) 1 [0] ∧ Below w5.heap.size w5 w') ?_ ?_
  rotate_left
  · intro hCont
    refine two_ (i := 2) (j := 3) (Ni := some 52) (Nj := some 53) #[true, true, true, false, false, false, false] #[true, true, false, true, false, false, false] rfl rfl rfl rfl (by kernel_rfl) (by decide) (by decide) (fun K hK => ?_) (fun K hK => ?_)
    · skip
      refine goes_ Try.func9 (by kernel_rfl) rfl #[.slice A b.length c] (by rfl) rfl rfl (by simp only [List.map_toArray, List.map_cons, List.map_nil]; rfl) ?_
      with_reducible refine (own_calls (Kd.C_below RB.out (below_drew1 (Below.refl w5.heap.size w5))) hc HLO.out).mono ?_
      rintro e w1 ⟨V1, rfl, hv, hb⟩
      refine ⟨_, rfl, ?_⟩
      have HBx := Aside0.mk (below_step (below_drew1 (Below.refl w5.heap.size w5)) hb)
      have HBy := Aside0.mk hb
      obtain ⟨A1, c1, rfl⟩ := Kd.R_slice hv
      have R1 := Aside0.mk (hv)
      clear hv hb
      refine hK.out _ _ ⟨(blk_cell (blk_below KC.out HBx.out) 0).trans rfl, (blk_cell (blk_below KC.out HBx.out) 1).trans rfl, (blk_cell (blk_below KC.out HBx.out) 2).trans rfl, (blk_cell (blk_below KC.out HBx.out) 3).trans rfl⟩ (fun hHeld => ?_)
      clear hK K
      refine norm_ (a' := ?_) ?_ ?_
      rotate_left
      · show Act.put _ (some 52) _ = _
        simp only [Act.put, List.setIfInBounds_toArray, List.set_cons_zero, List.set_cons_succ, i64_w, i32_w]
        rfl
      refine one_ (i := 3) (N := some 53) #[true, true, true, true, false, false, false] rfl rfl (by kernel_rfl) (by decide) (fun K hK => ?_)
      refine value_ (w1 := ?_) (v := ?_) (by rfl) rfl ?_ ?_
      rotate_left 2
      · go_simp
        constructor
        · rfl
        · rfl
      refine hK.out _ _ ⟨(blk_cell (blk_below KC.out (below_alloc HBx.out (.cells #[.int .u8 0] 5))) 0).trans rfl, (blk_cell (blk_below KC.out (below_alloc HBx.out (.cells #[.int .u8 0] 5))) 1).trans rfl, (blk_cell (blk_below KC.out (below_alloc HBx.out (.cells #[.int .u8 0] 5))) 2).trans rfl, (blk_cell (blk_below KC.out (below_alloc HBx.out (.cells #[.int .u8 0] 5))) 3).trans rfl⟩ (fun hHeld => ?_)
      clear hK K
      refine norm_ (a' := ?_) ?_ ?_
      rotate_left
      · show Act.put _ (some 53) _ = _
        simp only [Act.put, List.setIfInBounds_toArray, List.set_cons_zero, List.set_cons_succ, i64_w, i32_w]
        rfl
      exact norm_ (by simp only [putAll, Act.put, List.setIfInBounds_toArray, List.set_cons_zero, List.set_cons_succ]) (hCont ((A1, c1), w1.heap.size) _ ⟨Kd.R_alloc R1.out _, lit8_C w1 [0] 5 (by decide), below_alloc HBx.out _⟩)
    · skip
      refine value_ (w1 := ?_) (v := ?_) (by rfl) rfl ?_ ?_
      rotate_left 2
      · go_simp
        constructor
        · rfl
        · rfl
      refine hK.out _ _ ⟨(blk_cell (blk_below KC.out (below_alloc (below_drew1 (Below.refl _ _)) (.cells #[.int .u8 0] 5))) 0).trans rfl, (blk_cell (blk_below KC.out (below_alloc (below_drew1 (Below.refl _ _)) (.cells #[.int .u8 0] 5))) 1).trans rfl, (blk_cell (blk_below KC.out (below_alloc (below_drew1 (Below.refl _ _)) (.cells #[.int .u8 0] 5))) 2).trans rfl, (blk_cell (blk_below KC.out (below_alloc (below_drew1 (Below.refl _ _)) (.cells #[.int .u8 0] 5))) 3).trans rfl⟩ (fun hHeld => ?_)
      clear hK K
      refine norm_ (a' := ?_) ?_ ?_
      rotate_left
      · show Act.put _ (some 53) _ = _
        simp only [Act.put, List.setIfInBounds_toArray, List.set_cons_zero, List.set_cons_succ, i64_w, i32_w]
        rfl
      refine one_ (i := 2) (N := some 52) #[true, true, true, true, false, false, false] rfl rfl (by kernel_rfl) (by decide) (fun K hK => ?_)
      refine goes_ Try.func9 (by kernel_rfl) rfl #[.slice A b.length c] (by rfl) rfl rfl (by simp only [List.map_toArray, List.map_cons, List.map_nil]; rfl) ?_
      with_reducible refine (own_calls (Kd.C_below RB.out (below_drew1 (below_alloc (Below.refl w5.heap.size w5) (.cells #[.int .u8 0] 5)))) hc HLO.out).mono ?_
      rintro e w1 ⟨V1, rfl, hv, hb⟩
      refine ⟨_, rfl, ?_⟩
      have HBx := Aside0.mk (below_step (below_drew1 (below_alloc (Below.refl w5.heap.size w5) (.cells #[.int .u8 0] 5))) hb)
      have HBy := Aside0.mk hb
      obtain ⟨A1, c1, rfl⟩ := Kd.R_slice hv
      have R1 := Aside0.mk ((Kd.R_lower hv (by show w5.heap.size ≤ (w5.alloc (.cells #[.int .u8 0] 5)).heap.size; rw [World.size_alloc]; exact Nat.le_succ _)))
      clear hv hb
      refine hK.out _ _ ⟨(blk_cell (blk_below KC.out HBx.out) 0).trans rfl, (blk_cell (blk_below KC.out HBx.out) 1).trans rfl, (blk_cell (blk_below KC.out HBx.out) 2).trans rfl, (blk_cell (blk_below KC.out HBx.out) 3).trans rfl⟩ (fun hHeld => ?_)
      clear hK K
      refine norm_ (a' := ?_) ?_ ?_
      rotate_left
      · show Act.put _ (some 52) _ = _
        simp only [Act.put, List.setIfInBounds_toArray, List.set_cons_zero, List.set_cons_succ, i64_w, i32_w]
        rfl
      exact norm_ (by simp only [putAll, Act.put, List.setIfInBounds_toArray, List.set_cons_zero, List.set_cons_succ]) (hCont ((A1, c1), w5.heap.size) _ ⟨R1.out, Kd.C_below (Kd.C_drew (lit8_C w5 [0] 5 (by decide))) HBy.out, HBx.out⟩)
  rintro ⟨⟨A1, c1⟩, g3⟩ w104 ⟨hv, hC, hb⟩
  have R1 := Aside0.mk hv
  have RC := Aside0.mk hC
  have HBx := Aside0.mk hb
  clear hv hC hb
  have hHeld : w104.cell? ⟨gc, 0, none⟩ = some (.int .u64 (m : Int)) ∧ w104.cell? ⟨gc, 1, none⟩ = some (.int .u64 (k : Int)) ∧ w104.cell? ⟨gc, 2, none⟩ = some (.int .i64 mn) ∧ w104.cell? ⟨gc, 3, none⟩ = some (.int .i64 mx) := ⟨(blk_cell (blk_below KC.out HBx.out) 0).trans rfl, (blk_cell (blk_below KC.out HBx.out) 1).trans rfl, (blk_cell (blk_below KC.out HBx.out) 2).trans rfl, (blk_cell (blk_below KC.out HBx.out) 3).trans rfl⟩
  refine norm_ (a' := ?_) ?_ ?_
  rotate_left
  · simp only [putAll, Act.put, List.setIfInBounds_toArray, List.set_cons_zero, List.set_cons_succ]
    rfl
  refine one_ (i := 4) (N := some 54) #[true, true, true, true, true, false, false] rfl rfl (by kernel_rfl) (by decide) (fun K hK => ?_)
  refine Kd.R_append_rows_step (Kd.int .u8) (w0 := w5) (W := w104) w5.heap.size (by rfl) (.tmp 52) (.tmp 53) 25 5 (.int .u8 0) 1 rfl Try.underlying25 info5 rfl (by decide) (by omega) _ b [0] _ 1 1 (fun _ => True) (fun _ => False) rfl rfl R1.out RC.out (fun _ _ h => h) (fun _ hk => hk.elim) (fun _ _ => trivial) HBx.out HBx.out.size (by have := HBLT.out; omega) ?_
  intro v105 w105 ho hb hg hat
  rw [← HBZ.out] at ho
  obtain ⟨A2, c2, rfl, hc2, hC2⟩ := Kd.R_reads ho
  have R2 := Aside0.mk hC2
  clear HBx R1 RC ho hg hat hC2
  have HBx := Aside0.mk hb
  clear hb
  refine hK.out _ _ ⟨(blk_cell (blk_below KC.out HBx.out) 0).trans rfl, (blk_cell (blk_below KC.out HBx.out) 1).trans rfl, (blk_cell (blk_below KC.out HBx.out) 2).trans rfl, (blk_cell (blk_below KC.out HBx.out) 3).trans rfl⟩ (fun hHeld => ?_)
  clear hK K
  refine norm_ (a' := ?_) ?_ ?_
  rotate_left
  · show Act.put _ (some 54) _ = _
    simp only [Act.put, List.setIfInBounds_toArray, List.set_cons_zero, List.set_cons_succ, i64_w, i32_w]
    rfl
  refine one_ (i := 5) (N := some 55) #[true, true, true, true, true, true, false] rfl rfl (by kernel_rfl) (by decide) (fun K hK => ?_)
  refine goes_ Try.func14 (by kernel_rfl) rfl #[.agg #[.int .u64 (m : Int), .int .u64 (k : Int), .int .i64 mn, .int .i64 mx], .slice A2 bz.length c2] (by rfl) rfl rfl (by simp only [List.map_toArray, List.map_cons, List.map_nil]; rfl) ?_
  with_reducible refine (rlengths_calls HOK.out HU.out HBZY.out R2.out hc2 HBZL.out).mono ?_
  rintro e w6 ⟨V6, rfl, hv, hb⟩
  refine ⟨_, rfl, ?_⟩
  obtain ⟨A6, c6, rfl⟩ := Kd.R_slice hv
  have RL := Aside0.mk (R_away hv (Nat.lt_of_lt_of_le HS.out.lt.1 HBx.out.size) (Nat.lt_of_lt_of_le HS.out.lt.2 HBx.out.size))
  have n0_ := Aside0.mk (below_step HBx.out hb)
  clear HBx hv hb
  have HBx := n0_
  clear n0_
  refine hK.out _ _ ⟨(blk_cell (blk_below KC.out HBx.out) 0).trans rfl, (blk_cell (blk_below KC.out HBx.out) 1).trans rfl, (blk_cell (blk_below KC.out HBx.out) 2).trans rfl, (blk_cell (blk_below KC.out HBx.out) 3).trans rfl⟩ (fun hHeld => ?_)
  clear hK K
  refine norm_ (a' := ?_) ?_ ?_
  rotate_left
  · show Act.put _ (some 55) _ = _
    simp only [Act.put, List.setIfInBounds_toArray, List.set_cons_zero, List.set_cons_succ, i64_w, i32_w]
    rfl
  refine pure_ (i := 6) (N := some 7) (v := ?_) (a' := ?_) #[true, true, true, true, true, true, true] rfl rfl (by kernel_rfl) (fun _ _ _ h => h) (Or.inl ⟨by rfl, ?_⟩) ?_ ?_
  rotate_left
  · intro w'
    go_simp
    with_reducible rfl
  rotate_left
  · simp only [Act.put, List.setIfInBounds_toArray, List.set_cons_zero, List.set_cons_succ, i64_w, i32_w]
    rfl
  refine done_ (by kernel_rfl) ?_
  have n0_ := Aside0.mk (below_step HB.out HBx.out)
  have n1_ := Aside0.mk (HS.out.below HBx.out HS.out.lt.1 HS.out.lt.2)
  have n2_ := Aside0.mk (Kd.C_below RB.out HBx.out)
  clear HB HS RB KC HBx R2
  have HB := n0_
  have HS := n1_
  have RB := n2_
  clear n0_ n1_ n2_
  generalize hLL : lens m k mn mx [] bz = L at *
  have HLL := Aside0.mk hLL
  clear hLL
  go_wp2
  go_loopw [8, 9, 58] (fun v8 v9 v58 wr => ∃ (i : Nat) (os pre : List Int), i ≤ b.length ∧ v8 = .int .i64 pre.length ∧ v9 = .int .i64 os.length ∧ v58 = .int .i64 i ∧ Aside0 ((os.length : Int) < mx) ∧ Aside0 (pre.length ≤ i) ∧ Aside0 (CutS wr kb rb m k mn mx (pushed zeroWin (nat os)) os.length) ∧ Aside0 (L = pre ++ lens m k mn mx os (b.drop i ++ [0])) ∧ Aside0 (Below w.heap.size w wr) ∧ Aside0 (Kd.C (Kd.int .u8) wr A b.length b) ∧ Aside0 (Kd.R (Kd.int .i64) 3 wr w105.heap.size (fun q => q ≠ kb ∧ q ≠ rb) (.slice A6 L.length c6) L)) (fun _ _ v58 _ => b.length - (intOf v58).toNat)
  case atStart =>
    refine ⟨0, [], [], Nat.zero_le _, rfl, rfl, rfl, ⟨?_⟩, ⟨Nat.le_refl _⟩, HS, ⟨by rw [← HLL.out, HBZ.out, List.drop_zero]; rfl⟩, HB, RB, RL⟩
    have := HOK.out.lo; have := HOK.out.mid
    show (0 : Int) < mx
    omega
  case round =>
    obtain ⟨i, os, pre, hi, rfl, rfl, rfl, HMX, HPI, HSr, HL, HBr, RBr, RLr⟩ := hrel
    clear HS HB RB RL
    have HS := HSr
    have HB := HBr
    have RB := RBr
    have RL := RLr
    clear HSr HBr RBr RLr
    by_cases hlt : i < b.length
    · have hltb : decide ((i : Int) < (b.length : Int)) = true := decide_eq_true (lt_lt hlt)
      have hby := HBY.out _ (rd_in hlt)
      have hst := HL.out
      rw [drop_rd hlt, List.cons_append, lens] at hst
      obtain ⟨ad, rfl, hx0⟩ := Kd.at_int RB.out (i : Int) (Int.natCast_nonneg _) (lt_lt hlt)
      rw [Int.toNat_natCast] at hx0
      have HAD := Aside0.mk (show ad.block < w.heap.size by
        obtain ⟨ad', e', hx1⟩ := Kd.at_int HRD.out (i : Int) (Int.natCast_nonneg _) (lt_lt hlt)
        cases e'
        have := World.block_lt_of_cell? w _ hx1
        have hbl : (ad.add (i : Int).toNat).block = ad.block := by unfold Addr.add; split <;> rfl
        rwa [hbl] at this)
      have p1 : (0 ≤ (i : Int)) = True := eq_true (Int.natCast_nonneg _)
      have p2 : ((i : Int) < (b.length : Int)) = True := eq_true (lt_lt hlt)
      generalize rd b (i : Int) = xi at *
      obtain ⟨x, rfl⟩ : ∃ n : Nat, xi = (n : Int) := ⟨xi.toNat, by omega⟩
      have HX := Aside0.mk (show x < 256 by omega)
      obtain ⟨X, hX⟩ : ∃ X, fp m (pushed zeroWin (nat (os ++ [(x : Int)]))) = X := ⟨_, rfl⟩
      have hX2 := hX
      rw [pushed_one] at hX2
      have HX2 := Aside0.mk hX2
      have hn : os.length < 1000000 := by have := HMX.out; have := HOK.out.hi; omega
      have HN := Aside0.mk hn
      have hel : ends m k mn mx (os ++ [(x : Int)]) = endsAt k mn mx (os.length + 1) X := by unfold ends; rw [hX, List.length_append]; rfl
      rw [hel] at hst
      have hpn : pre.length < 1000000 := by have := HPI.out; have := HBLT.out; omega
      have hC6 := (Kd.R_reads' RL.out).2.2
      cases hE : endsAt k mn mx (os.length + 1) X with
      | false =>
        have HE := Aside0.mk hE
        rw [hE, if_neg (by decide)] at hst
        obtain ⟨y, l', hyl⟩ : ∃ y l', b.drop (i + 1) ++ [0] = y :: l' := by
          cases b.drop (i + 1) with
          | nil => exact ⟨0, [], rfl⟩
          | cons y l' => exact ⟨y, l' ++ [0], rfl⟩
        obtain ⟨cc, tt, hct, hcl⟩ := lens_head m k mn mx l' (os ++ [(x : Int)]) y
        have hst2 := hst
        rw [hyl, hct] at hst2
        obtain ⟨ae, rfl, hy0⟩ := Kd.at_int hC6 (pre.length : Int) (Int.natCast_nonneg _) (pre_lt hst2)
        rw [Int.toNat_natCast, show rd L (pre.length : Int) = cc by rw [hst2]; exact rd_at] at hy0
        have p3 : (0 ≤ (pre.length : Int)) = True := eq_true (Int.natCast_nonneg _)
        have p4 : ((pre.length : Int) < (L.length : Int)) = True := eq_true (pre_lt hst2)
        have hcb : ((os.length : Int) + 1 == cc) = false := ne_false (by rw [List.length_append, List.length_singleton] at hcl; omega)
        have HMX2 := Aside0.mk (show (((os ++ [(x : Int)]).length : Nat) : Int) < mx by
          have h1 := HMX.out
          have h2 : ¬ ((os.length + 1 : Nat) : Int) = mx := fun h => by unfold endsAt at hE; rw [decide_eq_true h] at hE; cases hE
          rw [List.length_append, List.length_singleton]; omega)
        have HL2 := Aside0.mk hst
        have HPI2 := Aside0.mk (Nat.le_succ_of_le HPI.out)
        have hwi := wi hlt HLB.out
        have hw1 := small_i hn
        have hw2 := small_i hpn
        have HLT := Aside0.mk hlt
        clear hpn hst hst2 hE hby hX hX2 hel HL hyl hct hcl hn hi hC6 hc hlt hgt
        go_wp2_with (first | (go_at_call 18; with_reducible refine (cpush X HS.out HOK.out.may HU.out HN.out HX.out HX2.out).mono ?_; rw [HE.out]; rintro e w2 ⟨rfl, hs_, ho_⟩; rw [if_neg (by decide)] at hs_; have n0_ := Aside0.mk hs_; have n1_ := Aside0.mk (HB.out.trans (ho_.below HKB.out HRB.out)); have n3_ := Aside0.mk (C_block RB.out (fun ad' e' => by cases e'; exact ho_.block _ (by have := HAD.out; have := HKB.out; omega) (by have := HAD.out; have := HRB.out; omega))); have n4_ := Aside0.mk (Kd.R_step RL.out (fun q hq _ => ho_.block q hq.1 hq.2)); clear HS HB RB RL hs_ ho_; have HS := n0_; have HB := n1_; have RB := n3_; have RL := n4_; clear n0_ n1_ n3_ n4_) | (go_at_call 19; with_reducible refine (copen HS.out).mono ?_; rintro e w7 ⟨rfl, rfl⟩))
        (try simp only [hwi])
        go_roundw
        case rel =>
          refine ⟨i + 1, os ++ [(x : Int)], pre, HLT.out, rfl, by rw [List.length_append, List.length_singleton]; go_num, by go_num, HMX2, HPI2, ⟨?_⟩, HL2, HB, RB, RL⟩
          have := HS.out
          rw [pushed_one, List.length_append, List.length_singleton]
          exact this
        case measure => simp [intOf]; exact left_less HLT.out
      | true =>
        have HE := Aside0.mk hE
        rw [hE, if_pos rfl] at hst
        obtain ⟨ae, rfl, hy0⟩ := Kd.at_int hC6 (pre.length : Int) (Int.natCast_nonneg _) (pre_lt hst)
        rw [Int.toNat_natCast, show rd L (pre.length : Int) = ((os.length + 1 : Nat) : Int) by rw [hst]; exact rd_at] at hy0
        have p3 : (0 ≤ (pre.length : Int)) = True := eq_true (Int.natCast_nonneg _)
        have p4 : ((pre.length : Int) < (L.length : Int)) = True := eq_true (pre_lt hst)
        have HL2 := Aside0.mk (show L = (pre ++ [((os.length + 1 : Nat) : Int)]) ++ lens m k mn mx [] (b.drop (i + 1) ++ [0]) by rw [List.append_assoc, List.singleton_append]; exact hst)
        have HPI2 := Aside0.mk (Nat.succ_le_succ HPI.out)
        rw [show ((os.length + 1 : Nat) : Int) = (os.length : Int) + 1 by omega] at hy0
        have hwi := wi hlt HLB.out
        have hw1 := small_i hn
        have hw2 := small_i hpn
        have HLT := Aside0.mk hlt
        clear hpn hst hE hby hX hX2 hel HL hn hi hC6 hc hlt hgt
        go_wp2_with (first | (go_at_call 18; with_reducible refine (cpush X HS.out HOK.out.may HU.out HN.out HX.out HX2.out).mono ?_; rw [HE.out]; rintro e w2 ⟨rfl, hs_, ho_⟩; rw [if_pos rfl] at hs_; have n0_ := Aside0.mk hs_; have n1_ := Aside0.mk (HB.out.trans (ho_.below HKB.out HRB.out)); have n3_ := Aside0.mk (C_block RB.out (fun ad' e' => by cases e'; exact ho_.block _ (by have := HAD.out; have := HKB.out; omega) (by have := HAD.out; have := HRB.out; omega))); have n4_ := Aside0.mk (Kd.R_step RL.out (fun q hq _ => ho_.block q hq.1 hq.2)); clear HS HB RB RL hs_ ho_; have HS := n0_; have HB := n1_; have RB := n3_; have RL := n4_; clear n0_ n1_ n3_ n4_) | (go_at_call 19; with_reducible refine (copen HS.out).mono ?_; rintro e w7 ⟨rfl, rfl⟩))
        (try simp only [hwi])
        go_roundw
        case rel =>
          refine ⟨i + 1, [], pre ++ [((os.length + 1 : Nat) : Int)], HLT.out, by rw [List.length_append, List.length_singleton]; go_num, by go_num, by go_num, ⟨?_⟩, ⟨by rw [List.length_append, List.length_singleton]; exact HPI2.out⟩, HS, HL2, HB, RB, RL⟩
          have := HOK.out.lo; have := HOK.out.mid
          show (0 : Int) < mx
          omega
        case measure => simp [intOf]; exact left_less HLT.out
    · obtain rfl : i = b.length := Nat.le_antisymm hi (Nat.le_of_not_lt hlt)
      have hltb : decide ((b.length : Int) < (b.length : Int)) = false := decide_eq_false (Int.lt_irrefl _)
      go_wp2_with (go_at_call 8; with_reducible refine (awake_calls _).mono ?_; rintro e w9 ⟨rfl, hb⟩; have HB9 := Aside0.mk (below_step HB.out hb); clear hb)
      go_ret
      exact ⟨rfl, HB9.out⟩
set_option maxHeartbeats 4000000 in
set_option maxRecDepth 100000 in
theorem cp_many (m k mn mx : Int) (A : Option Addr) (c n : Nat) (w : World) (hl : ¬ n ≤ 600) : Calls Try.prog 7 #[.agg #[.int .u64 m, .int .u64 k, .int .i64 mn, .int .i64 mx], .slice A n c] w fun e w' => e = .returned (.bool true) ∧ Below w.heap.size w w' := by
  have hgt : decide ((600 : Int) < (n : Int)) = true := decide_eq_true (by omega)
  have HB := Aside0.mk (below_alloc (Below.refl w.heap.size w) (.cells #[.int .u64 m, .int .u64 k, .int .i64 mn, .int .i64 mx] 24))
  clear hl
  go_enter Try.func7, Try.ntmps7
  go_wp2_with (go_at_call 8; with_reducible refine (awake_calls _).mono ?_; rintro e w9 ⟨rfl, hb⟩; have HB9 := Aside0.mk (below_step HB.out hb); clear hb)
  go_ret
  exact ⟨rfl, HB9.out⟩
theorem pushes_walk (p k mn mx : Int) (a2 : Option Addr) (len2 cap2 : Nat) (z2 : List Int) (w : World) (wc : WfC p k mn mx) (w2 : IsRow .u8 w a2 len2 cap2 z2) (_ : len2 * 1 ≤ 140737488351232) :
    Calls Try.prog 7 #[.agg #[.int .u64 p, .int .u64 k, .int .i64 mn, .int .i64 mx], .slice a2 len2 cap2] w fun e w' => e = .returned (.bool true) ∧ Below w.heap.size w w' := by
  obtain ⟨l, rfl, hr, hb, hc⟩ := w2.opened
  obtain ⟨m, rfl, hu⟩ := of_wf wc.1
  obtain ⟨q, rfl, hk⟩ := of_wf wc.2.1
  by_cases hl : l.length ≤ 600
  · by_cases ok : OkC m mn mx
    · exact cp_ok m q mn mx ok hk a2 cap2 l w hb hr hc hl
    · exact cp_no m q mn mx hu ok hk a2 cap2 l w hb hr hc hl
  · exact cp_many _ _ mn mx a2 cap2 l.length w hl
end Go.Proofs.Ytkaabkoadoomjaa.Law
