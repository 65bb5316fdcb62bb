/- The walks of Fixed: the program's and the document's. -/
import Derived.Test.YteonbbfegnjjeaaScanC
namespace Go.Proofs.Yteonbbfegnjjeaa.Law
open Go.RowKit Go.Proofs.Yteonbbfegnjjeaa Go.Proofs.YteonbbfegnjjeaaW.PrintWords Go.Proofs.YteonbbfegnjjeaaW.PrintLast Go.Proofs.YteonbbfegnjjeaaW.PrintMore Go.Proofs.Yteonbbfegnjjeaa.D
set_option linter.unusedSimpArgs false
theorem R_set_low {α : Type} {d : Kd α} {e base : Nat} {w : World} {v : Value} {xs : List α} (h : d.R e w base (fun _ => True) v xs) {p : Addr} (hp : p.block < base) (u : Value) : d.R e (w.setCell p u) base (fun _ => True) v xs :=
  Kd.R_mono (Kd.R_far (Kd.R_bound h) (fun k hk => by have := hk.2.1; omega) u) (fun _ _ => trivial)
set_option maxHeartbeats 1000000 in
set_option maxRecDepth 100000 in
theorem fix_1 (ad : Addr) (c : Nat) (l lt : List Int) (k : Nat) (w : World) (hk0 : 1 ≤ k) (hk : k ≤ l.length) (hlt : lt.length = k) (hm : l.length < 140737488355328) (hlc : l.length ≤ c) (hck : ¬ c = k) (hr : Kd.C (Kd.int .u8) w (some ad) lt.length lt) :
    Calls Try.prog 28 #[.agg #[.slice (some ad) l.length c, .int .i64 0], .int .i64 (k : Int)] w fun x w' => ∃ V, x = .returned (.tuple #[V, .agg #[.slice (some (ad.add k)) (l.length - k) (c - k), .int .i64 0]]) ∧ Kd.R (Kd.int .u8) 5 w' w.heap.size (fun _ => True) V lt ∧ Below w.heap.size w w' := by
  have b1 : decide ((k : Int) < 1) = false := decide_eq_false (by omega)
  have b2 : decide ((k : Int) > (l.length : Int)) = false := decide_eq_false (by omega)
  have hkc : (k : Int) ≤ (c : Int) := by omega
  have hkl : (k : Int) ≤ (l.length : Int) := by omega
  have hBL := below_alloc (below_alloc (Below.refl w.heap.size w) (.cells #[.slice (some ad) l.length c, .int .i64 0] 30)) (.cells #[.slice none 0 0, .int .i64 0] 30)
  have HRt := Aside0.mk (Kd.C_below hr hBL)
  have HBL := Aside0.mk hBL
  have HLM := Aside0.mk (show 0 + k < 140737488355328 by omega)
  have K1 := Aside0.mk (heap_alloc2_old w (.cells #[.slice (some ad) l.length c, .int .i64 0] 30) (.cells #[.slice none 0 0, .int .i64 0] 30))
  have K2 := Aside0.mk (heap_alloc2_new w (.cells #[.slice (some ad) l.length c, .int .i64 0] 30) (.cells #[.slice none 0 0, .int .i64 0] 30))
  clear hr hBL hm
  rw [hlt] at HRt
  go_enter Try.func28, Try.ntmps28
  go_wp2
  have z0_ := (blk_cell K1.out 0).trans rfl
  have z1_ := (blk_cell K1.out 1).trans rfl
  have z2_ := (blk_cell K2.out 0).trans rfl
  have z3_ := (blk_cell K2.out 1).trans rfl
  have f0_ := blk_frozen K2.out 0
  have f1_ := blk_frozen K2.out 1
  generalize (w.alloc (.cells #[.slice (some ad) l.length c, .int .i64 0] 30)).alloc (.cells #[.slice none 0 0, .int .i64 0] 30) = wq at *
  have HB := Aside0.mk (below_drew (Below.refl wq.heap.size wq))
  refine start_ (n := 13) (S := fun w' => w'.cell? ⟨w.heap.size, 0, none⟩ = some (.slice (some ad) l.length c)) (ds := [12]) #[false, false, false, false, false, false, false, false, false, false, false, false, false] (by kernel_rfl) rfl rfl (z0_) (fun hHeld => ?_)
  refine pure_ (i := 1) (N := some 22) (v := ?_) (a' := ?_) #[false, true, false, false, false, false, false, false, false, false, false, false, false] rfl rfl (by kernel_rfl) (fun _ _ _ h => h) (Or.inl ⟨by rfl, ?_⟩) ?_ ?_
  rotate_left
  · intro w'
    go_simp
    with_reducible rfl
  rotate_left
  · simp only [Act.put, List.setIfInBounds_toArray, List.set_cons_zero, List.set_cons_succ, i64_w, i32_w]
    rfl
  refine pure_ (i := 3) (N := some 24) (v := ?_) (a' := ?_) #[false, true, false, true, false, false, false, false, false, false, false, false, false] rfl rfl (by kernel_rfl) (fun _ _ _ h => h) (Or.inl ⟨by rfl, ?_⟩) ?_ ?_
  rotate_left
  · intro w'
    go_simp
    with_reducible rfl
  rotate_left
  · simp only [Act.put, List.setIfInBounds_toArray, List.set_cons_zero, List.set_cons_succ, i64_w, i32_w]
    rfl
  refine pure_ (i := 6) (N := some 27) (v := ?_) (a' := ?_) #[false, true, false, true, false, false, true, false, false, false, false, false, false] rfl rfl (by kernel_rfl) (fun _ _ _ h => h) (Or.inl ⟨by rfl, ?_⟩) ?_ ?_
  rotate_left
  · intro w'
    go_simp
    with_reducible rfl
  rotate_left
  · simp only [Act.put, List.setIfInBounds_toArray, List.set_cons_zero, List.set_cons_succ, i64_w, i32_w]
    rfl
  refine pure_ (i := 8) (N := some 29) (v := ?_) (a' := ?_) #[false, true, false, true, false, false, true, false, true, false, false, false, false] rfl rfl (by kernel_rfl) (fun _ _ _ h => h) (Or.inl ⟨by rfl, ?_⟩) ?_ ?_
  rotate_left
  · intro w'
    go_simp
    with_reducible rfl
  rotate_left
  · simp only [Act.put, List.setIfInBounds_toArray, List.set_cons_zero, List.set_cons_succ, i64_w, i32_w]
    rfl
  refine take_ (i := 2) (N := some 23) (v := ?_) (a' := ?_) #[false, true, true, true, false, false, true, false, true, false, false, false, false] rfl rfl (by kernel_rfl) (fun _ _ _ h => h) (Or.inl ⟨by rfl, ?_⟩) hHeld ?_ ?_
  rotate_left
  · intro w' s0
    go_simp
    with_reducible rfl
  rotate_left
  · simp only [Act.put, List.setIfInBounds_toArray, List.set_cons_zero, List.set_cons_succ, i64_w, i32_w]
    rfl
  refine pure_ (i := 4) (N := some 25) (v := ?_) (a' := ?_) #[false, true, true, true, true, false, true, false, true, false, false, false, false] rfl rfl (by kernel_rfl) (fun _ _ _ h => h) (Or.inl ⟨by rfl, ?_⟩) ?_ ?_
  rotate_left
  · intro w'
    go_simp
    with_reducible rfl
  rotate_left
  · simp only [Act.put, List.setIfInBounds_toArray, List.set_cons_zero, List.set_cons_succ, i64_w, i32_w]
    rfl
  refine take_ (i := 7) (N := some 28) (v := ?_) (a' := ?_) #[false, true, true, true, true, false, true, true, true, false, false, false, false] rfl rfl (by kernel_rfl) (fun _ _ _ h => h) (Or.inl ⟨by rfl, ?_⟩) hHeld ?_ ?_
  rotate_left
  · intro w' s0
    go_simp
    with_reducible rfl
  rotate_left
  · simp only [Act.put, List.setIfInBounds_toArray, List.set_cons_zero, List.set_cons_succ, i64_w, i32_w]
    rfl
  refine pure_ (i := 9) (N := some 30) (v := ?_) (a' := ?_) #[false, true, true, true, true, false, true, true, true, true, false, false, false] rfl rfl (by kernel_rfl) (fun _ _ _ h => h) (Or.inl ⟨by rfl, ?_⟩) ?_ ?_
  rotate_left
  · intro w'
    go_simp
    with_reducible rfl
  rotate_left
  · simp only [Act.put, List.setIfInBounds_toArray, List.set_cons_zero, List.set_cons_succ, i64_w, i32_w]
    rfl
  refine pure_ (i := 10) (N := some 31) (v := ?_) (a' := ?_) #[false, true, true, true, true, false, true, true, true, true, true, false, false] rfl rfl (by kernel_rfl) (fun _ _ _ h => h) (Or.inl ⟨by rfl, ?_⟩) ?_ ?_
  rotate_left
  · intro w'
    go_simp
    with_reducible rfl
  rotate_left
  · simp only [Act.put, List.setIfInBounds_toArray, List.set_cons_zero, List.set_cons_succ, i64_w, i32_w]
    rfl
  refine one_ (i := 0) (N := some 21) #[true, true, true, true, true, false, true, true, true, true, true, false, false] rfl rfl (by kernel_rfl) (by decide) (fun K hK => ?_)
  refine Kd.R_lit_step (Kd.int .u8) _ 5 (by rfl) (N := 21) rfl (xs := ([] : List Int)) (inner := []) (ok := fun _ => True) (okp := fun _ => True) ?hr ?hp (fun _ hk => hk) trivial (Below.refl _ _) (Nat.le_refl _) (by simp) ?_
  case hr => first | (go_simp; done) | (go_simp; rfl)
  case hp => exact (Reps.none _ _)
  intro vHO1 wHO1 ho hb hg_ hnew_
  have n0_ := Aside0.mk (Kd.R_lower ho (below_size (by repeat (first | (with_reducible first | exact HB.out | apply below_alloc | apply pw_below_drewN | apply below_drew1) | exact HB.out))))
  have n1_ := Aside0.mk (below_step (by repeat (first | (with_reducible first | exact HB.out | apply below_alloc | apply pw_below_drewN | apply below_drew1) | exact HB.out)) hb)
  clear HB hb ho hg_ hnew_
  have HO1 := n0_
  have HB := n1_
  clear n0_ n1_
  have z0_HO1 := (blk_cell (blk_below K1.out HB.out) 0).trans rfl
  have z1_HO1 := (blk_cell (blk_below K1.out HB.out) 1).trans rfl
  have z2_HO1 := (blk_cell (blk_below K2.out HB.out) 0).trans rfl
  have z3_HO1 := (blk_cell (blk_below K2.out HB.out) 1).trans rfl
  have f0_HO1 := blk_frozen (blk_below K2.out HB.out) 0
  have f1_HO1 := blk_frozen (blk_below K2.out HB.out) 1
  refine hK.out _ _ (z0_HO1) (fun hHeld => ?_)
  clear hK K
  refine norm_ (a' := ?_) ?_ ?_
  rotate_left
  · show Act.put _ (some 21) _ = _
    simp only [Act.put, List.setIfInBounds_toArray, List.set_cons_zero, List.set_cons_succ, i64_w, i32_w]
    rfl
  refine one_ (i := 5) (N := some 26) #[true, true, true, true, true, true, true, true, true, true, true, false, false] rfl rfl (by kernel_rfl) (by decide) (fun K hK => ?_)
  refine Kd.R_append_rows_step (Kd.int .u8) (w0 := wq) wq.heap.size (by rfl) (.tmp 21) (.tmp 25) 22 5 (.int .u8 0) 1 rfl Try.underlying22 info5 rfl (by decide) (by omega) vHO1 [] lt _ _ _ (fun _ => True) (fun _ => False) rfl rfl ?aO ?aR (fun _ _ h => h) (fun _ h => h.elim) ?aF ?aB ?aS ?aL ?_
  case aR => exact (Kd.C_below HRt.out (by repeat (first | (with_reducible first | exact HB.out | apply below_alloc | apply pw_below_drewN | apply below_drew1) | exact HB.out)))
  case aB => exact (by repeat (first | (with_reducible first | exact HB.out | apply below_alloc | apply pw_below_drewN | apply below_drew1) | exact HB.out))
  case aF => exact (fun _ _ => trivial)
  case aO => exact (by (with_reducible repeat (first | apply Kd.R_alloc | apply Kd.R_drewN | apply Kd.R_drew)); exact HO1.out)
  case aS => exact (below_size (by repeat (first | (with_reducible first | exact HB.out | apply below_alloc | apply pw_below_drewN | apply below_drew1) | exact HB.out)))
  case aL => simp only [List.length_nil]; have := HLM.out; omega
  intro vHO2 wHO2 ho hb hg hat
  try rw [List.nil_append] at ho
  have n0_ := Aside0.mk hb
  have n1_ := Aside0.mk ho
  clear HB HO1 ho hb hg hat
  have HB := n0_
  have HO2 := n1_
  clear n0_ n1_
  have z0_HO2 := (blk_cell (blk_below K1.out HB.out) 0).trans rfl
  have z1_HO2 := (blk_cell (blk_below K1.out HB.out) 1).trans rfl
  have z2_HO2 := (blk_cell (blk_below K2.out HB.out) 0).trans rfl
  have z3_HO2 := (blk_cell (blk_below K2.out HB.out) 1).trans rfl
  have f0_HO2 := blk_frozen (blk_below K2.out HB.out) 0
  have f1_HO2 := blk_frozen (blk_below K2.out HB.out) 1
  refine hK.out _ _ (z0_HO2) (fun hHeld => ?_)
  clear hK K
  refine norm_ (a' := ?_) ?_ ?_
  rotate_left
  · show Act.put _ (some 26) _ = _
    simp only [Act.put, List.setIfInBounds_toArray, List.set_cons_zero, List.set_cons_succ, i64_w, i32_w]
    rfl
  refine pure_ (i := 11) (N := some 4) (v := ?_) (a' := ?_) #[true, true, true, true, true, true, true, true, true, true, true, true, false] rfl rfl (by kernel_rfl) (fun _ _ _ h => h) (Or.inl ⟨by rfl, ?_⟩) ?_ ?_
  rotate_left
  · intro w'
    go_simp
    with_reducible rfl
  rotate_left
  · simp only [Act.put, List.setIfInBounds_toArray, List.set_cons_zero, List.set_cons_succ, i64_w, i32_w]
    rfl
  refine last_ (i := 12) (N := none) #[true, true, true, true, true, true, true, true, true, true, true, true, true] rfl rfl (by kernel_rfl) (by decide) (fun K hK => ?_)
  refine skip_ (w1 := ?_) (by rfl) rfl ?_ ?_
  rotate_left
  · go_simp
    rfl
  refine hK.out _ _ ?_
  clear hK K
  refine done_ (by kernel_rfl) ?_

  go_wp2
  have hg := blk_lt K2.out
  exact bodyPost_ret (results_tmp_cell_row rfl _ _ (w.heap.size + 1) 30 _ (0, 0) _ rfl (blk_put (blk_put (blk_below K2.out HB.out) 0 _ rfl) 1 _ rfl) Try.underlying30 rfl (by kernel_rfl)) rfl
    ⟨_, rfl, Kd.R_lower (R_set_low (R_set_low HO2.out hg _) hg _) HBL.out.size, below_set (below_set (below_step HBL.out HB.out) (Nat.le_succ _)) (Nat.le_succ _)⟩
set_option maxHeartbeats 1000000 in
set_option maxRecDepth 100000 in
theorem fix_2 (ad : Addr) (l lt : List Int) (k : Nat) (w : World) (hk0 : 1 ≤ k) (hk : k ≤ l.length) (hlt : lt.length = k) (hm : l.length < 140737488355328) (hlc : l.length ≤ k)  (hr : Kd.C (Kd.int .u8) w (some ad) lt.length lt) :
    Calls Try.prog 28 #[.agg #[.slice (some ad) l.length k, .int .i64 0], .int .i64 (k : Int)] w fun x w' => ∃ V, x = .returned (.tuple #[V, .agg #[.slice (some ad) 0 0, .int .i64 0]]) ∧ Kd.R (Kd.int .u8) 5 w' w.heap.size (fun _ => True) V lt ∧ Below w.heap.size w w' := by
  have b1 : decide ((k : Int) < 1) = false := decide_eq_false (by omega)
  have b2 : decide ((k : Int) > (l.length : Int)) = false := decide_eq_false (by omega)
  have hkc : (k : Int) ≤ (k : Int) := by omega
  have hkl : (k : Int) ≤ (l.length : Int) := by omega
  have hBL := below_alloc (below_alloc (Below.refl w.heap.size w) (.cells #[.slice (some ad) l.length k, .int .i64 0] 30)) (.cells #[.slice none 0 0, .int .i64 0] 30)
  have HRt := Aside0.mk (Kd.C_below hr hBL)
  have HBL := Aside0.mk hBL
  have HLM := Aside0.mk (show 0 + k < 140737488355328 by omega)
  have K1 := Aside0.mk (heap_alloc2_old w (.cells #[.slice (some ad) l.length k, .int .i64 0] 30) (.cells #[.slice none 0 0, .int .i64 0] 30))
  have K2 := Aside0.mk (heap_alloc2_new w (.cells #[.slice (some ad) l.length k, .int .i64 0] 30) (.cells #[.slice none 0 0, .int .i64 0] 30))
  clear hr hBL hm
  rw [hlt] at HRt
  go_enter Try.func28, Try.ntmps28
  go_wp2
  have z0_ := (blk_cell K1.out 0).trans rfl
  have z1_ := (blk_cell K1.out 1).trans rfl
  have z2_ := (blk_cell K2.out 0).trans rfl
  have z3_ := (blk_cell K2.out 1).trans rfl
  have f0_ := blk_frozen K2.out 0
  have f1_ := blk_frozen K2.out 1
  generalize (w.alloc (.cells #[.slice (some ad) l.length k, .int .i64 0] 30)).alloc (.cells #[.slice none 0 0, .int .i64 0] 30) = wq at *
  have HB := Aside0.mk (below_drew (Below.refl wq.heap.size wq))
  refine start_ (n := 13) (S := fun w' => w'.cell? ⟨w.heap.size, 0, none⟩ = some (.slice (some ad) l.length k)) (ds := [12]) #[false, false, false, false, false, false, false, false, false, false, false, false, false] (by kernel_rfl) rfl rfl (z0_) (fun hHeld => ?_)
  refine pure_ (i := 1) (N := some 22) (v := ?_) (a' := ?_) #[false, true, false, false, false, false, false, false, false, false, false, false, false] rfl rfl (by kernel_rfl) (fun _ _ _ h => h) (Or.inl ⟨by rfl, ?_⟩) ?_ ?_
  rotate_left
  · intro w'
    go_simp
    with_reducible rfl
  rotate_left
  · simp only [Act.put, List.setIfInBounds_toArray, List.set_cons_zero, List.set_cons_succ, i64_w, i32_w]
    rfl
  refine pure_ (i := 3) (N := some 24) (v := ?_) (a' := ?_) #[false, true, false, true, false, false, false, false, false, false, false, false, false] rfl rfl (by kernel_rfl) (fun _ _ _ h => h) (Or.inl ⟨by rfl, ?_⟩) ?_ ?_
  rotate_left
  · intro w'
    go_simp
    with_reducible rfl
  rotate_left
  · simp only [Act.put, List.setIfInBounds_toArray, List.set_cons_zero, List.set_cons_succ, i64_w, i32_w]
    rfl
  refine pure_ (i := 6) (N := some 27) (v := ?_) (a' := ?_) #[false, true, false, true, false, false, true, false, false, false, false, false, false] rfl rfl (by kernel_rfl) (fun _ _ _ h => h) (Or.inl ⟨by rfl, ?_⟩) ?_ ?_
  rotate_left
  · intro w'
    go_simp
    with_reducible rfl
  rotate_left
  · simp only [Act.put, List.setIfInBounds_toArray, List.set_cons_zero, List.set_cons_succ, i64_w, i32_w]
    rfl
  refine pure_ (i := 8) (N := some 29) (v := ?_) (a' := ?_) #[false, true, false, true, false, false, true, false, true, false, false, false, false] rfl rfl (by kernel_rfl) (fun _ _ _ h => h) (Or.inl ⟨by rfl, ?_⟩) ?_ ?_
  rotate_left
  · intro w'
    go_simp
    with_reducible rfl
  rotate_left
  · simp only [Act.put, List.setIfInBounds_toArray, List.set_cons_zero, List.set_cons_succ, i64_w, i32_w]
    rfl
  refine take_ (i := 2) (N := some 23) (v := ?_) (a' := ?_) #[false, true, true, true, false, false, true, false, true, false, false, false, false] rfl rfl (by kernel_rfl) (fun _ _ _ h => h) (Or.inl ⟨by rfl, ?_⟩) hHeld ?_ ?_
  rotate_left
  · intro w' s0
    go_simp
    with_reducible rfl
  rotate_left
  · simp only [Act.put, List.setIfInBounds_toArray, List.set_cons_zero, List.set_cons_succ, i64_w, i32_w]
    rfl
  refine pure_ (i := 4) (N := some 25) (v := ?_) (a' := ?_) #[false, true, true, true, true, false, true, false, true, false, false, false, false] rfl rfl (by kernel_rfl) (fun _ _ _ h => h) (Or.inl ⟨by rfl, ?_⟩) ?_ ?_
  rotate_left
  · intro w'
    go_simp
    with_reducible rfl
  rotate_left
  · simp only [Act.put, List.setIfInBounds_toArray, List.set_cons_zero, List.set_cons_succ, i64_w, i32_w]
    rfl
  refine take_ (i := 7) (N := some 28) (v := ?_) (a' := ?_) #[false, true, true, true, true, false, true, true, true, false, false, false, false] rfl rfl (by kernel_rfl) (fun _ _ _ h => h) (Or.inl ⟨by rfl, ?_⟩) hHeld ?_ ?_
  rotate_left
  · intro w' s0
    go_simp
    with_reducible rfl
  rotate_left
  · simp only [Act.put, List.setIfInBounds_toArray, List.set_cons_zero, List.set_cons_succ, i64_w, i32_w]
    rfl
  refine pure_ (i := 9) (N := some 30) (v := ?_) (a' := ?_) #[false, true, true, true, true, false, true, true, true, true, false, false, false] rfl rfl (by kernel_rfl) (fun _ _ _ h => h) (Or.inl ⟨by rfl, ?_⟩) ?_ ?_
  rotate_left
  · intro w'
    go_simp
    with_reducible rfl
  rotate_left
  · simp only [Act.put, List.setIfInBounds_toArray, List.set_cons_zero, List.set_cons_succ, i64_w, i32_w]
    rfl
  refine pure_ (i := 10) (N := some 31) (v := ?_) (a' := ?_) #[false, true, true, true, true, false, true, true, true, true, true, false, false] rfl rfl (by kernel_rfl) (fun _ _ _ h => h) (Or.inl ⟨by rfl, ?_⟩) ?_ ?_
  rotate_left
  · intro w'
    go_simp
    with_reducible rfl
  rotate_left
  · simp only [Act.put, List.setIfInBounds_toArray, List.set_cons_zero, List.set_cons_succ, i64_w, i32_w]
    rfl
  refine one_ (i := 0) (N := some 21) #[true, true, true, true, true, false, true, true, true, true, true, false, false] rfl rfl (by kernel_rfl) (by decide) (fun K hK => ?_)
  refine Kd.R_lit_step (Kd.int .u8) _ 5 (by rfl) (N := 21) rfl (xs := ([] : List Int)) (inner := []) (ok := fun _ => True) (okp := fun _ => True) ?hr ?hp (fun _ hk => hk) trivial (Below.refl _ _) (Nat.le_refl _) (by simp) ?_
  case hr => first | (go_simp; done) | (go_simp; rfl)
  case hp => exact (Reps.none _ _)
  intro vHO1 wHO1 ho hb hg_ hnew_
  have n0_ := Aside0.mk (Kd.R_lower ho (below_size (by repeat (first | (with_reducible first | exact HB.out | apply below_alloc | apply pw_below_drewN | apply below_drew1) | exact HB.out))))
  have n1_ := Aside0.mk (below_step (by repeat (first | (with_reducible first | exact HB.out | apply below_alloc | apply pw_below_drewN | apply below_drew1) | exact HB.out)) hb)
  clear HB hb ho hg_ hnew_
  have HO1 := n0_
  have HB := n1_
  clear n0_ n1_
  have z0_HO1 := (blk_cell (blk_below K1.out HB.out) 0).trans rfl
  have z1_HO1 := (blk_cell (blk_below K1.out HB.out) 1).trans rfl
  have z2_HO1 := (blk_cell (blk_below K2.out HB.out) 0).trans rfl
  have z3_HO1 := (blk_cell (blk_below K2.out HB.out) 1).trans rfl
  have f0_HO1 := blk_frozen (blk_below K2.out HB.out) 0
  have f1_HO1 := blk_frozen (blk_below K2.out HB.out) 1
  refine hK.out _ _ (z0_HO1) (fun hHeld => ?_)
  clear hK K
  refine norm_ (a' := ?_) ?_ ?_
  rotate_left
  · show Act.put _ (some 21) _ = _
    simp only [Act.put, List.setIfInBounds_toArray, List.set_cons_zero, List.set_cons_succ, i64_w, i32_w]
    rfl
  refine one_ (i := 5) (N := some 26) #[true, true, true, true, true, true, true, true, true, true, true, false, false] rfl rfl (by kernel_rfl) (by decide) (fun K hK => ?_)
  refine Kd.R_append_rows_step (Kd.int .u8) (w0 := wq) wq.heap.size (by rfl) (.tmp 21) (.tmp 25) 22 5 (.int .u8 0) 1 rfl Try.underlying22 info5 rfl (by decide) (by omega) vHO1 [] lt _ _ _ (fun _ => True) (fun _ => False) rfl rfl ?aO ?aR (fun _ _ h => h) (fun _ h => h.elim) ?aF ?aB ?aS ?aL ?_
  case aR => exact (Kd.C_below HRt.out (by repeat (first | (with_reducible first | exact HB.out | apply below_alloc | apply pw_below_drewN | apply below_drew1) | exact HB.out)))
  case aB => exact (by repeat (first | (with_reducible first | exact HB.out | apply below_alloc | apply pw_below_drewN | apply below_drew1) | exact HB.out))
  case aF => exact (fun _ _ => trivial)
  case aO => exact (by (with_reducible repeat (first | apply Kd.R_alloc | apply Kd.R_drewN | apply Kd.R_drew)); exact HO1.out)
  case aS => exact (below_size (by repeat (first | (with_reducible first | exact HB.out | apply below_alloc | apply pw_below_drewN | apply below_drew1) | exact HB.out)))
  case aL => simp only [List.length_nil]; have := HLM.out; omega
  intro vHO2 wHO2 ho hb hg hat
  try rw [List.nil_append] at ho
  have n0_ := Aside0.mk hb
  have n1_ := Aside0.mk ho
  clear HB HO1 ho hb hg hat
  have HB := n0_
  have HO2 := n1_
  clear n0_ n1_
  have z0_HO2 := (blk_cell (blk_below K1.out HB.out) 0).trans rfl
  have z1_HO2 := (blk_cell (blk_below K1.out HB.out) 1).trans rfl
  have z2_HO2 := (blk_cell (blk_below K2.out HB.out) 0).trans rfl
  have z3_HO2 := (blk_cell (blk_below K2.out HB.out) 1).trans rfl
  have f0_HO2 := blk_frozen (blk_below K2.out HB.out) 0
  have f1_HO2 := blk_frozen (blk_below K2.out HB.out) 1
  refine hK.out _ _ (z0_HO2) (fun hHeld => ?_)
  clear hK K
  refine norm_ (a' := ?_) ?_ ?_
  rotate_left
  · show Act.put _ (some 26) _ = _
    simp only [Act.put, List.setIfInBounds_toArray, List.set_cons_zero, List.set_cons_succ, i64_w, i32_w]
    rfl
  refine pure_ (i := 11) (N := some 4) (v := ?_) (a' := ?_) #[true, true, true, true, true, true, true, true, true, true, true, true, false] rfl rfl (by kernel_rfl) (fun _ _ _ h => h) (Or.inl ⟨by rfl, ?_⟩) ?_ ?_
  rotate_left
  · intro w'
    go_simp
    with_reducible rfl
  rotate_left
  · simp only [Act.put, List.setIfInBounds_toArray, List.set_cons_zero, List.set_cons_succ, i64_w, i32_w]
    rfl
  refine last_ (i := 12) (N := none) #[true, true, true, true, true, true, true, true, true, true, true, true, true] rfl rfl (by kernel_rfl) (by decide) (fun K hK => ?_)
  refine skip_ (w1 := ?_) (by rfl) rfl ?_ ?_
  rotate_left
  · go_simp
    rfl
  refine hK.out _ _ ?_
  clear hK K
  refine done_ (by kernel_rfl) ?_

  go_wp2
  have hg := blk_lt K2.out
  exact bodyPost_ret (results_tmp_cell_row rfl _ _ (w.heap.size + 1) 30 _ (0, 0) _ rfl (blk_put (blk_put (blk_below K2.out HB.out) 0 _ rfl) 1 _ rfl) Try.underlying30 rfl (by kernel_rfl)) rfl
    ⟨_, rfl, Kd.R_lower (R_set_low (R_set_low HO2.out hg _) hg _) HBL.out.size, below_set (below_set (below_step HBL.out HB.out) (Nat.le_succ _)) (Nat.le_succ _)⟩
set_option maxHeartbeats 1000000 in
set_option maxRecDepth 100000 in
theorem fix_0 (A : Option Addr) (c : Nat) (er n : Int) (l : List Int) (w : World) (he : er ≠ 0) :
    Calls Try.prog 28 #[.agg #[.slice A l.length c, .int .i64 er], .int .i64 n] w fun x w' => x = .returned (.tuple #[.slice none 0 0, .agg #[.slice A l.length c, .int .i64 er]]) ∧ Below w.heap.size w w' := by
  have HBL := Aside0.mk (Below.refl w.heap.size w)
  have he1 : (er != 0) = true := bne_iff_ne.mpr he
  go_enter Try.func28, Try.ntmps28
  go_wp2
  go_region
  go_wp2
  exact bodyPost_ret (results_tmp_cell_row rfl _ _ (w.heap.size + 1) 30 _ (0, 0) _ rfl (heap_alloc2_new _ _ _) Try.underlying30 rfl (by kernel_rfl)) rfl ⟨rfl, below_drew1 (below_alloc (below_alloc HBL.out _) _)⟩
set_option maxHeartbeats 1000000 in
set_option maxRecDepth 100000 in
theorem fix_n (A : Option Addr) (c : Nat) (n : Int) (l : List Int) (w : World) (he : n < 1) :
    Calls Try.prog 28 #[.agg #[.slice A l.length c, .int .i64 0], .int .i64 n] w fun x w' => x = .returned (.tuple #[.slice none 0 0, .agg #[.slice A l.length c, .int .i64 0]]) ∧ Below w.heap.size w w' := by
  have HBL := Aside0.mk (Below.refl w.heap.size w)
  have he1 := decide_eq_true he
  go_enter Try.func28, Try.ntmps28
  go_wp2
  go_region
  go_wp2
  exact bodyPost_ret (results_tmp_cell_row rfl _ _ (w.heap.size + 1) 30 _ (0, 0) _ rfl (heap_alloc2_new _ _ _) Try.underlying30 rfl (by kernel_rfl)) rfl ⟨rfl, below_drew1 (below_alloc (below_alloc HBL.out _) _)⟩
set_option maxHeartbeats 1000000 in
set_option maxRecDepth 100000 in
theorem fix_s (A : Option Addr) (c : Nat) (n : Int) (l : List Int) (w : World) (he : ¬ n < 1) (hs : (l.length : Int) < n) :
    Calls Try.prog 28 #[.agg #[.slice A l.length c, .int .i64 0], .int .i64 n] w fun x w' => x = .returned (.tuple #[.slice none 0 0, .agg #[.slice A l.length c, .int .i64 3]]) ∧ Below w.heap.size w w' := by
  have he1 := decide_eq_false he
  have he2 : decide (n > (l.length : Int)) = true := decide_eq_true hs
  go_enter Try.func28, Try.ntmps28
  go_wp2_with (first | (go_at_call 27; refine (fail_calls0 A l.length c 3 _).mono ?_; rintro x w3 ⟨rfl, hb⟩; have BK3 := blk_below (heap_alloc2_new w _ _) hb; have HB3 := Aside0.mk (below_step (below_alloc (below_alloc (Below.refl w.heap.size w) _) _) hb); clear hb; have hz3 := (blk_cell BK3 0).trans rfl; have hz4 := (blk_cell BK3 1).trans rfl; have hf0 := blk_frozen BK3 0; have hf1 := blk_frozen BK3 1))
  exact bodyPost_ret (results_tmp_cell_row rfl _ _ (w.heap.size + 1) 30 _ (0, 0) _ rfl (blk_put (blk_put BK3 0 _ rfl) 1 _ rfl) Try.underlying30 rfl (by kernel_rfl)) rfl ⟨rfl, below_set (below_set HB3.out (by omega)) (by omega)⟩
set_option maxHeartbeats 1000000 in
set_option maxRecDepth 100000 in
theorem rfix_0 (A : Option Addr) (c : Nat) (er n : Int) (l : List Int) (w : World) (he : er ≠ 0) :
    Calls Try.prog 31 #[.agg #[.slice A l.length c, .int .i64 er], .int .i64 n] w fun x w' => x = .returned (.tuple #[.slice none 0 0, .agg #[.slice A l.length c, .int .i64 er]]) ∧ Below w.heap.size w w' := by
  have HBL := Aside0.mk (Below.refl w.heap.size w)
  have he1 : (er != 0) = true := bne_iff_ne.mpr he
  go_enter Try.func31, Try.ntmps31
  go_wp2
  go_region
  go_wp2
  exact bodyPost_ret (results_tmp_cell_row rfl _ _ (w.heap.size + 1) 44 _ (0, 0) _ rfl (heap_alloc2_new _ _ _) Try.underlying44 rfl (by kernel_rfl)) rfl ⟨rfl, below_drew1 (below_alloc (below_alloc HBL.out _) _)⟩
set_option maxHeartbeats 1000000 in
set_option maxRecDepth 100000 in
theorem rfix_n (A : Option Addr) (c : Nat) (n : Int) (l : List Int) (w : World) (he : n < 1) :
    Calls Try.prog 31 #[.agg #[.slice A l.length c, .int .i64 0], .int .i64 n] w fun x w' => x = .returned (.tuple #[.slice none 0 0, .agg #[.slice A l.length c, .int .i64 0]]) ∧ Below w.heap.size w w' := by
  have HBL := Aside0.mk (Below.refl w.heap.size w)
  have he1 := decide_eq_true he
  go_enter Try.func31, Try.ntmps31
  go_wp2
  go_region
  go_wp2
  exact bodyPost_ret (results_tmp_cell_row rfl _ _ (w.heap.size + 1) 44 _ (0, 0) _ rfl (heap_alloc2_new _ _ _) Try.underlying44 rfl (by kernel_rfl)) rfl ⟨rfl, below_drew1 (below_alloc (below_alloc HBL.out _) _)⟩
set_option maxHeartbeats 1000000 in
set_option maxRecDepth 100000 in
theorem rfix_s (A : Option Addr) (c : Nat) (n : Int) (l : List Int) (w : World) (he : ¬ n < 1) (hs : (l.length : Int) < n) :
    Calls Try.prog 31 #[.agg #[.slice A l.length c, .int .i64 0], .int .i64 n] w fun x w' => x = .returned (.tuple #[.slice none 0 0, .agg #[.slice A l.length c, .int .i64 3]]) ∧ Below w.heap.size w w' := by
  have he1 := decide_eq_false he
  have he2 : decide (n > (l.length : Int)) = true := decide_eq_true hs
  go_enter Try.func31, Try.ntmps31
  go_wp2_with (first | (go_at_call 34; refine (rfail_calls A l.length c 0 3 _).mono ?_; rintro x w3 ⟨rfl, hb⟩; have BK3 := blk_below (heap_alloc2_new w _ _) hb; have HB3 := Aside0.mk (below_step (below_alloc (below_alloc (Below.refl w.heap.size w) _) _) hb); clear hb; have hz3 := (blk_cell BK3 0).trans rfl; have hz4 := (blk_cell BK3 1).trans rfl; have hf0 := blk_frozen BK3 0; have hf1 := blk_frozen BK3 1))
  exact bodyPost_ret (results_tmp_cell_row rfl _ _ (w.heap.size + 1) 44 _ (0, 0) _ rfl (blk_put (blk_put BK3 0 _ rfl) 1 _ rfl) Try.underlying44 rfl (by kernel_rfl)) rfl ⟨rfl, below_set (below_set HB3.out (by omega)) (by omega)⟩
set_option maxHeartbeats 1000000 in
set_option maxRecDepth 100000 in
theorem rfix_1 (ad : Addr) (c : Nat) (l : List Int) (k : Nat) (w0 w : World) (hr0 : Kd.C (Kd.int .u8) w0 (some ad) l.length l) (hk0 : 1 ≤ k) (hk : k ≤ l.length) (hlc : l.length ≤ c) (hb : Bytes l) :
    Calls Try.prog 31 #[.agg #[.slice (some ad) l.length c, .int .i64 0], .int .i64 (k : Int)] w fun x w' => ∃ v', x = .returned (.tuple #[.slice (some ad) k c, v']) ∧ Scn w0 v' (l.drop k) 0 ∧ Below w.heap.size w w' := by
  have b1 : decide ((k : Int) < 1) = false := decide_eq_false (by omega)
  have b2 : decide ((k : Int) > (l.length : Int)) = false := decide_eq_false (by omega)
  have hkc : (k : Int) ≤ (c : Int) := by omega
  have hkl : (k : Int) ≤ (l.length : Int) := by omega
  have HBL := Aside0.mk (below_alloc (below_alloc (Below.refl w.heap.size w) (.cells #[.slice (some ad) l.length c, .int .i64 0] 44)) (.cells #[.slice none 0 0, .int .i64 0] 44))
  have HR := Aside0.mk hr0
  have HY := Aside0.mk hb
  have K1 := Aside0.mk (heap_alloc2_old w (.cells #[.slice (some ad) l.length c, .int .i64 0] 44) (.cells #[.slice none 0 0, .int .i64 0] 44))
  have K2 := Aside0.mk (heap_alloc2_new w (.cells #[.slice (some ad) l.length c, .int .i64 0] 44) (.cells #[.slice none 0 0, .int .i64 0] 44))
  clear hr0 hb
  go_enter Try.func31, Try.ntmps31
  go_wp2
  have z0_ := (blk_cell K1.out 0).trans rfl
  have z1_ := (blk_cell K1.out 1).trans rfl
  have z2_ := (blk_cell K2.out 0).trans rfl
  have z3_ := (blk_cell K2.out 1).trans rfl
  have f0_ := blk_frozen K2.out 0
  have f1_ := blk_frozen K2.out 1
  generalize (w.alloc (.cells #[.slice (some ad) l.length c, .int .i64 0] 44)).alloc (.cells #[.slice none 0 0, .int .i64 0] 44) = wq at *
  go_region
  go_wp2
  all_goals
    have HBE : ∀ v, Below w.heap.size w ((wq.setCell ⟨w.heap.size + 1, 0, none⟩ v).setCell ⟨w.heap.size + 1, 1, none⟩ (.int .i64 0)).drew := fun v => below_drew1 (below_set (below_set HBL.out (Nat.le_succ _)) (Nat.le_succ _))
    refine bodyPost_ret (results_tmp_cell_row rfl _ _ (w.heap.size + 1) 44 _ (0, 0) _ rfl (blk_put (blk_put K2.out 0 _ rfl) 1 _ rfl) Try.underlying44 rfl (by kernel_rfl)) rfl ⟨_, rfl, ?_, HBE _⟩
    first | exact scn_drop_all HR.out (by omega) (by omega) HY.out | exact scn_drop HR.out (by omega) hlc HY.out (by omega)
/-- what Fixed tells: the bytes, how many it took, the error -/
def fixP (l : List Int) (er n : Int) : List Int × Nat × Int := if er ≠ 0 ∨ n < 1 then ([], 0, er) else if (l.length : Int) < n then ([], 0, 3) else (l.take n.toNat, n.toNat, 0)
/-- bytes that are read -/
def Rd (w : World) (v : Value) (l : List Int) : Prop := ∃ A c, v = .slice A l.length c ∧ Kd.C (Kd.int .u8) w A l.length l ∧ l.length ≤ c
theorem Rd.below {w w' : World} {v : Value} {l : List Int} (h : Rd w v l) (hb : Below w.heap.size w w') : Rd w' v l := by
  obtain ⟨A, c, e, h1, h2⟩ := h
  exact ⟨A, c, e, Kd.C_below h1 hb, h2⟩
theorem Rd.nil (w : World) : Rd w (.slice none 0 0) [] := ⟨none, 0, rfl, Kd.C_nil _ w, Nat.le_refl _⟩
theorem Rd.own {e base : Nat} {w : World} {v : Value} {l : List Int} {ok : Nat → Prop} (h : Kd.R (Kd.int .u8) e w base ok v l) : Rd w v l := by
  obtain ⟨A, c, e⟩ := Kd.R_slice h
  subst e
  obtain ⟨_, h2, h3⟩ := Kd.R_reads' h
  exact ⟨A, c, rfl, h3, h2⟩
theorem fix_calls {w0 w : World} {v : Value} {l : List Int} {er : Int} (h : Scn w0 v l er) (hW : Below w0.heap.size w0 w) (hm : l.length < 140737488355328) (n : Int) :
    Calls Try.prog 28 #[v, .int .i64 n] w fun x w' => ∃ V v', x = .returned (.tuple #[V, v']) ∧ Kd.R (Kd.int .u8) 5 w' w.heap.size (fun _ => True) V (fixP l er n).1 ∧ Scn w0 v' (l.drop (fixP l er n).2.1) (fixP l er n).2.2 ∧ Below w.heap.size w w' := by
  obtain ⟨A, c, rfl, hr0, hc, hb⟩ := h
  have hr := Kd.C_below hr0 hW
  unfold fixP
  by_cases he : er ≠ 0
  · rw [if_pos (.inl he)]
    refine (fix_0 A c er n l w he).mono ?_
    rintro x w' ⟨rfl, hB⟩
    exact ⟨_, _, rfl, Kd.R_nil _ _ _ _ _, ⟨A, c, rfl, hr0, hc, hb⟩, hB⟩
  obtain rfl : er = 0 := by omega
  by_cases hn : n < 1
  · rw [if_pos (.inr hn)]
    refine (fix_n A c n l w hn).mono ?_
    rintro x w' ⟨rfl, hB⟩
    exact ⟨_, _, rfl, Kd.R_nil _ _ _ _ _, ⟨A, c, rfl, hr0, hc, hb⟩, hB⟩
  rw [if_neg (fun h => h.elim he hn)]
  by_cases hs : (l.length : Int) < n
  · rw [if_pos hs]
    refine (fix_s A c n l w hn hs).mono ?_
    rintro x w' ⟨rfl, hB⟩
    exact ⟨_, _, rfl, Kd.R_nil _ _ _ _ _, ⟨A, c, rfl, hr0, hc, hb⟩, hB⟩
  rw [if_neg hs]
  obtain ⟨k, rfl⟩ : ∃ k : Nat, n = k := ⟨n.toNat, by omega⟩
  rw [Int.toNat_natCast]
  obtain ⟨ad, rfl, _⟩ := Kd.at_int hr 0 (by omega) (by omega)
  have ht : (l.take k).length = k := by rw [List.length_take]; omega
  have hrt := Kd.C_take hr (show k ≤ l.length by omega)
  by_cases hck : c = k
  · subst hck
    refine (fix_2 ad l (l.take c) c w (by omega) (by omega) ht hm hc hrt).mono ?_
    rintro x w' ⟨V, rfl, hV, hB⟩
    have := scn_drop_all hr0 (show c ≤ l.length by omega) hc hb
    rw [show l.length - c = 0 by omega] at this
    exact ⟨V, _, rfl, hV, this, hB⟩
  · refine (fix_1 ad c l (l.take k) k w (by omega) (by omega) ht hm hc hck hrt).mono ?_
    rintro x w' ⟨V, rfl, hV, hB⟩
    exact ⟨V, _, rfl, hV, scn_drop hr0 (show k ≤ l.length by omega) hc hb hck, hB⟩
theorem rfix_calls {w0 w : World} {v : Value} {l : List Int} {er : Int} (h : Scn w0 v l er) (hW : Below w0.heap.size w0 w) (n : Int) :
    Calls Try.prog 31 #[v, .int .i64 n] w fun x w' => ∃ V v', x = .returned (.tuple #[V, v']) ∧ Rd w0 V (fixP l er n).1 ∧ Scn w0 v' (l.drop (fixP l er n).2.1) (fixP l er n).2.2 ∧ Below w.heap.size w w' := by
  obtain ⟨A, c, rfl, hr0, hc, hb⟩ := h
  have hr := Kd.C_below hr0 hW
  unfold fixP
  by_cases he : er ≠ 0
  · rw [if_pos (.inl he)]
    refine (rfix_0 A c er n l w he).mono ?_
    rintro x w' ⟨rfl, hB⟩
    exact ⟨_, _, rfl, Rd.nil _, ⟨A, c, rfl, hr0, hc, hb⟩, hB⟩
  obtain rfl : er = 0 := by omega
  by_cases hn : n < 1
  · rw [if_pos (.inr hn)]
    refine (rfix_n A c n l w hn).mono ?_
    rintro x w' ⟨rfl, hB⟩
    exact ⟨_, _, rfl, Rd.nil _, ⟨A, c, rfl, hr0, hc, hb⟩, hB⟩
  rw [if_neg (fun h => h.elim he hn)]
  by_cases hs : (l.length : Int) < n
  · rw [if_pos hs]
    refine (rfix_s A c n l w hn hs).mono ?_
    rintro x w' ⟨rfl, hB⟩
    exact ⟨_, _, rfl, Rd.nil _, ⟨A, c, rfl, hr0, hc, hb⟩, hB⟩
  rw [if_neg hs]
  obtain ⟨k, rfl⟩ : ∃ k : Nat, n = k := ⟨n.toNat, by omega⟩
  rw [Int.toNat_natCast]
  obtain ⟨ad, rfl, _⟩ := Kd.at_int hr 0 (by omega) (by omega)
  have ht : (l.take k).length = k := by rw [List.length_take]; omega
  refine (rfix_1 ad c l k w0 w hr0 (by omega) (by omega) hc hb).mono ?_
  rintro x w' ⟨v', rfl, hv, hB⟩
  exact ⟨_, v', rfl, ⟨some ad, c, by rw [ht], Kd.C_take hr0 (by omega), by show (l.take k).length ≤ c; omega⟩, hv, hB⟩
end Go.Proofs.Yteonbbfegnjjeaa.Law
