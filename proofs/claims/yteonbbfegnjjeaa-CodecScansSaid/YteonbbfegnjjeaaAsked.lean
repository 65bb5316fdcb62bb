/- The walk of asked. -/
import Derived.Test.YteonbbfegnjjeaaId2
namespace Go.Proofs.Yteonbbfegnjjeaa.Law
open Go.RowKit Go.Proofs.Yteonbbfegnjjeaa Go.Proofs.YteonbbfegnjjeaaW.PrintWords Go.Proofs.YteonbbfegnjjeaaW.PrintLast Go.Proofs.YteonbbfegnjjeaaW.PrintMore Go.Proofs.Yteonbbfegnjjeaa.D
set_option linter.unusedSimpArgs false
theorem results_cct {P : Program} {fn : Func} {p q u : Tmp} {ty tz : TypeId} (h : fn.results = #[.cell p ty, .cell q tz, .tmp u]) (tmps : Array Value) (w : World) (g k : Nat) (x y : Value)
    (hp : tmps.getD p undef = .pointer (some ⟨g, 0, none⟩)) (hq : tmps.getD q undef = .pointer (some ⟨k, 0, none⟩)) (h1 : (loadVar ty ⟨g, 0, none⟩).run P w = .ok x w) (h2 : (loadVar tz ⟨k, 0, none⟩).run P w = .ok y w) :
    (results fn tmps).run P w = .ok (.tuple #[x, y, tmps.getD u undef]) w := by
  have hp' : tmps[p]?.getD undef = .pointer (some ⟨g, 0, none⟩) := by simpa using hp
  have hq' : tmps[q]?.getD undef = .pointer (some ⟨k, 0, none⟩) := by simpa using hq
  simp [results, h, hp', hq', asAddr, Result.andThen, h1, h2]
theorem five (w : World) (A B C D E : Obj) : ((((((w.alloc A).alloc B).alloc C).alloc D).alloc E).heap[w.heap.size]? = some A ∧ (((((w.alloc A).alloc B).alloc C).alloc D).alloc E).heap[w.heap.size + 1]? = some B ∧ (((((w.alloc A).alloc B).alloc C).alloc D).alloc E).heap[w.heap.size + 1 + 1]? = some C ∧
    (((((w.alloc A).alloc B).alloc C).alloc D).alloc E).heap[w.heap.size + 1 + 1 + 1]? = some D ∧ (((((w.alloc A).alloc B).alloc C).alloc D).alloc E).heap[w.heap.size + 1 + 1 + 1 + 1]? = some E) ∧ Below w.heap.size w (((((w.alloc A).alloc B).alloc C).alloc D).alloc E) := by
  have s1 : (w.alloc A).heap.size = w.heap.size + 1 := by show (w.heap.push A).size = _; simp
  have s2 : ((w.alloc A).alloc B).heap.size = w.heap.size + 1 + 1 := by show ((w.alloc A).heap.push B).size = _; simp [s1]
  have s3 : (((w.alloc A).alloc B).alloc C).heap.size = w.heap.size + 1 + 1 + 1 := by show (((w.alloc A).alloc B).heap.push C).size = _; simp [s2]
  have s4 : ((((w.alloc A).alloc B).alloc C).alloc D).heap.size = w.heap.size + 1 + 1 + 1 + 1 := by show ((((w.alloc A).alloc B).alloc C).heap.push D).size = _; simp [s3]
  have k1 := heap_alloc_new w A
  have k2 := heap_alloc_new (w.alloc A) B
  have k3 := heap_alloc_new ((w.alloc A).alloc B) C
  have k4 := heap_alloc_new (((w.alloc A).alloc B).alloc C) D
  have k5 := heap_alloc_new ((((w.alloc A).alloc B).alloc C).alloc D) E
  rw [s1] at k2; rw [s2] at k3; rw [s3] at k4; rw [s4] at k5
  have b1 : ∀ W : World, ∀ O : Obj, Below W.heap.size W (W.alloc O) := fun W O => below_alloc (Below.refl _ _) O
  exact ⟨⟨blk_below (blk_below (blk_below (blk_below k1 (b1 _ _)) (b1 _ _)) (b1 _ _)) (b1 _ _), blk_below (blk_below (blk_below k2 (b1 _ _)) (b1 _ _)) (b1 _ _), blk_below (blk_below k3 (b1 _ _)) (b1 _ _), blk_below k4 (b1 _ _), k5⟩,
    below_alloc (below_alloc (below_alloc (below_alloc (b1 w A) B) C) D) E⟩
set_option maxHeartbeats 4000000 in
set_option maxRecDepth 100000 in
theorem asked_0 (A B : Option Addr) (c d : Nat) (er a b n e : Int) (l l' : List Int) (k : Nat) (w0 w : World) (hr : Kd.C (Kd.int .u8) w0 A l.length l) (hc : l.length ≤ c) (hr2 : Kd.C (Kd.int .u8) w0 B l.length l) (hd : l.length ≤ d) (hb : Bytes l) (_hm : l.length < 140737488355328) (hw : Below w0.heap.size w0 w) (hl : l.drop k = l') (hp : numP l er a b = (n, k, e)) :
    Calls Try.prog 20 #[.agg #[.slice A l.length c, .int .i64 er], .agg #[.slice B l.length d, .int .i64 er], .agg #[.int .i64 0, .int .i64 a, .int .i64 b]] w fun x w' => ∃ S R, x = .returned (.tuple #[S, R, .bool true]) ∧ Scn w0 S l' e ∧ Scn w0 R l' e ∧ Below w.heap.size w w' := by
  have HS := Aside0.mk (show Scn w0 (.agg #[.slice A l.length c, .int .i64 er]) l er from ⟨A, c, rfl, hr, hc, hb⟩)
  have HT := Aside0.mk (show Scn w0 (.agg #[.slice B l.length d, .int .i64 er]) l er from ⟨B, d, rfl, hr2, hd, hb⟩)
  have HW := Aside0.mk hw
  have HL := Aside0.mk hl
  clear hr hc hr2 hd hb hw hl
  have HP := Aside0.mk hp
  clear hp
  go_enter Try.func20, Try.ntmps20
  go_wp2_with (first | (go_at_call 16; obtain ⟨⟨q1, q2, q3, q4, q5⟩, q6⟩ := five w (.cells #[.slice A l.length c, .int .i64 er] 30) (.cells #[.slice B l.length d, .int .i64 er] 44) (.cells #[.int .i64 0, .int .i64 a, .int .i64 b] 46) (.cells #[.slice none 0 0, .int .i64 0] 30) (.cells #[.slice none 0 0, .int .i64 0] 44); refine (num_calls HS.out (HW.out.trans (q6.mono HW.out.size)) a b).mono ?_; rw [HP.out]; dsimp only; rw [HL.out]; clear q1; rintro x w2 ⟨v', rfl, ⟨A1, c1, rfl, hr1, hc1, hy1⟩, hb⟩; have K2 := Aside0.mk (blk_below (blk_below q2 hb) (below_alloc (Below.refl w2.heap.size w2) (.cells #[.slice A1 l'.length c1, .int .i64 e] 30))); have K3 := Aside0.mk (blk_below (blk_below q3 hb) (below_alloc (Below.refl w2.heap.size w2) (.cells #[.slice A1 l'.length c1, .int .i64 e] 30))); have K4 := Aside0.mk (blk_below (blk_below q4 hb) (below_alloc (Below.refl w2.heap.size w2) (.cells #[.slice A1 l'.length c1, .int .i64 e] 30))); have K5 := Aside0.mk (blk_below (blk_below q5 hb) (below_alloc (Below.refl w2.heap.size w2) (.cells #[.slice A1 l'.length c1, .int .i64 e] 30))); have KX := Aside0.mk (heap_alloc_new w2 (.cells #[.slice A1 l'.length c1, .int .i64 e] 30)); have HB := Aside0.mk (below_alloc (below_step q6 hb) (.cells #[.slice A1 l'.length c1, .int .i64 e] 30)); have hgx := blk_lt (blk_below q5 hb); have HSa := Aside0.mk (show Scn w0 (.agg #[.slice A1 l'.length c1, .int .i64 e]) l' e from ⟨A1, c1, rfl, hr1, hc1, hy1⟩); have u0 := (blk_cell K2.out 0).trans rfl; have u1 := (blk_cell K2.out 1).trans rfl; have u2 := (blk_cell K3.out 0).trans rfl; have u3 := (blk_cell K3.out 1).trans rfl; have u4 := (blk_cell K3.out 2).trans rfl; clear q2 q3 q4 q5 q6 hr1 hc1 hy1 hb) | (go_at_call 29; refine (rnum_calls HT.out (HW.out.trans (HB.out.mono HW.out.size)) a b).mono ?_; rw [HP.out]; dsimp only; rw [HL.out]; rintro x w3 ⟨v', rfl, ⟨A2, c2, rfl, hr2, hc2, hy2⟩, hb⟩; have n4_ := Aside0.mk (blk_below (blk_below K4.out hb) (below_alloc (Below.refl w3.heap.size w3) (.cells #[.slice A2 l'.length c2, .int .i64 e] 44))); have n5_ := Aside0.mk (blk_below (blk_below K5.out hb) (below_alloc (Below.refl w3.heap.size w3) (.cells #[.slice A2 l'.length c2, .int .i64 e] 44))); have nX_ := Aside0.mk (blk_below (blk_below KX.out hb) (below_alloc (Below.refl w3.heap.size w3) (.cells #[.slice A2 l'.length c2, .int .i64 e] 44))); have KY := Aside0.mk (heap_alloc_new w3 (.cells #[.slice A2 l'.length c2, .int .i64 e] 44)); have nB_ := Aside0.mk (below_alloc (below_step HB.out hb) (.cells #[.slice A2 l'.length c2, .int .i64 e] 44)); have hgy := blk_lt (blk_below KX.out hb); have HSb := Aside0.mk (show Scn w0 (.agg #[.slice A2 l'.length c2, .int .i64 e]) l' e from ⟨A2, c2, rfl, hr2, hc2, hy2⟩); clear K2 K3 K4 K5 KX HB; have K4 := n4_; have K5 := n5_; have KX := nX_; have HB := nB_; clear n4_ n5_ nX_ nB_ hr2 hc2 hy2 hb))
  generalize w3.alloc (.cells #[.slice A2 l'.length c2, .int .i64 e] 44) = wq at *
  generalize w2.heap.size = ga at *
  generalize w3.heap.size = gb at *
  refine start_ (n := 8) (S := fun w' => w'.cell? ⟨ga, 0, none⟩ = some (.slice A1 l'.length c1) ∧ w'.cell? ⟨ga, 1, none⟩ = some (.int .i64 e) ∧ w'.cell? ⟨gb, 0, none⟩ = some (.slice A2 l'.length c2) ∧ w'.cell? ⟨gb, 1, none⟩ = some (.int .i64 e)) (ds := []) #[false, false, false, false, false, false, false, false] (by kernel_rfl) rfl rfl ⟨(blk_cell KX.out 0).trans rfl, (blk_cell KX.out 1).trans rfl, (blk_cell KY.out 0).trans rfl, (blk_cell KY.out 1).trans rfl⟩ (fun hHeld => ?_)
  refine pure_ (i := 2) (N := some 51) (v := ?_) (a' := ?_) #[false, false, true, false, false, false, false, false] rfl rfl (by kernel_rfl) (fun _ _ _ h => h) (Or.inl ⟨by rfl, ?_⟩) ?_ ?_
  rotate_left
  · intro w'
    go_simp
    with_reducible rfl
  rotate_left
  · simp only [Act.put, List.setIfInBounds_toArray, List.set_cons_zero, List.set_cons_succ, i64_w, i32_w]
    rfl
  refine pure_ (i := 3) (N := some 52) (v := ?_) (a' := ?_) #[false, false, true, true, false, false, false, false] rfl rfl (by kernel_rfl) (fun _ _ _ h => h) (Or.inl ⟨by rfl, ?_⟩) ?_ ?_
  rotate_left
  · intro w'
    go_simp
    with_reducible rfl
  rotate_left
  · simp only [Act.put, List.setIfInBounds_toArray, List.set_cons_zero, List.set_cons_succ, i64_w, i32_w]
    rfl
  refine pure_ (i := 4) (N := some 53) (v := ?_) (a' := ?_) #[false, false, true, true, true, false, false, false] rfl rfl (by kernel_rfl) (fun _ _ _ h => h) (Or.inl ⟨by rfl, ?_⟩) ?_ ?_
  rotate_left
  · intro w'
    go_simp
    with_reducible rfl
  rotate_left
  · simp only [Act.put, List.setIfInBounds_toArray, List.set_cons_zero, List.set_cons_succ, i64_w, i32_w]
    rfl
  refine take_ (i := 0) (N := some 49) (v := ?_) (a' := ?_) #[true, false, true, true, true, false, false, false] rfl rfl (by kernel_rfl) (fun _ _ _ h => h) (Or.inl ⟨by rfl, ?_⟩) hHeld ?_ ?_
  rotate_left
  · rintro w' ⟨s0, s1, s2, s3⟩
    go_simp
    with_reducible rfl
  rotate_left
  · simp only [Act.put, List.setIfInBounds_toArray, List.set_cons_zero, List.set_cons_succ, i64_w, i32_w]
    rfl
  refine take_ (i := 1) (N := some 50) (v := ?_) (a' := ?_) #[true, true, true, true, true, false, false, false] rfl rfl (by kernel_rfl) (fun _ _ _ h => h) (Or.inl ⟨by rfl, ?_⟩) hHeld ?_ ?_
  rotate_left
  · rintro w' ⟨s0, s1, s2, s3⟩
    go_simp
    with_reducible rfl
  rotate_left
  · simp only [Act.put, List.setIfInBounds_toArray, List.set_cons_zero, List.set_cons_succ, i64_w, i32_w]
    rfl
  refine one_ (i := 5) (N := none) #[true, true, true, true, true, true, false, false] rfl rfl (by kernel_rfl) (by decide) (fun K hK => ?_)
  have r0 := (blk_cell K4.out 0).trans rfl
  have r1 := (blk_cell K4.out 1).trans rfl
  have r2 := blk_frozen K4.out 0
  have r3 := blk_frozen K4.out 1
  refine skip_ (w1 := ((wq.drew.setCell ⟨w.heap.size + 1 + 1 + 1, 0, none⟩ (.slice A1 l'.length c1)).setCell ⟨w.heap.size + 1 + 1 + 1, 1, none⟩ (.int .i64 e))) (by rfl) rfl ?_ ?_
  · go_simp
    try rfl
  have n4_ := Aside0.mk (show ((wq.drew.setCell ⟨w.heap.size + 1 + 1 + 1, 0, none⟩ (.slice A1 l'.length c1)).setCell ⟨w.heap.size + 1 + 1 + 1, 1, none⟩ (.int .i64 e)).heap[w.heap.size + 1 + 1 + 1]? = some (.cells #[.slice A1 l'.length c1, .int .i64 e] 30 (0, 0)) from blk_put (blk_put (w := wq.drew) K4.out 0 _ rfl) 1 _ rfl)
  have n5_ := Aside0.mk (show ((wq.drew.setCell ⟨w.heap.size + 1 + 1 + 1, 0, none⟩ (.slice A1 l'.length c1)).setCell ⟨w.heap.size + 1 + 1 + 1, 1, none⟩ (.int .i64 e)).heap[w.heap.size + 1 + 1 + 1 + 1]? = some (.cells #[.slice none 0 0, .int .i64 0] 44 (0, 0)) from (blk_far (blk_far K5.out (p := ⟨w.heap.size + 1 + 1 + 1, 0, none⟩) (by show _ ≠ (w.heap.size + 1 + 1 + 1); omega) (.slice A1 l'.length c1)) (p := ⟨w.heap.size + 1 + 1 + 1, 1, none⟩) (by show _ ≠ (w.heap.size + 1 + 1 + 1); omega) (.int .i64 e)))
  have nX_ := Aside0.mk (show ((wq.drew.setCell ⟨w.heap.size + 1 + 1 + 1, 0, none⟩ (.slice A1 l'.length c1)).setCell ⟨w.heap.size + 1 + 1 + 1, 1, none⟩ (.int .i64 e)).heap[ga]? = some (.cells #[.slice A1 l'.length c1, .int .i64 e] 30 (0, 0)) from (blk_far (blk_far KX.out (p := ⟨w.heap.size + 1 + 1 + 1, 0, none⟩) (by show _ ≠ (w.heap.size + 1 + 1 + 1); omega) (.slice A1 l'.length c1)) (p := ⟨w.heap.size + 1 + 1 + 1, 1, none⟩) (by show _ ≠ (w.heap.size + 1 + 1 + 1); omega) (.int .i64 e)))
  have nY_ := Aside0.mk (show ((wq.drew.setCell ⟨w.heap.size + 1 + 1 + 1, 0, none⟩ (.slice A1 l'.length c1)).setCell ⟨w.heap.size + 1 + 1 + 1, 1, none⟩ (.int .i64 e)).heap[gb]? = some (.cells #[.slice A2 l'.length c2, .int .i64 e] 44 (0, 0)) from (blk_far (blk_far KY.out (p := ⟨w.heap.size + 1 + 1 + 1, 0, none⟩) (by show _ ≠ (w.heap.size + 1 + 1 + 1); omega) (.slice A1 l'.length c1)) (p := ⟨w.heap.size + 1 + 1 + 1, 1, none⟩) (by show _ ≠ (w.heap.size + 1 + 1 + 1); omega) (.int .i64 e)))
  have nB_ := Aside0.mk (below_set (j := 1) (v := .int .i64 e) (below_set (j := 0) (v := .slice A1 l'.length c1) (below_drew1 HB.out) (show w.heap.size ≤ (w.heap.size + 1 + 1 + 1) by omega)) (show w.heap.size ≤ (w.heap.size + 1 + 1 + 1) by omega))
  clear K4 K5 KX KY HB r0 r1 r2 r3
  have K4 := n4_
  have K5 := n5_
  have KX := nX_
  have KY := nY_
  have HB := nB_
  clear n4_ n5_ nX_ nY_ nB_
  generalize ((wq.drew.setCell ⟨w.heap.size + 1 + 1 + 1, 0, none⟩ (.slice A1 l'.length c1)).setCell ⟨w.heap.size + 1 + 1 + 1, 1, none⟩ (.int .i64 e)) = wr at *
  refine hK.out _ _ ⟨(blk_cell KX.out 0).trans rfl, (blk_cell KX.out 1).trans rfl, (blk_cell KY.out 0).trans rfl, (blk_cell KY.out 1).trans rfl⟩ (fun hHeld => ?_)
  clear hK K
  refine one_ (i := 6) (N := none) #[true, true, true, true, true, true, true, false] rfl rfl (by kernel_rfl) (by decide) (fun K hK => ?_)
  have r0 := (blk_cell K5.out 0).trans rfl
  have r1 := (blk_cell K5.out 1).trans rfl
  have r2 := blk_frozen K5.out 0
  have r3 := blk_frozen K5.out 1
  refine skip_ (w1 := ((wr.setCell ⟨w.heap.size + 1 + 1 + 1 + 1, 0, none⟩ (.slice A2 l'.length c2)).setCell ⟨w.heap.size + 1 + 1 + 1 + 1, 1, none⟩ (.int .i64 e))) (by rfl) rfl ?_ ?_
  · go_simp
    try rfl
  have n4_ := Aside0.mk (show ((wr.setCell ⟨w.heap.size + 1 + 1 + 1 + 1, 0, none⟩ (.slice A2 l'.length c2)).setCell ⟨w.heap.size + 1 + 1 + 1 + 1, 1, none⟩ (.int .i64 e)).heap[w.heap.size + 1 + 1 + 1 + 1]? = some (.cells #[.slice A2 l'.length c2, .int .i64 e] 44 (0, 0)) from blk_put (blk_put (w := wr) K5.out 0 _ rfl) 1 _ rfl)
  have n5_ := Aside0.mk (show ((wr.setCell ⟨w.heap.size + 1 + 1 + 1 + 1, 0, none⟩ (.slice A2 l'.length c2)).setCell ⟨w.heap.size + 1 + 1 + 1 + 1, 1, none⟩ (.int .i64 e)).heap[w.heap.size + 1 + 1 + 1]? = some (.cells #[.slice A1 l'.length c1, .int .i64 e] 30 (0, 0)) from (blk_far (blk_far K4.out (p := ⟨w.heap.size + 1 + 1 + 1 + 1, 0, none⟩) (by show _ ≠ (w.heap.size + 1 + 1 + 1 + 1); omega) (.slice A2 l'.length c2)) (p := ⟨w.heap.size + 1 + 1 + 1 + 1, 1, none⟩) (by show _ ≠ (w.heap.size + 1 + 1 + 1 + 1); omega) (.int .i64 e)))
  have nX_ := Aside0.mk (show ((wr.setCell ⟨w.heap.size + 1 + 1 + 1 + 1, 0, none⟩ (.slice A2 l'.length c2)).setCell ⟨w.heap.size + 1 + 1 + 1 + 1, 1, none⟩ (.int .i64 e)).heap[ga]? = some (.cells #[.slice A1 l'.length c1, .int .i64 e] 30 (0, 0)) from (blk_far (blk_far KX.out (p := ⟨w.heap.size + 1 + 1 + 1 + 1, 0, none⟩) (by show _ ≠ (w.heap.size + 1 + 1 + 1 + 1); omega) (.slice A2 l'.length c2)) (p := ⟨w.heap.size + 1 + 1 + 1 + 1, 1, none⟩) (by show _ ≠ (w.heap.size + 1 + 1 + 1 + 1); omega) (.int .i64 e)))
  have nY_ := Aside0.mk (show ((wr.setCell ⟨w.heap.size + 1 + 1 + 1 + 1, 0, none⟩ (.slice A2 l'.length c2)).setCell ⟨w.heap.size + 1 + 1 + 1 + 1, 1, none⟩ (.int .i64 e)).heap[gb]? = some (.cells #[.slice A2 l'.length c2, .int .i64 e] 44 (0, 0)) from (blk_far (blk_far KY.out (p := ⟨w.heap.size + 1 + 1 + 1 + 1, 0, none⟩) (by show _ ≠ (w.heap.size + 1 + 1 + 1 + 1); omega) (.slice A2 l'.length c2)) (p := ⟨w.heap.size + 1 + 1 + 1 + 1, 1, none⟩) (by show _ ≠ (w.heap.size + 1 + 1 + 1 + 1); omega) (.int .i64 e)))
  have nB_ := Aside0.mk (below_set (j := 1) (v := .int .i64 e) (below_set (j := 0) (v := .slice A2 l'.length c2) HB.out (show w.heap.size ≤ (w.heap.size + 1 + 1 + 1 + 1) by omega)) (show w.heap.size ≤ (w.heap.size + 1 + 1 + 1 + 1) by omega))
  clear K4 K5 KX KY HB r0 r1 r2 r3
  have K5 := n4_
  have K4 := n5_
  have KX := nX_
  have KY := nY_
  have HB := nB_
  clear n4_ n5_ nX_ nY_ nB_
  generalize ((wr.setCell ⟨w.heap.size + 1 + 1 + 1 + 1, 0, none⟩ (.slice A2 l'.length c2)).setCell ⟨w.heap.size + 1 + 1 + 1 + 1, 1, none⟩ (.int .i64 e)) = ws at *
  refine hK.out _ _ ⟨(blk_cell KX.out 0).trans rfl, (blk_cell KX.out 1).trans rfl, (blk_cell KY.out 0).trans rfl, (blk_cell KY.out 1).trans rfl⟩ (fun hHeld => ?_)
  clear hK K
  refine pure_ (i := 7) (N := some 8) (v := ?_) (a' := ?_) #[true, true, true, true, true, true, true, true] rfl rfl (by kernel_rfl) (fun _ _ _ h => h) (Or.inl ⟨by rfl, ?_⟩) ?_ ?_
  rotate_left
  · intro w'
    go_simp
    with_reducible rfl
  rotate_left
  · simp only [Act.put, List.setIfInBounds_toArray, List.set_cons_zero, List.set_cons_succ, i64_w, i32_w]
    rfl
  refine done_ (by kernel_rfl) ?_
  go_wp2
  exact bodyPost_ret (results_cct rfl _ _ (w.heap.size + 1 + 1 + 1) (w.heap.size + 1 + 1 + 1 + 1) _ _ rfl rfl (run_loadVar_row _ _ 30 _ _ (0, 0) _ K4.out Try.underlying30 rfl (by kernel_rfl)) (run_loadVar_row _ _ 44 _ _ (0, 0) _ K5.out Try.underlying44 rfl (by kernel_rfl))) rfl ⟨_, _, rfl, HSa.out, HSb.out, HB.out⟩
set_option maxHeartbeats 4000000 in
set_option maxRecDepth 100000 in
theorem asked_2 (A B : Option Addr) (c d : Nat) (er a b e : Int) (l l' : List Int) (k : Nat) (x : List Int) (w0 w : World) (hr : Kd.C (Kd.int .u8) w0 A l.length l) (hc : l.length ≤ c) (hr2 : Kd.C (Kd.int .u8) w0 B l.length l) (hd : l.length ≤ d) (hb : Bytes l) (hm : l.length < 140737488355328) (hw : Below w0.heap.size w0 w) (hl : l.drop k = l') (hp : fixP l er a = (x, k, e)) :
    Calls Try.prog 20 #[.agg #[.slice A l.length c, .int .i64 er], .agg #[.slice B l.length d, .int .i64 er], .agg #[.int .i64 2, .int .i64 a, .int .i64 b]] w fun x w' => ∃ S R, x = .returned (.tuple #[S, R, .bool true]) ∧ Scn w0 S l' e ∧ Scn w0 R l' e ∧ Below w.heap.size w w' := by
  have HS := Aside0.mk (show Scn w0 (.agg #[.slice A l.length c, .int .i64 er]) l er from ⟨A, c, rfl, hr, hc, hb⟩)
  have HT := Aside0.mk (show Scn w0 (.agg #[.slice B l.length d, .int .i64 er]) l er from ⟨B, d, rfl, hr2, hd, hb⟩)
  have HW := Aside0.mk hw
  have HL := Aside0.mk hl
  clear hr hc hr2 hd hb hw hl
  have HP := Aside0.mk hp
  clear hp
  go_enter Try.func20, Try.ntmps20
  go_wp2_with (first | (go_at_call 28; obtain ⟨⟨q1, q2, q3, q4, q5⟩, q6⟩ := five w (.cells #[.slice A l.length c, .int .i64 er] 30) (.cells #[.slice B l.length d, .int .i64 er] 44) (.cells #[.int .i64 2, .int .i64 a, .int .i64 b] 46) (.cells #[.slice none 0 0, .int .i64 0] 30) (.cells #[.slice none 0 0, .int .i64 0] 44); refine (fix_calls HS.out (HW.out.trans (q6.mono HW.out.size)) hm a).mono ?_; rw [HP.out]; dsimp only; rw [HL.out]; clear q1; rintro x w2 ⟨V1, v', rfl, hv, ⟨A1, c1, rfl, hr1, hc1, hy1⟩, hb⟩; have K2 := Aside0.mk (blk_below (blk_below q2 hb) (below_alloc (Below.refl w2.heap.size w2) (.cells #[.slice A1 l'.length c1, .int .i64 e] 30))); have K3 := Aside0.mk (blk_below (blk_below q3 hb) (below_alloc (Below.refl w2.heap.size w2) (.cells #[.slice A1 l'.length c1, .int .i64 e] 30))); have K4 := Aside0.mk (blk_below (blk_below q4 hb) (below_alloc (Below.refl w2.heap.size w2) (.cells #[.slice A1 l'.length c1, .int .i64 e] 30))); have K5 := Aside0.mk (blk_below (blk_below q5 hb) (below_alloc (Below.refl w2.heap.size w2) (.cells #[.slice A1 l'.length c1, .int .i64 e] 30))); have KX := Aside0.mk (heap_alloc_new w2 (.cells #[.slice A1 l'.length c1, .int .i64 e] 30)); have HB := Aside0.mk (below_alloc (below_step q6 hb) (.cells #[.slice A1 l'.length c1, .int .i64 e] 30)); have hgx := blk_lt (blk_below q5 hb); have HSa := Aside0.mk (show Scn w0 (.agg #[.slice A1 l'.length c1, .int .i64 e]) l' e from ⟨A1, c1, rfl, hr1, hc1, hy1⟩); have u0 := (blk_cell K2.out 0).trans rfl; have u1 := (blk_cell K2.out 1).trans rfl; have u2 := (blk_cell K3.out 0).trans rfl; have u3 := (blk_cell K3.out 1).trans rfl; have u4 := (blk_cell K3.out 2).trans rfl; obtain ⟨bs, hbs⟩ : ∃ bs, bs = (((((w.alloc (.cells #[.slice A l.length c, .int .i64 er] 30)).alloc (.cells #[.slice B l.length d, .int .i64 er] 44)).alloc (.cells #[.int .i64 2, .int .i64 a, .int .i64 b] 46)).alloc (.cells #[.slice none 0 0, .int .i64 0] 30)).alloc (.cells #[.slice none 0 0, .int .i64 0] 44)).heap.size := ⟨_, rfl⟩; have hbs5 := blk_lt q5; rw [← hbs] at hv hbs5; clear hbs; have HV1 := Aside0.mk (Kd.R_alloc hv (.cells #[.slice A1 l'.length c1, .int .i64 e] 30)); clear hv; clear q2 q3 q4 q5 q6 hr1 hc1 hy1 hb) | (go_at_call 31; refine (rfix_calls HT.out (HW.out.trans (HB.out.mono HW.out.size)) a).mono ?_; rw [HP.out]; dsimp only; rw [HL.out]; rintro x w3 ⟨V2, v', rfl, hv2, ⟨A2, c2, rfl, hr2, hc2, hy2⟩, hb⟩; have n4_ := Aside0.mk (blk_below (blk_below K4.out hb) (below_alloc (Below.refl w3.heap.size w3) (.cells #[.slice A2 l'.length c2, .int .i64 e] 44))); have n5_ := Aside0.mk (blk_below (blk_below K5.out hb) (below_alloc (Below.refl w3.heap.size w3) (.cells #[.slice A2 l'.length c2, .int .i64 e] 44))); have nX_ := Aside0.mk (blk_below (blk_below KX.out hb) (below_alloc (Below.refl w3.heap.size w3) (.cells #[.slice A2 l'.length c2, .int .i64 e] 44))); have KY := Aside0.mk (heap_alloc_new w3 (.cells #[.slice A2 l'.length c2, .int .i64 e] 44)); have nB_ := Aside0.mk (below_alloc (below_step HB.out hb) (.cells #[.slice A2 l'.length c2, .int .i64 e] 44)); have hgy := blk_lt (blk_below KX.out hb); have HSb := Aside0.mk (show Scn w0 (.agg #[.slice A2 l'.length c2, .int .i64 e]) l' e from ⟨A2, c2, rfl, hr2, hc2, hy2⟩); have nV_ := Aside0.mk (Kd.R_alloc (Kd.R_below HV1.out hb) (.cells #[.slice A2 l'.length c2, .int .i64 e] 44)); have RV2 := Aside0.mk hv2; clear HV1 hv2; have HV1 := nV_; clear nV_; clear K2 K3 K4 K5 KX HB; have K4 := n4_; have K5 := n5_; have KX := nX_; have HB := nB_; clear n4_ n5_ nX_ nB_ hr2 hc2 hy2 hb))
  generalize w3.alloc (.cells #[.slice A2 l'.length c2, .int .i64 e] 44) = wq at *
  generalize w2.heap.size = ga at *
  generalize w3.heap.size = gb at *
  refine start_ (n := 10) (S := fun w' => w'.cell? ⟨ga, 0, none⟩ = some (.slice A1 l'.length c1) ∧ w'.cell? ⟨ga, 1, none⟩ = some (.int .i64 e) ∧ w'.cell? ⟨gb, 0, none⟩ = some (.slice A2 l'.length c2) ∧ w'.cell? ⟨gb, 1, none⟩ = some (.int .i64 e) ∧ (convert 22 9 V1).run Try.prog w' = .ok (.string (strOfNums x)) w' ∧ (convert 22 9 V2).run Try.prog w' = .ok (.string (strOfNums x)) w') (ds := []) #[false, false, false, false, false, false, false, false, false, false] (by kernel_rfl) rfl rfl ⟨(blk_cell KX.out 0).trans rfl, (blk_cell KX.out 1).trans rfl, (blk_cell KY.out 0).trans rfl, (blk_cell KY.out 1).trans rfl, conv_str (Rd.own (Kd.R_drew HV1.out)), conv_str (RV2.out.below (HW.out.trans ((below_drew1 HB.out).mono HW.out.size)))⟩ (fun hHeld => ?_)
  refine pure_ (i := 2) (N := some 108) (v := ?_) (a' := ?_) #[false, false, true, false, false, false, false, false, false, false] rfl rfl (by kernel_rfl) (fun _ _ _ h => h) (Or.inl ⟨by rfl, ?_⟩) ?_ ?_
  rotate_left
  · intro w'
    go_simp
    with_reducible rfl
  rotate_left
  · simp only [Act.put, List.setIfInBounds_toArray, List.set_cons_zero, List.set_cons_succ, i64_w, i32_w]
    rfl
  refine pure_ (i := 4) (N := some 110) (v := ?_) (a' := ?_) #[false, false, true, false, true, false, false, false, false, false] rfl rfl (by kernel_rfl) (fun _ _ _ h => h) (Or.inl ⟨by rfl, ?_⟩) ?_ ?_
  rotate_left
  · intro w'
    go_simp
    with_reducible rfl
  rotate_left
  · simp only [Act.put, List.setIfInBounds_toArray, List.set_cons_zero, List.set_cons_succ, i64_w, i32_w]
    rfl
  refine take_ (i := 0) (N := some 106) (v := ?_) (a' := ?_) #[true, false, true, false, true, false, false, false, false, false] rfl rfl (by kernel_rfl) (fun _ _ _ h => h) (Or.inl ⟨by rfl, ?_⟩) hHeld ?_ ?_
  rotate_left
  · rintro w' ⟨s0, s1, s2, s3, s4, s5⟩
    go_simp
    with_reducible rfl
  rotate_left
  · simp only [Act.put, List.setIfInBounds_toArray, List.set_cons_zero, List.set_cons_succ, i64_w, i32_w]
    rfl
  refine take_ (i := 1) (N := some 107) (v := ?_) (a' := ?_) #[true, true, true, false, true, false, false, false, false, false] rfl rfl (by kernel_rfl) (fun _ _ _ h => h) (Or.inl ⟨by rfl, ?_⟩) hHeld ?_ ?_
  rotate_left
  · rintro w' ⟨s0, s1, s2, s3, s4, s5⟩
    go_simp
    with_reducible rfl
  rotate_left
  · simp only [Act.put, List.setIfInBounds_toArray, List.set_cons_zero, List.set_cons_succ, i64_w, i32_w]
    rfl
  refine take_ (i := 3) (N := some 109) (v := ?_) (a' := ?_) #[true, true, true, true, true, false, false, false, false, false] rfl rfl (by kernel_rfl) (fun _ _ _ h => h) (Or.inl ⟨by rfl, ?_⟩) hHeld ?_ ?_
  rotate_left
  · rintro w' ⟨s0, s1, s2, s3, s4, s5⟩
    go_simp
    with_reducible rfl
  rotate_left
  · simp only [Act.put, List.setIfInBounds_toArray, List.set_cons_zero, List.set_cons_succ, i64_w, i32_w]
    rfl
  refine take_ (i := 5) (N := some 111) (v := ?_) (a' := ?_) #[true, true, true, true, true, true, false, false, false, false] rfl rfl (by kernel_rfl) (fun _ _ _ h => h) (Or.inl ⟨by rfl, ?_⟩) hHeld ?_ ?_
  rotate_left
  · rintro w' ⟨s0, s1, s2, s3, s4, s5⟩
    go_simp
    with_reducible rfl
  rotate_left
  · simp only [Act.put, List.setIfInBounds_toArray, List.set_cons_zero, List.set_cons_succ, i64_w, i32_w]
    rfl
  refine pure_ (i := 6) (N := some 112) (v := ?_) (a' := ?_) #[true, true, true, true, true, true, true, false, false, false] rfl rfl (by kernel_rfl) (fun _ _ _ h => h) (Or.inl ⟨by rfl, ?_⟩) ?_ ?_
  rotate_left
  · intro w'
    go_simp
    with_reducible rfl
  rotate_left
  · simp only [Act.put, List.setIfInBounds_toArray, List.set_cons_zero, List.set_cons_succ, i64_w, i32_w]
    rfl
  refine one_ (i := 7) (N := none) #[true, true, true, true, true, true, true, true, false, false] rfl rfl (by kernel_rfl) (by decide) (fun K hK => ?_)
  have r0 := (blk_cell K4.out 0).trans rfl
  have r1 := (blk_cell K4.out 1).trans rfl
  have r2 := blk_frozen K4.out 0
  have r3 := blk_frozen K4.out 1
  refine skip_ (w1 := ((wq.drew.setCell ⟨w.heap.size + 1 + 1 + 1, 0, none⟩ (.slice A1 l'.length c1)).setCell ⟨w.heap.size + 1 + 1 + 1, 1, none⟩ (.int .i64 e))) (by rfl) rfl ?_ ?_
  · go_simp
    try rfl
  have n4_ := Aside0.mk (show ((wq.drew.setCell ⟨w.heap.size + 1 + 1 + 1, 0, none⟩ (.slice A1 l'.length c1)).setCell ⟨w.heap.size + 1 + 1 + 1, 1, none⟩ (.int .i64 e)).heap[w.heap.size + 1 + 1 + 1]? = some (.cells #[.slice A1 l'.length c1, .int .i64 e] 30 (0, 0)) from blk_put (blk_put (w := wq.drew) K4.out 0 _ rfl) 1 _ rfl)
  have n5_ := Aside0.mk (show ((wq.drew.setCell ⟨w.heap.size + 1 + 1 + 1, 0, none⟩ (.slice A1 l'.length c1)).setCell ⟨w.heap.size + 1 + 1 + 1, 1, none⟩ (.int .i64 e)).heap[w.heap.size + 1 + 1 + 1 + 1]? = some (.cells #[.slice none 0 0, .int .i64 0] 44 (0, 0)) from (blk_far (blk_far K5.out (p := ⟨w.heap.size + 1 + 1 + 1, 0, none⟩) (by show _ ≠ (w.heap.size + 1 + 1 + 1); omega) (.slice A1 l'.length c1)) (p := ⟨w.heap.size + 1 + 1 + 1, 1, none⟩) (by show _ ≠ (w.heap.size + 1 + 1 + 1); omega) (.int .i64 e)))
  have nX_ := Aside0.mk (show ((wq.drew.setCell ⟨w.heap.size + 1 + 1 + 1, 0, none⟩ (.slice A1 l'.length c1)).setCell ⟨w.heap.size + 1 + 1 + 1, 1, none⟩ (.int .i64 e)).heap[ga]? = some (.cells #[.slice A1 l'.length c1, .int .i64 e] 30 (0, 0)) from (blk_far (blk_far KX.out (p := ⟨w.heap.size + 1 + 1 + 1, 0, none⟩) (by show _ ≠ (w.heap.size + 1 + 1 + 1); omega) (.slice A1 l'.length c1)) (p := ⟨w.heap.size + 1 + 1 + 1, 1, none⟩) (by show _ ≠ (w.heap.size + 1 + 1 + 1); omega) (.int .i64 e)))
  have nY_ := Aside0.mk (show ((wq.drew.setCell ⟨w.heap.size + 1 + 1 + 1, 0, none⟩ (.slice A1 l'.length c1)).setCell ⟨w.heap.size + 1 + 1 + 1, 1, none⟩ (.int .i64 e)).heap[gb]? = some (.cells #[.slice A2 l'.length c2, .int .i64 e] 44 (0, 0)) from (blk_far (blk_far KY.out (p := ⟨w.heap.size + 1 + 1 + 1, 0, none⟩) (by show _ ≠ (w.heap.size + 1 + 1 + 1); omega) (.slice A1 l'.length c1)) (p := ⟨w.heap.size + 1 + 1 + 1, 1, none⟩) (by show _ ≠ (w.heap.size + 1 + 1 + 1); omega) (.int .i64 e)))
  have nB_ := Aside0.mk (below_set (j := 1) (v := .int .i64 e) (below_set (j := 0) (v := .slice A1 l'.length c1) (below_drew1 HB.out) (show w.heap.size ≤ (w.heap.size + 1 + 1 + 1) by omega)) (show w.heap.size ≤ (w.heap.size + 1 + 1 + 1) by omega))
  have nH_ := Aside0.mk (R_set_low (R_set_low (Kd.R_drew HV1.out) (p := ⟨w.heap.size + 1 + 1 + 1, 0, none⟩) (by show (w.heap.size + 1 + 1 + 1) < bs; omega) (.slice A1 l'.length c1)) (p := ⟨w.heap.size + 1 + 1 + 1, 1, none⟩) (by show (w.heap.size + 1 + 1 + 1) < bs; omega) (.int .i64 e))
  clear HV1
  have HV1 := nH_
  clear nH_
  clear K4 K5 KX KY HB r0 r1 r2 r3
  have K4 := n4_
  have K5 := n5_
  have KX := nX_
  have KY := nY_
  have HB := nB_
  clear n4_ n5_ nX_ nY_ nB_
  generalize ((wq.drew.setCell ⟨w.heap.size + 1 + 1 + 1, 0, none⟩ (.slice A1 l'.length c1)).setCell ⟨w.heap.size + 1 + 1 + 1, 1, none⟩ (.int .i64 e)) = wr at *
  refine hK.out _ _ ⟨(blk_cell KX.out 0).trans rfl, (blk_cell KX.out 1).trans rfl, (blk_cell KY.out 0).trans rfl, (blk_cell KY.out 1).trans rfl, conv_str (Rd.own HV1.out), conv_str (RV2.out.below (HW.out.trans (HB.out.mono HW.out.size)))⟩ (fun hHeld => ?_)
  clear hK K
  refine one_ (i := 8) (N := none) #[true, true, true, true, true, true, true, true, true, false] rfl rfl (by kernel_rfl) (by decide) (fun K hK => ?_)
  have r0 := (blk_cell K5.out 0).trans rfl
  have r1 := (blk_cell K5.out 1).trans rfl
  have r2 := blk_frozen K5.out 0
  have r3 := blk_frozen K5.out 1
  refine skip_ (w1 := ((wr.setCell ⟨w.heap.size + 1 + 1 + 1 + 1, 0, none⟩ (.slice A2 l'.length c2)).setCell ⟨w.heap.size + 1 + 1 + 1 + 1, 1, none⟩ (.int .i64 e))) (by rfl) rfl ?_ ?_
  · go_simp
    try rfl
  have n4_ := Aside0.mk (show ((wr.setCell ⟨w.heap.size + 1 + 1 + 1 + 1, 0, none⟩ (.slice A2 l'.length c2)).setCell ⟨w.heap.size + 1 + 1 + 1 + 1, 1, none⟩ (.int .i64 e)).heap[w.heap.size + 1 + 1 + 1 + 1]? = some (.cells #[.slice A2 l'.length c2, .int .i64 e] 44 (0, 0)) from blk_put (blk_put (w := wr) K5.out 0 _ rfl) 1 _ rfl)
  have n5_ := Aside0.mk (show ((wr.setCell ⟨w.heap.size + 1 + 1 + 1 + 1, 0, none⟩ (.slice A2 l'.length c2)).setCell ⟨w.heap.size + 1 + 1 + 1 + 1, 1, none⟩ (.int .i64 e)).heap[w.heap.size + 1 + 1 + 1]? = some (.cells #[.slice A1 l'.length c1, .int .i64 e] 30 (0, 0)) from (blk_far (blk_far K4.out (p := ⟨w.heap.size + 1 + 1 + 1 + 1, 0, none⟩) (by show _ ≠ (w.heap.size + 1 + 1 + 1 + 1); omega) (.slice A2 l'.length c2)) (p := ⟨w.heap.size + 1 + 1 + 1 + 1, 1, none⟩) (by show _ ≠ (w.heap.size + 1 + 1 + 1 + 1); omega) (.int .i64 e)))
  have nX_ := Aside0.mk (show ((wr.setCell ⟨w.heap.size + 1 + 1 + 1 + 1, 0, none⟩ (.slice A2 l'.length c2)).setCell ⟨w.heap.size + 1 + 1 + 1 + 1, 1, none⟩ (.int .i64 e)).heap[ga]? = some (.cells #[.slice A1 l'.length c1, .int .i64 e] 30 (0, 0)) from (blk_far (blk_far KX.out (p := ⟨w.heap.size + 1 + 1 + 1 + 1, 0, none⟩) (by show _ ≠ (w.heap.size + 1 + 1 + 1 + 1); omega) (.slice A2 l'.length c2)) (p := ⟨w.heap.size + 1 + 1 + 1 + 1, 1, none⟩) (by show _ ≠ (w.heap.size + 1 + 1 + 1 + 1); omega) (.int .i64 e)))
  have nY_ := Aside0.mk (show ((wr.setCell ⟨w.heap.size + 1 + 1 + 1 + 1, 0, none⟩ (.slice A2 l'.length c2)).setCell ⟨w.heap.size + 1 + 1 + 1 + 1, 1, none⟩ (.int .i64 e)).heap[gb]? = some (.cells #[.slice A2 l'.length c2, .int .i64 e] 44 (0, 0)) from (blk_far (blk_far KY.out (p := ⟨w.heap.size + 1 + 1 + 1 + 1, 0, none⟩) (by show _ ≠ (w.heap.size + 1 + 1 + 1 + 1); omega) (.slice A2 l'.length c2)) (p := ⟨w.heap.size + 1 + 1 + 1 + 1, 1, none⟩) (by show _ ≠ (w.heap.size + 1 + 1 + 1 + 1); omega) (.int .i64 e)))
  have nB_ := Aside0.mk (below_set (j := 1) (v := .int .i64 e) (below_set (j := 0) (v := .slice A2 l'.length c2) HB.out (show w.heap.size ≤ (w.heap.size + 1 + 1 + 1 + 1) by omega)) (show w.heap.size ≤ (w.heap.size + 1 + 1 + 1 + 1) by omega))
  have nH_ := Aside0.mk (R_set_low (R_set_low HV1.out (p := ⟨w.heap.size + 1 + 1 + 1 + 1, 0, none⟩) (by show (w.heap.size + 1 + 1 + 1 + 1) < bs; omega) (.slice A2 l'.length c2)) (p := ⟨w.heap.size + 1 + 1 + 1 + 1, 1, none⟩) (by show (w.heap.size + 1 + 1 + 1 + 1) < bs; omega) (.int .i64 e))
  clear HV1
  have HV1 := nH_
  clear nH_
  clear K4 K5 KX KY HB r0 r1 r2 r3
  have K5 := n4_
  have K4 := n5_
  have KX := nX_
  have KY := nY_
  have HB := nB_
  clear n4_ n5_ nX_ nY_ nB_
  generalize ((wr.setCell ⟨w.heap.size + 1 + 1 + 1 + 1, 0, none⟩ (.slice A2 l'.length c2)).setCell ⟨w.heap.size + 1 + 1 + 1 + 1, 1, none⟩ (.int .i64 e)) = ws at *
  refine hK.out _ _ ⟨(blk_cell KX.out 0).trans rfl, (blk_cell KX.out 1).trans rfl, (blk_cell KY.out 0).trans rfl, (blk_cell KY.out 1).trans rfl, conv_str (Rd.own HV1.out), conv_str (RV2.out.below (HW.out.trans (HB.out.mono HW.out.size)))⟩ (fun hHeld => ?_)
  clear hK K
  refine pure_ (i := 9) (N := some 8) (v := ?_) (a' := ?_) #[true, true, true, true, true, true, true, true, true, true] rfl rfl (by kernel_rfl) (fun _ _ _ h => h) (Or.inl ⟨by rfl, ?_⟩) ?_ ?_
  rotate_left
  · intro w'
    go_simp
    with_reducible rfl
  rotate_left
  · simp only [Act.put, List.setIfInBounds_toArray, List.set_cons_zero, List.set_cons_succ, i64_w, i32_w]
    rfl
  refine done_ (by kernel_rfl) ?_
  go_wp2
  exact bodyPost_ret (results_cct rfl _ _ (w.heap.size + 1 + 1 + 1) (w.heap.size + 1 + 1 + 1 + 1) _ _ rfl rfl (run_loadVar_row _ _ 30 _ _ (0, 0) _ K4.out Try.underlying30 rfl (by kernel_rfl)) (run_loadVar_row _ _ 44 _ _ (0, 0) _ K5.out Try.underlying44 rfl (by kernel_rfl))) rfl ⟨_, _, rfl, HSa.out, HSb.out, HB.out⟩
set_option maxHeartbeats 4000000 in
set_option maxRecDepth 100000 in
theorem asked_5 (A B : Option Addr) (c d : Nat) (er a b kind : Int) (l l' : List Int) (w0 w : World) (hr : Kd.C (Kd.int .u8) w0 A l.length l) (hc : l.length ≤ c) (hr2 : Kd.C (Kd.int .u8) w0 B l.length l) (hd : l.length ≤ d) (hb : Bytes l) (_hm : l.length < 140737488355328) (hw : Below w0.heap.size w0 w) (hl : l = l') (k0 : kind ≠ 0) (k1 : kind ≠ 1) (k2 : kind ≠ 2) (k3 : kind ≠ 3) (k4 : kind ≠ 4) :
    Calls Try.prog 20 #[.agg #[.slice A l.length c, .int .i64 er], .agg #[.slice B l.length d, .int .i64 er], .agg #[.int .i64 kind, .int .i64 a, .int .i64 b]] w fun x w' => ∃ S R, x = .returned (.tuple #[S, R, .bool true]) ∧ Scn w0 S l' er ∧ Scn w0 R l' er ∧ Below w.heap.size w w' := by
  have HS := Aside0.mk (show Scn w0 (.agg #[.slice A l.length c, .int .i64 er]) l er from ⟨A, c, rfl, hr, hc, hb⟩)
  have HT := Aside0.mk (show Scn w0 (.agg #[.slice B l.length d, .int .i64 er]) l er from ⟨B, d, rfl, hr2, hd, hb⟩)
  have HW := Aside0.mk hw
  have HL := Aside0.mk hl
  clear hr hc hr2 hd hb hw hl
  have kb0 : (kind == 0) = false := beq_eq_false_iff_ne.mpr k0
  have kb1 : (kind == 1) = false := beq_eq_false_iff_ne.mpr k1
  have kb2 : (kind == 2) = false := beq_eq_false_iff_ne.mpr k2
  have kb3 : (kind == 3) = false := beq_eq_false_iff_ne.mpr k3
  have kb4 : (kind == 4) = false := beq_eq_false_iff_ne.mpr k4
  have HSa := HS
  have HSb := HT
  obtain rfl := HL.out
  obtain ⟨l', hl'⟩ : ∃ l', l' = l := ⟨_, rfl⟩
  rw [← hl'] at HSa HSb HS HT ⊢
  clear hl' HL _hm
  clear k0 k1 k2 k3 k4
  go_enter Try.func20, Try.ntmps20
  go_wp2
  obtain ⟨⟨q1, q2, q3, q4, q5⟩, q6⟩ := five w (.cells #[.slice A l'.length c, .int .i64 er] 30) (.cells #[.slice B l'.length d, .int .i64 er] 44) (.cells #[.int .i64 kind, .int .i64 a, .int .i64 b] 46) (.cells #[.slice none 0 0, .int .i64 0] 30) (.cells #[.slice none 0 0, .int .i64 0] 44)
  have KX := Aside0.mk q1
  have KY := Aside0.mk q2
  have KZ := Aside0.mk q3
  have K4 := Aside0.mk q4
  have K5 := Aside0.mk q5
  have HB := Aside0.mk q6
  clear q1 q2 q3 q4 q5 q6
  generalize (((((w.alloc (.cells #[.slice A l'.length c, .int .i64 er] 30)).alloc (.cells #[.slice B l'.length d, .int .i64 er] 44)).alloc (.cells #[.int .i64 kind, .int .i64 a, .int .i64 b] 46)).alloc (.cells #[.slice none 0 0, .int .i64 0] 30)).alloc (.cells #[.slice none 0 0, .int .i64 0] 44)) = wq at *
  refine start_ (n := 5) (S := fun w' => w'.cell? ⟨w.heap.size, 0, none⟩ = some (.slice A l'.length c) ∧ w'.cell? ⟨w.heap.size, 1, none⟩ = some (.int .i64 er) ∧ w'.cell? ⟨w.heap.size + 1, 0, none⟩ = some (.slice B l'.length d) ∧ w'.cell? ⟨w.heap.size + 1, 1, none⟩ = some (.int .i64 er)) (ds := []) #[false, false, false, false, false] (by kernel_rfl) rfl rfl ⟨(blk_cell KX.out 0).trans rfl, (blk_cell KX.out 1).trans rfl, (blk_cell KY.out 0).trans rfl, (blk_cell KY.out 1).trans rfl⟩ (fun hHeld => ?_)
  refine take_ (i := 0) (N := some 143) (v := ?_) (a' := ?_) #[true, false, false, false, false] rfl rfl (by kernel_rfl) (fun _ _ _ h => h) (Or.inl ⟨by rfl, ?_⟩) hHeld ?_ ?_
  rotate_left
  · rintro w' ⟨s0, s1, s2, s3⟩
    go_simp
    with_reducible rfl
  rotate_left
  · simp only [Act.put, List.setIfInBounds_toArray, List.set_cons_zero, List.set_cons_succ, i64_w, i32_w]
    rfl
  refine take_ (i := 1) (N := some 144) (v := ?_) (a' := ?_) #[true, true, false, false, false] rfl rfl (by kernel_rfl) (fun _ _ _ h => h) (Or.inl ⟨by rfl, ?_⟩) hHeld ?_ ?_
  rotate_left
  · rintro w' ⟨s0, s1, s2, s3⟩
    go_simp
    with_reducible rfl
  rotate_left
  · simp only [Act.put, List.setIfInBounds_toArray, List.set_cons_zero, List.set_cons_succ, i64_w, i32_w]
    rfl
  refine one_ (i := 2) (N := none) #[true, true, true, false, false] rfl rfl (by kernel_rfl) (by decide) (fun K hK => ?_)
  have r0 := (blk_cell K4.out 0).trans rfl
  have r1 := (blk_cell K4.out 1).trans rfl
  have r2 := blk_frozen K4.out 0
  have r3 := blk_frozen K4.out 1
  refine skip_ (w1 := ((wq.drew.setCell ⟨w.heap.size + 1 + 1 + 1, 0, none⟩ (.slice A l'.length c)).setCell ⟨w.heap.size + 1 + 1 + 1, 1, none⟩ (.int .i64 er))) (by rfl) rfl ?_ ?_
  · go_simp
    try rfl
  have n4_ := Aside0.mk (show ((wq.drew.setCell ⟨w.heap.size + 1 + 1 + 1, 0, none⟩ (.slice A l'.length c)).setCell ⟨w.heap.size + 1 + 1 + 1, 1, none⟩ (.int .i64 er)).heap[w.heap.size + 1 + 1 + 1]? = some (.cells #[.slice A l'.length c, .int .i64 er] 30 (0, 0)) from blk_put (blk_put (w := wq.drew) K4.out 0 _ rfl) 1 _ rfl)
  have n5_ := Aside0.mk (show ((wq.drew.setCell ⟨w.heap.size + 1 + 1 + 1, 0, none⟩ (.slice A l'.length c)).setCell ⟨w.heap.size + 1 + 1 + 1, 1, none⟩ (.int .i64 er)).heap[w.heap.size + 1 + 1 + 1 + 1]? = some (.cells #[.slice none 0 0, .int .i64 0] 44 (0, 0)) from (blk_far (blk_far K5.out (p := ⟨w.heap.size + 1 + 1 + 1, 0, none⟩) (by show _ ≠ (w.heap.size + 1 + 1 + 1); omega) (.slice A l'.length c)) (p := ⟨w.heap.size + 1 + 1 + 1, 1, none⟩) (by show _ ≠ (w.heap.size + 1 + 1 + 1); omega) (.int .i64 er)))
  have nX_ := Aside0.mk (show ((wq.drew.setCell ⟨w.heap.size + 1 + 1 + 1, 0, none⟩ (.slice A l'.length c)).setCell ⟨w.heap.size + 1 + 1 + 1, 1, none⟩ (.int .i64 er)).heap[w.heap.size]? = some (.cells #[.slice A l'.length c, .int .i64 er] 30 (0, 0)) from (blk_far (blk_far KX.out (p := ⟨w.heap.size + 1 + 1 + 1, 0, none⟩) (by show _ ≠ (w.heap.size + 1 + 1 + 1); omega) (.slice A l'.length c)) (p := ⟨w.heap.size + 1 + 1 + 1, 1, none⟩) (by show _ ≠ (w.heap.size + 1 + 1 + 1); omega) (.int .i64 er)))
  have nY_ := Aside0.mk (show ((wq.drew.setCell ⟨w.heap.size + 1 + 1 + 1, 0, none⟩ (.slice A l'.length c)).setCell ⟨w.heap.size + 1 + 1 + 1, 1, none⟩ (.int .i64 er)).heap[w.heap.size + 1]? = some (.cells #[.slice B l'.length d, .int .i64 er] 44 (0, 0)) from (blk_far (blk_far KY.out (p := ⟨w.heap.size + 1 + 1 + 1, 0, none⟩) (by show _ ≠ (w.heap.size + 1 + 1 + 1); omega) (.slice A l'.length c)) (p := ⟨w.heap.size + 1 + 1 + 1, 1, none⟩) (by show _ ≠ (w.heap.size + 1 + 1 + 1); omega) (.int .i64 er)))
  have nB_ := Aside0.mk (below_set (j := 1) (v := .int .i64 er) (below_set (j := 0) (v := .slice A l'.length c) (below_drew1 HB.out) (show w.heap.size ≤ (w.heap.size + 1 + 1 + 1) by omega)) (show w.heap.size ≤ (w.heap.size + 1 + 1 + 1) by omega))
  clear K4 K5 KX KY HB r0 r1 r2 r3
  have K4 := n4_
  have K5 := n5_
  have KX := nX_
  have KY := nY_
  have HB := nB_
  clear n4_ n5_ nX_ nY_ nB_
  generalize ((wq.drew.setCell ⟨w.heap.size + 1 + 1 + 1, 0, none⟩ (.slice A l'.length c)).setCell ⟨w.heap.size + 1 + 1 + 1, 1, none⟩ (.int .i64 er)) = wr at *
  refine hK.out _ _ ⟨(blk_cell KX.out 0).trans rfl, (blk_cell KX.out 1).trans rfl, (blk_cell KY.out 0).trans rfl, (blk_cell KY.out 1).trans rfl⟩ (fun hHeld => ?_)
  clear hK K
  refine one_ (i := 3) (N := none) #[true, true, true, true, false] rfl rfl (by kernel_rfl) (by decide) (fun K hK => ?_)
  have r0 := (blk_cell K5.out 0).trans rfl
  have r1 := (blk_cell K5.out 1).trans rfl
  have r2 := blk_frozen K5.out 0
  have r3 := blk_frozen K5.out 1
  refine skip_ (w1 := ((wr.setCell ⟨w.heap.size + 1 + 1 + 1 + 1, 0, none⟩ (.slice B l'.length d)).setCell ⟨w.heap.size + 1 + 1 + 1 + 1, 1, none⟩ (.int .i64 er))) (by rfl) rfl ?_ ?_
  · go_simp
    try rfl
  have n4_ := Aside0.mk (show ((wr.setCell ⟨w.heap.size + 1 + 1 + 1 + 1, 0, none⟩ (.slice B l'.length d)).setCell ⟨w.heap.size + 1 + 1 + 1 + 1, 1, none⟩ (.int .i64 er)).heap[w.heap.size + 1 + 1 + 1 + 1]? = some (.cells #[.slice B l'.length d, .int .i64 er] 44 (0, 0)) from blk_put (blk_put (w := wr) K5.out 0 _ rfl) 1 _ rfl)
  have n5_ := Aside0.mk (show ((wr.setCell ⟨w.heap.size + 1 + 1 + 1 + 1, 0, none⟩ (.slice B l'.length d)).setCell ⟨w.heap.size + 1 + 1 + 1 + 1, 1, none⟩ (.int .i64 er)).heap[w.heap.size + 1 + 1 + 1]? = some (.cells #[.slice A l'.length c, .int .i64 er] 30 (0, 0)) from (blk_far (blk_far K4.out (p := ⟨w.heap.size + 1 + 1 + 1 + 1, 0, none⟩) (by show _ ≠ (w.heap.size + 1 + 1 + 1 + 1); omega) (.slice B l'.length d)) (p := ⟨w.heap.size + 1 + 1 + 1 + 1, 1, none⟩) (by show _ ≠ (w.heap.size + 1 + 1 + 1 + 1); omega) (.int .i64 er)))
  have nX_ := Aside0.mk (show ((wr.setCell ⟨w.heap.size + 1 + 1 + 1 + 1, 0, none⟩ (.slice B l'.length d)).setCell ⟨w.heap.size + 1 + 1 + 1 + 1, 1, none⟩ (.int .i64 er)).heap[w.heap.size]? = some (.cells #[.slice A l'.length c, .int .i64 er] 30 (0, 0)) from (blk_far (blk_far KX.out (p := ⟨w.heap.size + 1 + 1 + 1 + 1, 0, none⟩) (by show _ ≠ (w.heap.size + 1 + 1 + 1 + 1); omega) (.slice B l'.length d)) (p := ⟨w.heap.size + 1 + 1 + 1 + 1, 1, none⟩) (by show _ ≠ (w.heap.size + 1 + 1 + 1 + 1); omega) (.int .i64 er)))
  have nY_ := Aside0.mk (show ((wr.setCell ⟨w.heap.size + 1 + 1 + 1 + 1, 0, none⟩ (.slice B l'.length d)).setCell ⟨w.heap.size + 1 + 1 + 1 + 1, 1, none⟩ (.int .i64 er)).heap[w.heap.size + 1]? = some (.cells #[.slice B l'.length d, .int .i64 er] 44 (0, 0)) from (blk_far (blk_far KY.out (p := ⟨w.heap.size + 1 + 1 + 1 + 1, 0, none⟩) (by show _ ≠ (w.heap.size + 1 + 1 + 1 + 1); omega) (.slice B l'.length d)) (p := ⟨w.heap.size + 1 + 1 + 1 + 1, 1, none⟩) (by show _ ≠ (w.heap.size + 1 + 1 + 1 + 1); omega) (.int .i64 er)))
  have nB_ := Aside0.mk (below_set (j := 1) (v := .int .i64 er) (below_set (j := 0) (v := .slice B l'.length d) HB.out (show w.heap.size ≤ (w.heap.size + 1 + 1 + 1 + 1) by omega)) (show w.heap.size ≤ (w.heap.size + 1 + 1 + 1 + 1) by omega))
  clear K4 K5 KX KY HB r0 r1 r2 r3
  have K5 := n4_
  have K4 := n5_
  have KX := nX_
  have KY := nY_
  have HB := nB_
  clear n4_ n5_ nX_ nY_ nB_
  generalize ((wr.setCell ⟨w.heap.size + 1 + 1 + 1 + 1, 0, none⟩ (.slice B l'.length d)).setCell ⟨w.heap.size + 1 + 1 + 1 + 1, 1, none⟩ (.int .i64 er)) = ws at *
  refine hK.out _ _ ⟨(blk_cell KX.out 0).trans rfl, (blk_cell KX.out 1).trans rfl, (blk_cell KY.out 0).trans rfl, (blk_cell KY.out 1).trans rfl⟩ (fun hHeld => ?_)
  clear hK K
  refine pure_ (i := 4) (N := some 8) (v := ?_) (a' := ?_) #[true, true, true, true, true] rfl rfl (by kernel_rfl) (fun _ _ _ h => h) (Or.inl ⟨by rfl, ?_⟩) ?_ ?_
  rotate_left
  · intro w'
    go_simp
    with_reducible rfl
  rotate_left
  · simp only [Act.put, List.setIfInBounds_toArray, List.set_cons_zero, List.set_cons_succ, i64_w, i32_w]
    rfl
  refine done_ (by kernel_rfl) ?_
  go_wp2
  exact bodyPost_ret (results_cct rfl _ _ (w.heap.size + 1 + 1 + 1) (w.heap.size + 1 + 1 + 1 + 1) _ _ rfl rfl (run_loadVar_row _ _ 30 _ _ (0, 0) _ K4.out Try.underlying30 rfl (by kernel_rfl)) (run_loadVar_row _ _ 44 _ _ (0, 0) _ K5.out Try.underlying44 rfl (by kernel_rfl))) rfl ⟨_, _, rfl, HSa.out, HSb.out, HB.out⟩
theorem fail_callsN (A : Option Addr) (n c : Nat) (er e : Int) (w : World) (he : er ≠ 0) :
    Calls Try.prog 27 #[.agg #[.slice A n c, .int .i64 er], .int .i64 e] w fun x w' => x = .returned (.agg #[.slice A n c, .int .i64 er]) ∧ Below w.heap.size w w' := by
  have h := fail_calls A n c er e w
  rw [if_neg he] at h
  exact h
theorem Scn.errs {w : World} {A : Option Addr} {l : List Int} {c : Nat} {er : Int} (h : Scn w (.agg #[.slice A l.length c, .int .i64 er]) l er) (e : Int) : Scn w (.agg #[.slice A l.length c, .int .i64 e]) l e := by
  obtain ⟨B, d, h0, h1, h2, h3⟩ := h
  injection h0 with h0
  have h4 : Value.slice A l.length c = Value.slice B l.length d := by injection h0 with h0; injection h0
  injection h4 with h5 _ h6
  subst h5 h6
  exact ⟨A, c, rfl, h1, h2, h3⟩
set_option maxHeartbeats 4000000 in
set_option maxRecDepth 100000 in
theorem asked_4 (A B : Option Addr) (c d : Nat) (a b : Int) (l l' : List Int) (w0 w : World) (hr : Kd.C (Kd.int .u8) w0 A l.length l) (hc : l.length ≤ c) (hr2 : Kd.C (Kd.int .u8) w0 B l.length l) (hd : l.length ≤ d) (hb : Bytes l) (_hm : l.length < 140737488355328) (hw : Below w0.heap.size w0 w) (hl : l = l') :
    Calls Try.prog 20 #[.agg #[.slice A l.length c, .int .i64 0], .agg #[.slice B l.length d, .int .i64 0], .agg #[.int .i64 4, .int .i64 a, .int .i64 b]] w fun x w' => ∃ S R, x = .returned (.tuple #[S, R, .bool true]) ∧ Scn w0 S l' a ∧ Scn w0 R l' a ∧ Below w.heap.size w w' := by
  have HS := Aside0.mk (show Scn w0 (.agg #[.slice A l.length c, .int .i64 0]) l 0 from ⟨A, c, rfl, hr, hc, hb⟩)
  have HT := Aside0.mk (show Scn w0 (.agg #[.slice B l.length d, .int .i64 0]) l 0 from ⟨B, d, rfl, hr2, hd, hb⟩)
  have HW := Aside0.mk hw
  have HL := Aside0.mk hl
  clear hr hc hr2 hd hb hw hl
  obtain rfl := HL.out
  obtain ⟨l', hl'⟩ : ∃ l', l' = l := ⟨_, rfl⟩
  have HSa := Aside0.mk (show Scn w0 (.agg #[.slice A l.length c, .int .i64 a]) l a from HS.out.errs a)
  have HSb := Aside0.mk (show Scn w0 (.agg #[.slice B l.length d, .int .i64 a]) l a from HT.out.errs a)
  rw [← hl'] at HSa HSb HS HT ⊢
  clear hl' HL _hm
  go_enter Try.func20, Try.ntmps20
  go_wp2
  obtain ⟨⟨q1, q2, q3, q4, q5⟩, q6⟩ := five w (.cells #[.slice A l'.length c, .int .i64 0] 30) (.cells #[.slice B l'.length d, .int .i64 a] 44) (.cells #[.int .i64 4, .int .i64 a, .int .i64 b] 46) (.cells #[.slice none 0 0, .int .i64 0] 30) (.cells #[.slice none 0 0, .int .i64 0] 44)
  have KX := Aside0.mk q1
  have KY := Aside0.mk q2
  have KZ := Aside0.mk q3
  have K4 := Aside0.mk q4
  have K5 := Aside0.mk q5
  have HB := Aside0.mk q6
  clear q1 q2 q3 q4 q5 q6
  generalize (((((w.alloc (.cells #[.slice A l'.length c, .int .i64 0] 30)).alloc (.cells #[.slice B l'.length d, .int .i64 a] 44)).alloc (.cells #[.int .i64 4, .int .i64 a, .int .i64 b] 46)).alloc (.cells #[.slice none 0 0, .int .i64 0] 30)).alloc (.cells #[.slice none 0 0, .int .i64 0] 44)) = wq at *
  refine start_ (n := 8) (S := fun w' => w'.cell? ⟨w.heap.size, 0, none⟩ = some (.slice A l'.length c) ∧ w'.cell? ⟨w.heap.size, 1, none⟩ = some (.int .i64 0) ∧ w'.cell? ⟨w.heap.size + 1, 0, none⟩ = some (.slice B l'.length d) ∧ w'.cell? ⟨w.heap.size + 1, 1, none⟩ = some (.int .i64 a) ∧ w'.cell? ⟨w.heap.size + 1 + 1, 1, none⟩ = some (.int .i64 a)) (ds := []) #[false, false, false, false, false, false, false, false] (by kernel_rfl) rfl rfl ⟨(blk_cell KX.out 0).trans rfl, (blk_cell KX.out 1).trans rfl, (blk_cell KY.out 0).trans rfl, (blk_cell KY.out 1).trans rfl, (blk_cell KZ.out 1).trans rfl⟩ (fun hHeld => ?_)
  refine pure_ (i := 1) (N := some 139) (v := ?_) (a' := ?_) #[false, true, false, false, false, false, false, false] rfl rfl (by kernel_rfl) (fun _ _ _ h => h) (Or.inl ⟨by rfl, ?_⟩) ?_ ?_
  rotate_left
  · intro w'
    go_simp
    with_reducible rfl
  rotate_left
  · simp only [Act.put, List.setIfInBounds_toArray, List.set_cons_zero, List.set_cons_succ, i64_w, i32_w]
    rfl
  refine take_ (i := 0) (N := some 138) (v := ?_) (a' := ?_) #[true, true, false, false, false, false, false, false] rfl rfl (by kernel_rfl) (fun _ _ _ h => h) (Or.inl ⟨by rfl, ?_⟩) hHeld ?_ ?_
  rotate_left
  · rintro w' ⟨s0, s1, s2, s3, s4⟩
    go_simp
    with_reducible rfl
  rotate_left
  · simp only [Act.put, List.setIfInBounds_toArray, List.set_cons_zero, List.set_cons_succ, i64_w, i32_w]
    rfl
  refine take_ (i := 2) (N := some 140) (v := ?_) (a' := ?_) #[true, true, true, false, false, false, false, false] rfl rfl (by kernel_rfl) (fun _ _ _ h => h) (Or.inl ⟨by rfl, ?_⟩) hHeld ?_ ?_
  rotate_left
  · rintro w' ⟨s0, s1, s2, s3, s4⟩
    go_simp
    with_reducible rfl
  rotate_left
  · simp only [Act.put, List.setIfInBounds_toArray, List.set_cons_zero, List.set_cons_succ, i64_w, i32_w]
    rfl
  refine take_ (i := 4) (N := some 142) (v := ?_) (a' := ?_) #[true, true, true, false, true, false, false, false] rfl rfl (by kernel_rfl) (fun _ _ _ h => h) (Or.inl ⟨by rfl, ?_⟩) hHeld ?_ ?_
  rotate_left
  · rintro w' ⟨s0, s1, s2, s3, s4⟩
    go_simp
    with_reducible rfl
  rotate_left
  · simp only [Act.put, List.setIfInBounds_toArray, List.set_cons_zero, List.set_cons_succ, i64_w, i32_w]
    rfl
  refine one_ (i := 3) (N := some 141) #[true, true, true, true, true, false, false, false] rfl rfl (by kernel_rfl) (by decide) (fun K hK => ?_)
  refine goes_ Try.func27 (by kernel_rfl) rfl #[.agg #[.slice A l'.length c, .int .i64 0], .int .i64 a] (by rfl) rfl rfl (by simp only [List.map_toArray, List.map_cons, List.map_nil]; rfl) ?_
  with_reducible refine (fail_calls0 A l'.length c a _).mono ?_
  rintro x wz ⟨rfl, hb⟩
  refine ⟨_, rfl, ?_⟩
  have nX_ := Aside0.mk (blk_below (w := wq.drew) KX.out hb)
  have nY_ := Aside0.mk (blk_below (w := wq.drew) KY.out hb)
  have nZ_ := Aside0.mk (blk_below (w := wq.drew) KZ.out hb)
  have n4_ := Aside0.mk (blk_below (w := wq.drew) K4.out hb)
  have n5_ := Aside0.mk (blk_below (w := wq.drew) K5.out hb)
  have nB_ := Aside0.mk (below_step (below_drew1 HB.out) hb)
  clear KX KY KZ K4 K5 HB hb
  have KX := nX_
  have KY := nY_
  have KZ := nZ_
  have K4 := n4_
  have K5 := n5_
  have HB := nB_
  clear nX_ nY_ nZ_ n4_ n5_ nB_
  refine hK.out _ _ ⟨(blk_cell KX.out 0).trans rfl, (blk_cell KX.out 1).trans rfl, (blk_cell KY.out 0).trans rfl, (blk_cell KY.out 1).trans rfl, (blk_cell KZ.out 1).trans rfl⟩ (fun hHeld => ?_)
  clear hK K
  refine norm_ (a' := ?_) ?_ ?_
  rotate_left
  · show Act.put _ (some 141) _ = _
    simp only [Act.put, List.setIfInBounds_toArray, List.set_cons_zero, List.set_cons_succ, i64_w, i32_w]
    rfl
  refine one_ (i := 5) (N := none) #[true, true, true, true, true, true, false, false] rfl rfl (by kernel_rfl) (by decide) (fun K hK => ?_)
  have r0 := (blk_cell K4.out 0).trans rfl
  have r1 := (blk_cell K4.out 1).trans rfl
  have r2 := blk_frozen K4.out 0
  have r3 := blk_frozen K4.out 1
  refine skip_ (w1 := ((wz.setCell ⟨w.heap.size + 1 + 1 + 1, 0, none⟩ (.slice A l'.length c)).setCell ⟨w.heap.size + 1 + 1 + 1, 1, none⟩ (.int .i64 a))) (by rfl) rfl ?_ ?_
  · go_simp
    try rfl
  have n4_ := Aside0.mk (show ((wz.setCell ⟨w.heap.size + 1 + 1 + 1, 0, none⟩ (.slice A l'.length c)).setCell ⟨w.heap.size + 1 + 1 + 1, 1, none⟩ (.int .i64 a)).heap[w.heap.size + 1 + 1 + 1]? = some (.cells #[.slice A l'.length c, .int .i64 a] 30 (0, 0)) from blk_put (blk_put (w := wz) K4.out 0 _ rfl) 1 _ rfl)
  have n5_ := Aside0.mk (show ((wz.setCell ⟨w.heap.size + 1 + 1 + 1, 0, none⟩ (.slice A l'.length c)).setCell ⟨w.heap.size + 1 + 1 + 1, 1, none⟩ (.int .i64 a)).heap[w.heap.size + 1 + 1 + 1 + 1]? = some (.cells #[.slice none 0 0, .int .i64 0] 44 (0, 0)) from (blk_far (blk_far K5.out (p := ⟨w.heap.size + 1 + 1 + 1, 0, none⟩) (by show _ ≠ (w.heap.size + 1 + 1 + 1); omega) (.slice A l'.length c)) (p := ⟨w.heap.size + 1 + 1 + 1, 1, none⟩) (by show _ ≠ (w.heap.size + 1 + 1 + 1); omega) (.int .i64 a)))
  have nX_ := Aside0.mk (show ((wz.setCell ⟨w.heap.size + 1 + 1 + 1, 0, none⟩ (.slice A l'.length c)).setCell ⟨w.heap.size + 1 + 1 + 1, 1, none⟩ (.int .i64 a)).heap[w.heap.size]? = some (.cells #[.slice A l'.length c, .int .i64 0] 30 (0, 0)) from (blk_far (blk_far KX.out (p := ⟨w.heap.size + 1 + 1 + 1, 0, none⟩) (by show _ ≠ (w.heap.size + 1 + 1 + 1); omega) (.slice A l'.length c)) (p := ⟨w.heap.size + 1 + 1 + 1, 1, none⟩) (by show _ ≠ (w.heap.size + 1 + 1 + 1); omega) (.int .i64 a)))
  have nY_ := Aside0.mk (show ((wz.setCell ⟨w.heap.size + 1 + 1 + 1, 0, none⟩ (.slice A l'.length c)).setCell ⟨w.heap.size + 1 + 1 + 1, 1, none⟩ (.int .i64 a)).heap[w.heap.size + 1]? = some (.cells #[.slice B l'.length d, .int .i64 a] 44 (0, 0)) from (blk_far (blk_far KY.out (p := ⟨w.heap.size + 1 + 1 + 1, 0, none⟩) (by show _ ≠ (w.heap.size + 1 + 1 + 1); omega) (.slice A l'.length c)) (p := ⟨w.heap.size + 1 + 1 + 1, 1, none⟩) (by show _ ≠ (w.heap.size + 1 + 1 + 1); omega) (.int .i64 a)))
  have nB_ := Aside0.mk (below_set (j := 1) (v := .int .i64 a) (below_set (j := 0) (v := .slice A l'.length c) HB.out (show w.heap.size ≤ (w.heap.size + 1 + 1 + 1) by omega)) (show w.heap.size ≤ (w.heap.size + 1 + 1 + 1) by omega))
  have nk_ := Aside0.mk (show ((wz.setCell ⟨w.heap.size + 1 + 1 + 1, 0, none⟩ (.slice A l'.length c)).setCell ⟨w.heap.size + 1 + 1 + 1, 1, none⟩ (.int .i64 a)).heap[w.heap.size + 1 + 1]? = some (.cells #[.int .i64 4, .int .i64 a, .int .i64 b] 46 (0, 0)) from (blk_far (blk_far KZ.out (p := ⟨w.heap.size + 1 + 1 + 1, 0, none⟩) (by show _ ≠ (w.heap.size + 1 + 1 + 1); omega) (.slice A l'.length c)) (p := ⟨w.heap.size + 1 + 1 + 1, 1, none⟩) (by show _ ≠ (w.heap.size + 1 + 1 + 1); omega) (.int .i64 a)))
  clear KZ
  have KZ := nk_
  clear nk_
  clear K4 K5 KX KY HB r0 r1 r2 r3
  have K4 := n4_
  have K5 := n5_
  have KX := nX_
  have KY := nY_
  have HB := nB_
  clear n4_ n5_ nX_ nY_ nB_
  generalize ((wz.setCell ⟨w.heap.size + 1 + 1 + 1, 0, none⟩ (.slice A l'.length c)).setCell ⟨w.heap.size + 1 + 1 + 1, 1, none⟩ (.int .i64 a)) = wr at *
  refine hK.out _ _ ⟨(blk_cell KX.out 0).trans rfl, (blk_cell KX.out 1).trans rfl, (blk_cell KY.out 0).trans rfl, (blk_cell KY.out 1).trans rfl, (blk_cell KZ.out 1).trans rfl⟩ (fun hHeld => ?_)
  clear hK K
  refine one_ (i := 6) (N := none) #[true, true, true, true, true, true, true, false] rfl rfl (by kernel_rfl) (by decide) (fun K hK => ?_)
  have r0 := (blk_cell K5.out 0).trans rfl
  have r1 := (blk_cell K5.out 1).trans rfl
  have r2 := blk_frozen K5.out 0
  have r3 := blk_frozen K5.out 1
  refine skip_ (w1 := ((wr.setCell ⟨w.heap.size + 1 + 1 + 1 + 1, 0, none⟩ (.slice B l'.length d)).setCell ⟨w.heap.size + 1 + 1 + 1 + 1, 1, none⟩ (.int .i64 a))) (by rfl) rfl ?_ ?_
  · go_simp
    try rfl
  have n4_ := Aside0.mk (show ((wr.setCell ⟨w.heap.size + 1 + 1 + 1 + 1, 0, none⟩ (.slice B l'.length d)).setCell ⟨w.heap.size + 1 + 1 + 1 + 1, 1, none⟩ (.int .i64 a)).heap[w.heap.size + 1 + 1 + 1 + 1]? = some (.cells #[.slice B l'.length d, .int .i64 a] 44 (0, 0)) from blk_put (blk_put (w := wr) K5.out 0 _ rfl) 1 _ rfl)
  have n5_ := Aside0.mk (show ((wr.setCell ⟨w.heap.size + 1 + 1 + 1 + 1, 0, none⟩ (.slice B l'.length d)).setCell ⟨w.heap.size + 1 + 1 + 1 + 1, 1, none⟩ (.int .i64 a)).heap[w.heap.size + 1 + 1 + 1]? = some (.cells #[.slice A l'.length c, .int .i64 a] 30 (0, 0)) from (blk_far (blk_far K4.out (p := ⟨w.heap.size + 1 + 1 + 1 + 1, 0, none⟩) (by show _ ≠ (w.heap.size + 1 + 1 + 1 + 1); omega) (.slice B l'.length d)) (p := ⟨w.heap.size + 1 + 1 + 1 + 1, 1, none⟩) (by show _ ≠ (w.heap.size + 1 + 1 + 1 + 1); omega) (.int .i64 a)))
  have nX_ := Aside0.mk (show ((wr.setCell ⟨w.heap.size + 1 + 1 + 1 + 1, 0, none⟩ (.slice B l'.length d)).setCell ⟨w.heap.size + 1 + 1 + 1 + 1, 1, none⟩ (.int .i64 a)).heap[w.heap.size]? = some (.cells #[.slice A l'.length c, .int .i64 0] 30 (0, 0)) from (blk_far (blk_far KX.out (p := ⟨w.heap.size + 1 + 1 + 1 + 1, 0, none⟩) (by show _ ≠ (w.heap.size + 1 + 1 + 1 + 1); omega) (.slice B l'.length d)) (p := ⟨w.heap.size + 1 + 1 + 1 + 1, 1, none⟩) (by show _ ≠ (w.heap.size + 1 + 1 + 1 + 1); omega) (.int .i64 a)))
  have nY_ := Aside0.mk (show ((wr.setCell ⟨w.heap.size + 1 + 1 + 1 + 1, 0, none⟩ (.slice B l'.length d)).setCell ⟨w.heap.size + 1 + 1 + 1 + 1, 1, none⟩ (.int .i64 a)).heap[w.heap.size + 1]? = some (.cells #[.slice B l'.length d, .int .i64 a] 44 (0, 0)) from (blk_far (blk_far KY.out (p := ⟨w.heap.size + 1 + 1 + 1 + 1, 0, none⟩) (by show _ ≠ (w.heap.size + 1 + 1 + 1 + 1); omega) (.slice B l'.length d)) (p := ⟨w.heap.size + 1 + 1 + 1 + 1, 1, none⟩) (by show _ ≠ (w.heap.size + 1 + 1 + 1 + 1); omega) (.int .i64 a)))
  have nB_ := Aside0.mk (below_set (j := 1) (v := .int .i64 a) (below_set (j := 0) (v := .slice B l'.length d) HB.out (show w.heap.size ≤ (w.heap.size + 1 + 1 + 1 + 1) by omega)) (show w.heap.size ≤ (w.heap.size + 1 + 1 + 1 + 1) by omega))
  have nk_ := Aside0.mk (show ((wr.setCell ⟨w.heap.size + 1 + 1 + 1 + 1, 0, none⟩ (.slice B l'.length d)).setCell ⟨w.heap.size + 1 + 1 + 1 + 1, 1, none⟩ (.int .i64 a)).heap[w.heap.size + 1 + 1]? = some (.cells #[.int .i64 4, .int .i64 a, .int .i64 b] 46 (0, 0)) from (blk_far (blk_far KZ.out (p := ⟨w.heap.size + 1 + 1 + 1 + 1, 0, none⟩) (by show _ ≠ (w.heap.size + 1 + 1 + 1 + 1); omega) (.slice B l'.length d)) (p := ⟨w.heap.size + 1 + 1 + 1 + 1, 1, none⟩) (by show _ ≠ (w.heap.size + 1 + 1 + 1 + 1); omega) (.int .i64 a)))
  clear KZ
  have KZ := nk_
  clear nk_
  clear K4 K5 KX KY HB r0 r1 r2 r3
  have K5 := n4_
  have K4 := n5_
  have KX := nX_
  have KY := nY_
  have HB := nB_
  clear n4_ n5_ nX_ nY_ nB_
  generalize ((wr.setCell ⟨w.heap.size + 1 + 1 + 1 + 1, 0, none⟩ (.slice B l'.length d)).setCell ⟨w.heap.size + 1 + 1 + 1 + 1, 1, none⟩ (.int .i64 a)) = ws at *
  refine hK.out _ _ ⟨(blk_cell KX.out 0).trans rfl, (blk_cell KX.out 1).trans rfl, (blk_cell KY.out 0).trans rfl, (blk_cell KY.out 1).trans rfl, (blk_cell KZ.out 1).trans rfl⟩ (fun hHeld => ?_)
  clear hK K
  refine pure_ (i := 7) (N := some 8) (v := ?_) (a' := ?_) #[true, true, true, true, true, true, true, true] rfl rfl (by kernel_rfl) (fun _ _ _ h => h) (Or.inl ⟨by rfl, ?_⟩) ?_ ?_
  rotate_left
  · intro w'
    go_simp
    with_reducible rfl
  rotate_left
  · simp only [Act.put, List.setIfInBounds_toArray, List.set_cons_zero, List.set_cons_succ, i64_w, i32_w]
    rfl
  refine done_ (by kernel_rfl) ?_
  go_wp2
  exact bodyPost_ret (results_cct rfl _ _ (w.heap.size + 1 + 1 + 1) (w.heap.size + 1 + 1 + 1 + 1) _ _ rfl rfl (run_loadVar_row _ _ 30 _ _ (0, 0) _ K4.out Try.underlying30 rfl (by kernel_rfl)) (run_loadVar_row _ _ 44 _ _ (0, 0) _ K5.out Try.underlying44 rfl (by kernel_rfl))) rfl ⟨_, _, rfl, HSa.out, HSb.out, HB.out⟩
set_option maxHeartbeats 4000000 in
set_option maxRecDepth 100000 in
theorem asked_4n (A B : Option Addr) (c d : Nat) (er a b : Int) (l l' : List Int) (w0 w : World) (hr : Kd.C (Kd.int .u8) w0 A l.length l) (hc : l.length ≤ c) (hr2 : Kd.C (Kd.int .u8) w0 B l.length l) (hd : l.length ≤ d) (hb : Bytes l) (_hm : l.length < 140737488355328) (hw : Below w0.heap.size w0 w) (hl : l = l') (he : er ≠ 0) :
    Calls Try.prog 20 #[.agg #[.slice A l.length c, .int .i64 er], .agg #[.slice B l.length d, .int .i64 er], .agg #[.int .i64 4, .int .i64 a, .int .i64 b]] w fun x w' => ∃ S R, x = .returned (.tuple #[S, R, .bool true]) ∧ Scn w0 S l' er ∧ Scn w0 R l' er ∧ Below w.heap.size w w' := by
  have HS := Aside0.mk (show Scn w0 (.agg #[.slice A l.length c, .int .i64 er]) l er from ⟨A, c, rfl, hr, hc, hb⟩)
  have HT := Aside0.mk (show Scn w0 (.agg #[.slice B l.length d, .int .i64 er]) l er from ⟨B, d, rfl, hr2, hd, hb⟩)
  have HW := Aside0.mk hw
  have HL := Aside0.mk hl
  clear hr hc hr2 hd hb hw hl
  have heb : (er == 0) = false := beq_eq_false_iff_ne.mpr he
  obtain rfl := HL.out
  obtain ⟨l', hl'⟩ : ∃ l', l' = l := ⟨_, rfl⟩
  have HSa := Aside0.mk (show Scn w0 (.agg #[.slice A l.length c, .int .i64 er]) l er from HS.out.errs er)
  have HSb := Aside0.mk (show Scn w0 (.agg #[.slice B l.length d, .int .i64 er]) l er from HT.out.errs er)
  rw [← hl'] at HSa HSb HS HT ⊢
  clear hl' HL _hm
  go_enter Try.func20, Try.ntmps20
  go_wp2
  obtain ⟨⟨q1, q2, q3, q4, q5⟩, q6⟩ := five w (.cells #[.slice A l'.length c, .int .i64 er] 30) (.cells #[.slice B l'.length d, .int .i64 er] 44) (.cells #[.int .i64 4, .int .i64 a, .int .i64 b] 46) (.cells #[.slice none 0 0, .int .i64 0] 30) (.cells #[.slice none 0 0, .int .i64 0] 44)
  have KX := Aside0.mk q1
  have KY := Aside0.mk q2
  have KZ := Aside0.mk q3
  have K4 := Aside0.mk q4
  have K5 := Aside0.mk q5
  have HB := Aside0.mk q6
  clear q1 q2 q3 q4 q5 q6
  generalize (((((w.alloc (.cells #[.slice A l'.length c, .int .i64 er] 30)).alloc (.cells #[.slice B l'.length d, .int .i64 er] 44)).alloc (.cells #[.int .i64 4, .int .i64 a, .int .i64 b] 46)).alloc (.cells #[.slice none 0 0, .int .i64 0] 30)).alloc (.cells #[.slice none 0 0, .int .i64 0] 44)) = wq at *
  refine start_ (n := 8) (S := fun w' => w'.cell? ⟨w.heap.size, 0, none⟩ = some (.slice A l'.length c) ∧ w'.cell? ⟨w.heap.size, 1, none⟩ = some (.int .i64 er) ∧ w'.cell? ⟨w.heap.size + 1, 0, none⟩ = some (.slice B l'.length d) ∧ w'.cell? ⟨w.heap.size + 1, 1, none⟩ = some (.int .i64 er) ∧ w'.cell? ⟨w.heap.size + 1 + 1, 1, none⟩ = some (.int .i64 a)) (ds := []) #[false, false, false, false, false, false, false, false] (by kernel_rfl) rfl rfl ⟨(blk_cell KX.out 0).trans rfl, (blk_cell KX.out 1).trans rfl, (blk_cell KY.out 0).trans rfl, (blk_cell KY.out 1).trans rfl, (blk_cell KZ.out 1).trans rfl⟩ (fun hHeld => ?_)
  refine pure_ (i := 1) (N := some 139) (v := ?_) (a' := ?_) #[false, true, false, false, false, false, false, false] rfl rfl (by kernel_rfl) (fun _ _ _ h => h) (Or.inl ⟨by rfl, ?_⟩) ?_ ?_
  rotate_left
  · intro w'
    go_simp
    with_reducible rfl
  rotate_left
  · simp only [Act.put, List.setIfInBounds_toArray, List.set_cons_zero, List.set_cons_succ, i64_w, i32_w]
    rfl
  refine take_ (i := 0) (N := some 138) (v := ?_) (a' := ?_) #[true, true, false, false, false, false, false, false] rfl rfl (by kernel_rfl) (fun _ _ _ h => h) (Or.inl ⟨by rfl, ?_⟩) hHeld ?_ ?_
  rotate_left
  · rintro w' ⟨s0, s1, s2, s3, s4⟩
    go_simp
    with_reducible rfl
  rotate_left
  · simp only [Act.put, List.setIfInBounds_toArray, List.set_cons_zero, List.set_cons_succ, i64_w, i32_w]
    rfl
  refine take_ (i := 2) (N := some 140) (v := ?_) (a' := ?_) #[true, true, true, false, false, false, false, false] rfl rfl (by kernel_rfl) (fun _ _ _ h => h) (Or.inl ⟨by rfl, ?_⟩) hHeld ?_ ?_
  rotate_left
  · rintro w' ⟨s0, s1, s2, s3, s4⟩
    go_simp
    with_reducible rfl
  rotate_left
  · simp only [Act.put, List.setIfInBounds_toArray, List.set_cons_zero, List.set_cons_succ, i64_w, i32_w]
    rfl
  refine take_ (i := 4) (N := some 142) (v := ?_) (a' := ?_) #[true, true, true, false, true, false, false, false] rfl rfl (by kernel_rfl) (fun _ _ _ h => h) (Or.inl ⟨by rfl, ?_⟩) hHeld ?_ ?_
  rotate_left
  · rintro w' ⟨s0, s1, s2, s3, s4⟩
    go_simp
    with_reducible rfl
  rotate_left
  · simp only [Act.put, List.setIfInBounds_toArray, List.set_cons_zero, List.set_cons_succ, i64_w, i32_w]
    rfl
  refine one_ (i := 3) (N := some 141) #[true, true, true, true, true, false, false, false] rfl rfl (by kernel_rfl) (by decide) (fun K hK => ?_)
  refine goes_ Try.func27 (by kernel_rfl) rfl #[.agg #[.slice A l'.length c, .int .i64 er], .int .i64 a] (by rfl) rfl rfl (by simp only [List.map_toArray, List.map_cons, List.map_nil]; rfl) ?_
  with_reducible refine (fail_callsN A l'.length c er a _ he).mono ?_
  rintro x wz ⟨rfl, hb⟩
  refine ⟨_, rfl, ?_⟩
  have nX_ := Aside0.mk (blk_below (w := wq.drew) KX.out hb)
  have nY_ := Aside0.mk (blk_below (w := wq.drew) KY.out hb)
  have nZ_ := Aside0.mk (blk_below (w := wq.drew) KZ.out hb)
  have n4_ := Aside0.mk (blk_below (w := wq.drew) K4.out hb)
  have n5_ := Aside0.mk (blk_below (w := wq.drew) K5.out hb)
  have nB_ := Aside0.mk (below_step (below_drew1 HB.out) hb)
  clear KX KY KZ K4 K5 HB hb
  have KX := nX_
  have KY := nY_
  have KZ := nZ_
  have K4 := n4_
  have K5 := n5_
  have HB := nB_
  clear nX_ nY_ nZ_ n4_ n5_ nB_
  refine hK.out _ _ ⟨(blk_cell KX.out 0).trans rfl, (blk_cell KX.out 1).trans rfl, (blk_cell KY.out 0).trans rfl, (blk_cell KY.out 1).trans rfl, (blk_cell KZ.out 1).trans rfl⟩ (fun hHeld => ?_)
  clear hK K
  refine norm_ (a' := ?_) ?_ ?_
  rotate_left
  · show Act.put _ (some 141) _ = _
    simp only [Act.put, List.setIfInBounds_toArray, List.set_cons_zero, List.set_cons_succ, i64_w, i32_w]
    rfl
  refine one_ (i := 5) (N := none) #[true, true, true, true, true, true, false, false] rfl rfl (by kernel_rfl) (by decide) (fun K hK => ?_)
  have r0 := (blk_cell K4.out 0).trans rfl
  have r1 := (blk_cell K4.out 1).trans rfl
  have r2 := blk_frozen K4.out 0
  have r3 := blk_frozen K4.out 1
  refine skip_ (w1 := ((wz.setCell ⟨w.heap.size + 1 + 1 + 1, 0, none⟩ (.slice A l'.length c)).setCell ⟨w.heap.size + 1 + 1 + 1, 1, none⟩ (.int .i64 er))) (by rfl) rfl ?_ ?_
  · go_simp
    try rfl
  have n4_ := Aside0.mk (show ((wz.setCell ⟨w.heap.size + 1 + 1 + 1, 0, none⟩ (.slice A l'.length c)).setCell ⟨w.heap.size + 1 + 1 + 1, 1, none⟩ (.int .i64 er)).heap[w.heap.size + 1 + 1 + 1]? = some (.cells #[.slice A l'.length c, .int .i64 er] 30 (0, 0)) from blk_put (blk_put (w := wz) K4.out 0 _ rfl) 1 _ rfl)
  have n5_ := Aside0.mk (show ((wz.setCell ⟨w.heap.size + 1 + 1 + 1, 0, none⟩ (.slice A l'.length c)).setCell ⟨w.heap.size + 1 + 1 + 1, 1, none⟩ (.int .i64 er)).heap[w.heap.size + 1 + 1 + 1 + 1]? = some (.cells #[.slice none 0 0, .int .i64 0] 44 (0, 0)) from (blk_far (blk_far K5.out (p := ⟨w.heap.size + 1 + 1 + 1, 0, none⟩) (by show _ ≠ (w.heap.size + 1 + 1 + 1); omega) (.slice A l'.length c)) (p := ⟨w.heap.size + 1 + 1 + 1, 1, none⟩) (by show _ ≠ (w.heap.size + 1 + 1 + 1); omega) (.int .i64 er)))
  have nX_ := Aside0.mk (show ((wz.setCell ⟨w.heap.size + 1 + 1 + 1, 0, none⟩ (.slice A l'.length c)).setCell ⟨w.heap.size + 1 + 1 + 1, 1, none⟩ (.int .i64 er)).heap[w.heap.size]? = some (.cells #[.slice A l'.length c, .int .i64 er] 30 (0, 0)) from (blk_far (blk_far KX.out (p := ⟨w.heap.size + 1 + 1 + 1, 0, none⟩) (by show _ ≠ (w.heap.size + 1 + 1 + 1); omega) (.slice A l'.length c)) (p := ⟨w.heap.size + 1 + 1 + 1, 1, none⟩) (by show _ ≠ (w.heap.size + 1 + 1 + 1); omega) (.int .i64 er)))
  have nY_ := Aside0.mk (show ((wz.setCell ⟨w.heap.size + 1 + 1 + 1, 0, none⟩ (.slice A l'.length c)).setCell ⟨w.heap.size + 1 + 1 + 1, 1, none⟩ (.int .i64 er)).heap[w.heap.size + 1]? = some (.cells #[.slice B l'.length d, .int .i64 er] 44 (0, 0)) from (blk_far (blk_far KY.out (p := ⟨w.heap.size + 1 + 1 + 1, 0, none⟩) (by show _ ≠ (w.heap.size + 1 + 1 + 1); omega) (.slice A l'.length c)) (p := ⟨w.heap.size + 1 + 1 + 1, 1, none⟩) (by show _ ≠ (w.heap.size + 1 + 1 + 1); omega) (.int .i64 er)))
  have nB_ := Aside0.mk (below_set (j := 1) (v := .int .i64 er) (below_set (j := 0) (v := .slice A l'.length c) HB.out (show w.heap.size ≤ (w.heap.size + 1 + 1 + 1) by omega)) (show w.heap.size ≤ (w.heap.size + 1 + 1 + 1) by omega))
  have nk_ := Aside0.mk (show ((wz.setCell ⟨w.heap.size + 1 + 1 + 1, 0, none⟩ (.slice A l'.length c)).setCell ⟨w.heap.size + 1 + 1 + 1, 1, none⟩ (.int .i64 er)).heap[w.heap.size + 1 + 1]? = some (.cells #[.int .i64 4, .int .i64 a, .int .i64 b] 46 (0, 0)) from (blk_far (blk_far KZ.out (p := ⟨w.heap.size + 1 + 1 + 1, 0, none⟩) (by show _ ≠ (w.heap.size + 1 + 1 + 1); omega) (.slice A l'.length c)) (p := ⟨w.heap.size + 1 + 1 + 1, 1, none⟩) (by show _ ≠ (w.heap.size + 1 + 1 + 1); omega) (.int .i64 er)))
  clear KZ
  have KZ := nk_
  clear nk_
  clear K4 K5 KX KY HB r0 r1 r2 r3
  have K4 := n4_
  have K5 := n5_
  have KX := nX_
  have KY := nY_
  have HB := nB_
  clear n4_ n5_ nX_ nY_ nB_
  generalize ((wz.setCell ⟨w.heap.size + 1 + 1 + 1, 0, none⟩ (.slice A l'.length c)).setCell ⟨w.heap.size + 1 + 1 + 1, 1, none⟩ (.int .i64 er)) = wr at *
  refine hK.out _ _ ⟨(blk_cell KX.out 0).trans rfl, (blk_cell KX.out 1).trans rfl, (blk_cell KY.out 0).trans rfl, (blk_cell KY.out 1).trans rfl, (blk_cell KZ.out 1).trans rfl⟩ (fun hHeld => ?_)
  clear hK K
  refine one_ (i := 6) (N := none) #[true, true, true, true, true, true, true, false] rfl rfl (by kernel_rfl) (by decide) (fun K hK => ?_)
  have r0 := (blk_cell K5.out 0).trans rfl
  have r1 := (blk_cell K5.out 1).trans rfl
  have r2 := blk_frozen K5.out 0
  have r3 := blk_frozen K5.out 1
  refine skip_ (w1 := ((wr.setCell ⟨w.heap.size + 1 + 1 + 1 + 1, 0, none⟩ (.slice B l'.length d)).setCell ⟨w.heap.size + 1 + 1 + 1 + 1, 1, none⟩ (.int .i64 er))) (by rfl) rfl ?_ ?_
  · go_simp
    try rfl
  have n4_ := Aside0.mk (show ((wr.setCell ⟨w.heap.size + 1 + 1 + 1 + 1, 0, none⟩ (.slice B l'.length d)).setCell ⟨w.heap.size + 1 + 1 + 1 + 1, 1, none⟩ (.int .i64 er)).heap[w.heap.size + 1 + 1 + 1 + 1]? = some (.cells #[.slice B l'.length d, .int .i64 er] 44 (0, 0)) from blk_put (blk_put (w := wr) K5.out 0 _ rfl) 1 _ rfl)
  have n5_ := Aside0.mk (show ((wr.setCell ⟨w.heap.size + 1 + 1 + 1 + 1, 0, none⟩ (.slice B l'.length d)).setCell ⟨w.heap.size + 1 + 1 + 1 + 1, 1, none⟩ (.int .i64 er)).heap[w.heap.size + 1 + 1 + 1]? = some (.cells #[.slice A l'.length c, .int .i64 er] 30 (0, 0)) from (blk_far (blk_far K4.out (p := ⟨w.heap.size + 1 + 1 + 1 + 1, 0, none⟩) (by show _ ≠ (w.heap.size + 1 + 1 + 1 + 1); omega) (.slice B l'.length d)) (p := ⟨w.heap.size + 1 + 1 + 1 + 1, 1, none⟩) (by show _ ≠ (w.heap.size + 1 + 1 + 1 + 1); omega) (.int .i64 er)))
  have nX_ := Aside0.mk (show ((wr.setCell ⟨w.heap.size + 1 + 1 + 1 + 1, 0, none⟩ (.slice B l'.length d)).setCell ⟨w.heap.size + 1 + 1 + 1 + 1, 1, none⟩ (.int .i64 er)).heap[w.heap.size]? = some (.cells #[.slice A l'.length c, .int .i64 er] 30 (0, 0)) from (blk_far (blk_far KX.out (p := ⟨w.heap.size + 1 + 1 + 1 + 1, 0, none⟩) (by show _ ≠ (w.heap.size + 1 + 1 + 1 + 1); omega) (.slice B l'.length d)) (p := ⟨w.heap.size + 1 + 1 + 1 + 1, 1, none⟩) (by show _ ≠ (w.heap.size + 1 + 1 + 1 + 1); omega) (.int .i64 er)))
  have nY_ := Aside0.mk (show ((wr.setCell ⟨w.heap.size + 1 + 1 + 1 + 1, 0, none⟩ (.slice B l'.length d)).setCell ⟨w.heap.size + 1 + 1 + 1 + 1, 1, none⟩ (.int .i64 er)).heap[w.heap.size + 1]? = some (.cells #[.slice B l'.length d, .int .i64 er] 44 (0, 0)) from (blk_far (blk_far KY.out (p := ⟨w.heap.size + 1 + 1 + 1 + 1, 0, none⟩) (by show _ ≠ (w.heap.size + 1 + 1 + 1 + 1); omega) (.slice B l'.length d)) (p := ⟨w.heap.size + 1 + 1 + 1 + 1, 1, none⟩) (by show _ ≠ (w.heap.size + 1 + 1 + 1 + 1); omega) (.int .i64 er)))
  have nB_ := Aside0.mk (below_set (j := 1) (v := .int .i64 er) (below_set (j := 0) (v := .slice B l'.length d) HB.out (show w.heap.size ≤ (w.heap.size + 1 + 1 + 1 + 1) by omega)) (show w.heap.size ≤ (w.heap.size + 1 + 1 + 1 + 1) by omega))
  have nk_ := Aside0.mk (show ((wr.setCell ⟨w.heap.size + 1 + 1 + 1 + 1, 0, none⟩ (.slice B l'.length d)).setCell ⟨w.heap.size + 1 + 1 + 1 + 1, 1, none⟩ (.int .i64 er)).heap[w.heap.size + 1 + 1]? = some (.cells #[.int .i64 4, .int .i64 a, .int .i64 b] 46 (0, 0)) from (blk_far (blk_far KZ.out (p := ⟨w.heap.size + 1 + 1 + 1 + 1, 0, none⟩) (by show _ ≠ (w.heap.size + 1 + 1 + 1 + 1); omega) (.slice B l'.length d)) (p := ⟨w.heap.size + 1 + 1 + 1 + 1, 1, none⟩) (by show _ ≠ (w.heap.size + 1 + 1 + 1 + 1); omega) (.int .i64 er)))
  clear KZ
  have KZ := nk_
  clear nk_
  clear K4 K5 KX KY HB r0 r1 r2 r3
  have K5 := n4_
  have K4 := n5_
  have KX := nX_
  have KY := nY_
  have HB := nB_
  clear n4_ n5_ nX_ nY_ nB_
  generalize ((wr.setCell ⟨w.heap.size + 1 + 1 + 1 + 1, 0, none⟩ (.slice B l'.length d)).setCell ⟨w.heap.size + 1 + 1 + 1 + 1, 1, none⟩ (.int .i64 er)) = ws at *
  refine hK.out _ _ ⟨(blk_cell KX.out 0).trans rfl, (blk_cell KX.out 1).trans rfl, (blk_cell KY.out 0).trans rfl, (blk_cell KY.out 1).trans rfl, (blk_cell KZ.out 1).trans rfl⟩ (fun hHeld => ?_)
  clear hK K
  refine pure_ (i := 7) (N := some 8) (v := ?_) (a' := ?_) #[true, true, true, true, true, true, true, true] rfl rfl (by kernel_rfl) (fun _ _ _ h => h) (Or.inl ⟨by rfl, ?_⟩) ?_ ?_
  rotate_left
  · intro w'
    go_simp
    with_reducible rfl
  rotate_left
  · simp only [Act.put, List.setIfInBounds_toArray, List.set_cons_zero, List.set_cons_succ, i64_w, i32_w]
    rfl
  refine done_ (by kernel_rfl) ?_
  go_wp2
  exact bodyPost_ret (results_cct rfl _ _ (w.heap.size + 1 + 1 + 1) (w.heap.size + 1 + 1 + 1 + 1) _ _ rfl rfl (run_loadVar_row _ _ 30 _ _ (0, 0) _ K4.out Try.underlying30 rfl (by kernel_rfl)) (run_loadVar_row _ _ 44 _ _ (0, 0) _ K5.out Try.underlying44 rfl (by kernel_rfl))) rfl ⟨_, _, rfl, HSa.out, HSb.out, HB.out⟩
end Go.Proofs.Yteonbbfegnjjeaa.Law
