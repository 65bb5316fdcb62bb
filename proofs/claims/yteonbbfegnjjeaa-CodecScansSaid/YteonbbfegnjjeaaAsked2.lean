/- The walk of asked: a text, an id; all kinds. -/
import Derived.Test.YteonbbfegnjjeaaAsked
namespace Go.Proofs.Yteonbbfegnjjeaa.Law
open Go.RowKit Go.Proofs.Yteonbbfegnjjeaa Go.Proofs.YteonbbfegnjjeaaW.PrintWords Go.Proofs.YteonbbfegnjjeaaW.PrintLast Go.Proofs.YteonbbfegnjjeaaW.PrintMore Go.Proofs.Yteonbbfegnjjeaa.D
set_option linter.unusedSimpArgs false
set_option maxHeartbeats 4000000 in
set_option maxRecDepth 100000 in
theorem asked_1 (A B : Option Addr) (c d : Nat) (er a b e : Int) (l l' : List Int) (k : Nat) (x_ : List Int) (w0 w : World) (hr : Kd.C (Kd.int .u8) w0 A l.length l) (hc : l.length ≤ c) (hr2 : Kd.C (Kd.int .u8) w0 B l.length l) (hd : l.length ≤ d) (hb : Bytes l) (hm : l.length < 140737488355328) (hw : Below w0.heap.size w0 w) (hl : l.drop k = l') (hp : textP l er a = (x_, k, e)) :
    Calls Try.prog 20 #[.agg #[.slice A l.length c, .int .i64 er], .agg #[.slice B l.length d, .int .i64 er], .agg #[.int .i64 1, .int .i64 a, .int .i64 b]] w fun x w' => ∃ S R, x = .returned (.tuple #[S, R, .bool true]) ∧ Scn w0 S l' e ∧ Scn w0 R l' e ∧ Below w.heap.size w w' := by
  have HS := Aside0.mk (show Scn w0 (.agg #[.slice A l.length c, .int .i64 er]) l er from ⟨A, c, rfl, hr, hc, hb⟩)
  have HT := Aside0.mk (show Scn w0 (.agg #[.slice B l.length d, .int .i64 er]) l er from ⟨B, d, rfl, hr2, hd, hb⟩)
  have HW := Aside0.mk hw
  have HL := Aside0.mk hl
  clear hr hc hr2 hd hb hw hl
  have HP := Aside0.mk hp
  clear hp
  go_enter Try.func20, Try.ntmps20
  go_wp2_with (first | (go_at_call 17; obtain ⟨⟨q1, q2, q3, q4, q5⟩, q6⟩ := five w (.cells #[.slice A l.length c, .int .i64 er] 30) (.cells #[.slice B l.length d, .int .i64 er] 44) (.cells #[.int .i64 1, .int .i64 a, .int .i64 b] 46) (.cells #[.slice none 0 0, .int .i64 0] 30) (.cells #[.slice none 0 0, .int .i64 0] 44); refine (text_calls HS.out (HW.out.trans (q6.mono HW.out.size)) hm a).mono ?_; rw [HP.out]; dsimp only; rw [HL.out]; clear q1; rintro x w2 ⟨V1, v', rfl, hv, ⟨A1, c1, rfl, hr1, hc1, hy1⟩, hb⟩; have K2 := Aside0.mk (blk_below (blk_below q2 hb) (below_alloc (Below.refl w2.heap.size w2) (.cells #[.slice A1 l'.length c1, .int .i64 e] 30))); have K3 := Aside0.mk (blk_below (blk_below q3 hb) (below_alloc (Below.refl w2.heap.size w2) (.cells #[.slice A1 l'.length c1, .int .i64 e] 30))); have K4 := Aside0.mk (blk_below (blk_below q4 hb) (below_alloc (Below.refl w2.heap.size w2) (.cells #[.slice A1 l'.length c1, .int .i64 e] 30))); have K5 := Aside0.mk (blk_below (blk_below q5 hb) (below_alloc (Below.refl w2.heap.size w2) (.cells #[.slice A1 l'.length c1, .int .i64 e] 30))); have KX := Aside0.mk (heap_alloc_new w2 (.cells #[.slice A1 l'.length c1, .int .i64 e] 30)); have HB := Aside0.mk (below_alloc (below_step q6 hb) (.cells #[.slice A1 l'.length c1, .int .i64 e] 30)); have hgx := blk_lt (blk_below q5 hb); have HSa := Aside0.mk (show Scn w0 (.agg #[.slice A1 l'.length c1, .int .i64 e]) l' e from ⟨A1, c1, rfl, hr1, hc1, hy1⟩); have u0 := (blk_cell K2.out 0).trans rfl; have u1 := (blk_cell K2.out 1).trans rfl; have u2 := (blk_cell K3.out 0).trans rfl; have u3 := (blk_cell K3.out 1).trans rfl; have u4 := (blk_cell K3.out 2).trans rfl; obtain ⟨bs, hbs⟩ : ∃ bs, bs = (((((w.alloc (.cells #[.slice A l.length c, .int .i64 er] 30)).alloc (.cells #[.slice B l.length d, .int .i64 er] 44)).alloc (.cells #[.int .i64 1, .int .i64 a, .int .i64 b] 46)).alloc (.cells #[.slice none 0 0, .int .i64 0] 30)).alloc (.cells #[.slice none 0 0, .int .i64 0] 44)).heap.size := ⟨_, rfl⟩; have hbs5 := blk_lt q5; rw [← hbs] at hv hbs5; clear hbs; obtain ⟨Av, cv, e1⟩ := Kd.R_slice hv; subst e1; have HVL := Aside0.mk (show ∀ k_, (Value.slice Av x_.length cv).ownBlock = some k_ → bs ≤ k_ ∧ k_ < w2.heap.size from fun k_ hk => ⟨Kd.R_base hv k_ hk, Kd.R_lt hv k_ hk⟩); have HV1 := Aside0.mk (Kd.R_alloc hv (.cells #[.slice A1 l'.length c1, .int .i64 e] 30)); clear hv; clear q2 q3 q4 q5 q6 hr1 hc1 hy1 hb) | (go_at_call 30; refine (rtext_calls HT.out (HW.out.trans (HB.out.mono HW.out.size)) a).mono ?_; rw [HP.out]; dsimp only; rw [HL.out]; rintro x w3 ⟨V2, v', rfl, hv2, ⟨A2, c2, rfl, hr2, hc2, hy2⟩, hb⟩; have n4_ := Aside0.mk (blk_below (blk_below K4.out hb) (below_alloc (Below.refl w3.heap.size w3) (.cells #[.slice A2 l'.length c2, .int .i64 e] 44))); have n5_ := Aside0.mk (blk_below (blk_below K5.out hb) (below_alloc (Below.refl w3.heap.size w3) (.cells #[.slice A2 l'.length c2, .int .i64 e] 44))); have nX_ := Aside0.mk (blk_below (blk_below KX.out hb) (below_alloc (Below.refl w3.heap.size w3) (.cells #[.slice A2 l'.length c2, .int .i64 e] 44))); have KY := Aside0.mk (heap_alloc_new w3 (.cells #[.slice A2 l'.length c2, .int .i64 e] 44)); have nB_ := Aside0.mk (below_alloc (below_step HB.out hb) (.cells #[.slice A2 l'.length c2, .int .i64 e] 44)); have hgy := blk_lt (blk_below KX.out hb); have HSb := Aside0.mk (show Scn w0 (.agg #[.slice A2 l'.length c2, .int .i64 e]) l' e from ⟨A2, c2, rfl, hr2, hc2, hy2⟩); have nV_ := Aside0.mk (Kd.R_alloc (Kd.R_below HV1.out hb) (.cells #[.slice A2 l'.length c2, .int .i64 e] 44)); have cvA := conv_str (Rd.own nV_.out); have cvB := conv_str (hv2.below (HW.out.trans (nB_.out.mono HW.out.size))); clear HV1 hv2; have HV1 := nV_; clear nV_; clear K2 K3 K4 K5 KX HB; have K4 := n4_; have K5 := n5_; have KX := nX_; have HB := nB_; clear n4_ n5_ nX_ nB_ hr2 hc2 hy2 hb))
  clear cvA cvB
  generalize w3.alloc (.cells #[.slice A2 l'.length c2, .int .i64 e] 44) = wq at *
  generalize w2.heap.size = ga at *
  generalize w3.heap.size = gb at *
  have hxm := Kd.C_max (Kd.R_reads' HV1.out).2.2
  go_loopw [77] (fun v77 wr => ∃ (i : Nat) (xs : List Int), i ≤ x_.length ∧ v77 = .int .i64 i ∧ xs.length = x_.length ∧ Aside0 (Kd.R (Kd.int .u8) 5 wr bs (fun _ => True) (.slice Av x_.length cv) xs) ∧ Aside0 (wr.heap[w.heap.size + 1 + 1 + 1]? = some (.cells #[.slice none 0 0, .int .i64 0] 30 (0, 0))) ∧ Aside0 (wr.heap[w.heap.size + 1 + 1 + 1 + 1]? = some (.cells #[.slice none 0 0, .int .i64 0] 44 (0, 0))) ∧ Aside0 (wr.heap[ga]? = some (.cells #[.slice A1 l'.length c1, .int .i64 e] 30 (0, 0))) ∧ Aside0 (wr.heap[gb]? = some (.cells #[.slice A2 l'.length c2, .int .i64 e] 44 (0, 0))) ∧ Aside0 (Below w.heap.size w wr)) (fun v77 _ => x_.length - (intOf v77).toNat)
  case atStart => exact ⟨0, x_, by omega, rfl, rfl, HV1, K4, K5, KX, KY, HB⟩
  case round =>
    obtain ⟨i, xs, hi, rfl, hxl, HVr, J4, J5, JX, JY, JB⟩ := hrel
    obtain ⟨wo, rfl⟩ : ∃ x : World, x = wr := ⟨_, rfl⟩
    clear HV1 K4 K5 KX KY HB
    have K4 := J4
    have K5 := J5
    have KX := JX
    have KY := JY
    have HB := JB
    clear J4 J5 JX JY JB
    by_cases hlt : i < x_.length
    · have hltb : decide ((i : Int) < (x_.length : Int)) = true := decide_eq_true (by omega)
      have hwi : wrap64 ((i : Int) + 1) = (i : Int) + 1 := w64 (by omega) (by omega)
      obtain ⟨gv, cap, ev, _, _, _⟩ := Kd.R_form HVr.out (by omega)
      injection ev with ev1 ev2 ev3
      subst ev1 ev3
      have hgv := HVL.out gv (by simp [Value.ownBlock])
      have hv1 := hgv.1
      have hv2 := hgv.2
      have hrw : Kd.R (Kd.int .u8) 5 wo bs (fun _ => True) (.slice (some ⟨gv, 0, none⟩) xs.length cv) xs := by rw [hxl]; exact HVr.out
      obtain ⟨hcl, hfz⟩ := Kd.R_cell (enc := Value.int .u8) (d := (0 : Int)) (h1 := fun _ => rfl) hrw (i : Int) (by omega) (by omega)
      rw [Int.toNat_natCast] at hcl hfz
      have HPU := Aside0.mk (fun u : Int => (Kd.R_put (enc := Value.int .u8) (h1 := fun _ => rfl) hrw (i : Int) u).1)
      generalize rdOf (0 : Int) xs (i : Int) = y at *
      clear hrw hgv ev2
      go_wp2
      go_roundw
      case rel => exact ⟨i + 1, xs.set i ((y + 1) % 256), by omega, by go_num, by rw [List.length_set]; exact hxl, ⟨by have h := HPU.out ((y + 1) % 256); rw [Int.toNat_natCast, hxl] at h; exact h⟩, ⟨blk_far K4.out (by show _ ≠ gv; omega) _⟩, ⟨blk_far K5.out (by show _ ≠ gv; omega) _⟩, ⟨blk_far KX.out (by show _ ≠ gv; omega) _⟩, ⟨blk_far KY.out (by show _ ≠ gv; omega) _⟩, ⟨below_set HB.out (by omega)⟩⟩
      case measure => simp [intOf]; omega
    · obtain rfl : i = x_.length := by omega
      have hltb : decide ((x_.length : Int) < (x_.length : Int)) = false := decide_eq_false (by omega)
      go_wp2
      refine start_ (n := 6) (S := fun w' => w'.cell? ⟨ga, 0, none⟩ = some (.slice A1 l'.length c1) ∧ w'.cell? ⟨ga, 1, none⟩ = some (.int .i64 e) ∧ w'.cell? ⟨gb, 0, none⟩ = some (.slice A2 l'.length c2) ∧ w'.cell? ⟨gb, 1, none⟩ = some (.int .i64 e)) (ds := []) #[false, false, false, false, false, false] (by kernel_rfl) rfl rfl ⟨(blk_cell KX.out 0).trans rfl, (blk_cell KX.out 1).trans rfl, (blk_cell KY.out 0).trans rfl, (blk_cell KY.out 1).trans rfl⟩ (fun hHeld => ?_)
      refine pure_ (i := 2) (N := some 89) (v := ?_) (a' := ?_) #[false, false, true, false, false, false] rfl rfl (by kernel_rfl) (fun _ _ _ h => h) (Or.inl ⟨by rfl, ?_⟩) ?_ ?_
      rotate_left
      · intro w'
        go_simp
        with_reducible rfl
      rotate_left
      · simp only [Act.put, List.setIfInBounds_toArray, List.set_cons_zero, List.set_cons_succ, i64_w, i32_w]
        rfl
      refine take_ (i := 0) (N := some 87) (v := ?_) (a' := ?_) #[true, false, true, false, false, false] rfl rfl (by kernel_rfl) (fun _ _ _ h => h) (Or.inl ⟨by rfl, ?_⟩) hHeld ?_ ?_
      rotate_left
      · rintro w' ⟨s0, s1, s2, s3⟩
        go_simp
        with_reducible rfl
      rotate_left
      · simp only [Act.put, List.setIfInBounds_toArray, List.set_cons_zero, List.set_cons_succ, i64_w, i32_w]
        rfl
      refine take_ (i := 1) (N := some 88) (v := ?_) (a' := ?_) #[true, true, true, false, false, false] rfl rfl (by kernel_rfl) (fun _ _ _ h => h) (Or.inl ⟨by rfl, ?_⟩) hHeld ?_ ?_
      rotate_left
      · rintro w' ⟨s0, s1, s2, s3⟩
        go_simp
        with_reducible rfl
      rotate_left
      · simp only [Act.put, List.setIfInBounds_toArray, List.set_cons_zero, List.set_cons_succ, i64_w, i32_w]
        rfl
      refine one_ (i := 3) (N := none) #[true, true, true, true, false, false] rfl rfl (by kernel_rfl) (by decide) (fun K hK => ?_)
      have r0 := (blk_cell K4.out 0).trans rfl
      have r1 := (blk_cell K4.out 1).trans rfl
      have r2 := blk_frozen K4.out 0
      have r3 := blk_frozen K4.out 1
      refine skip_ (w1 := ((wo.drew.setCell ⟨w.heap.size + 1 + 1 + 1, 0, none⟩ (.slice A1 l'.length c1)).setCell ⟨w.heap.size + 1 + 1 + 1, 1, none⟩ (.int .i64 e))) (by rfl) rfl ?_ ?_
      · go_simp
        try rfl
      have n4_ := Aside0.mk (show ((wo.drew.setCell ⟨w.heap.size + 1 + 1 + 1, 0, none⟩ (.slice A1 l'.length c1)).setCell ⟨w.heap.size + 1 + 1 + 1, 1, none⟩ (.int .i64 e)).heap[w.heap.size + 1 + 1 + 1]? = some (.cells #[.slice A1 l'.length c1, .int .i64 e] 30 (0, 0)) from blk_put (blk_put (w := wo.drew) K4.out 0 _ rfl) 1 _ rfl)
      have n5_ := Aside0.mk (show ((wo.drew.setCell ⟨w.heap.size + 1 + 1 + 1, 0, none⟩ (.slice A1 l'.length c1)).setCell ⟨w.heap.size + 1 + 1 + 1, 1, none⟩ (.int .i64 e)).heap[w.heap.size + 1 + 1 + 1 + 1]? = some (.cells #[.slice none 0 0, .int .i64 0] 44 (0, 0)) from (blk_far (blk_far K5.out (p := ⟨w.heap.size + 1 + 1 + 1, 0, none⟩) (by show _ ≠ (w.heap.size + 1 + 1 + 1); omega) (.slice A1 l'.length c1)) (p := ⟨w.heap.size + 1 + 1 + 1, 1, none⟩) (by show _ ≠ (w.heap.size + 1 + 1 + 1); omega) (.int .i64 e)))
      have nX_ := Aside0.mk (show ((wo.drew.setCell ⟨w.heap.size + 1 + 1 + 1, 0, none⟩ (.slice A1 l'.length c1)).setCell ⟨w.heap.size + 1 + 1 + 1, 1, none⟩ (.int .i64 e)).heap[ga]? = some (.cells #[.slice A1 l'.length c1, .int .i64 e] 30 (0, 0)) from (blk_far (blk_far KX.out (p := ⟨w.heap.size + 1 + 1 + 1, 0, none⟩) (by show _ ≠ (w.heap.size + 1 + 1 + 1); omega) (.slice A1 l'.length c1)) (p := ⟨w.heap.size + 1 + 1 + 1, 1, none⟩) (by show _ ≠ (w.heap.size + 1 + 1 + 1); omega) (.int .i64 e)))
      have nY_ := Aside0.mk (show ((wo.drew.setCell ⟨w.heap.size + 1 + 1 + 1, 0, none⟩ (.slice A1 l'.length c1)).setCell ⟨w.heap.size + 1 + 1 + 1, 1, none⟩ (.int .i64 e)).heap[gb]? = some (.cells #[.slice A2 l'.length c2, .int .i64 e] 44 (0, 0)) from (blk_far (blk_far KY.out (p := ⟨w.heap.size + 1 + 1 + 1, 0, none⟩) (by show _ ≠ (w.heap.size + 1 + 1 + 1); omega) (.slice A1 l'.length c1)) (p := ⟨w.heap.size + 1 + 1 + 1, 1, none⟩) (by show _ ≠ (w.heap.size + 1 + 1 + 1); omega) (.int .i64 e)))
      have nB_ := Aside0.mk (below_set (j := 1) (v := .int .i64 e) (below_set (j := 0) (v := .slice A1 l'.length c1) (below_drew1 HB.out) (show w.heap.size ≤ (w.heap.size + 1 + 1 + 1) by omega)) (show w.heap.size ≤ (w.heap.size + 1 + 1 + 1) by omega))
      clear K4 K5 KX KY HB r0 r1 r2 r3
      have K4 := n4_
      have K5 := n5_
      have KX := nX_
      have KY := nY_
      have HB := nB_
      clear n4_ n5_ nX_ nY_ nB_
      generalize ((wo.drew.setCell ⟨w.heap.size + 1 + 1 + 1, 0, none⟩ (.slice A1 l'.length c1)).setCell ⟨w.heap.size + 1 + 1 + 1, 1, none⟩ (.int .i64 e)) = wr at *
      refine hK.out _ _ ⟨(blk_cell KX.out 0).trans rfl, (blk_cell KX.out 1).trans rfl, (blk_cell KY.out 0).trans rfl, (blk_cell KY.out 1).trans rfl⟩ (fun hHeld => ?_)
      clear hK K
      refine one_ (i := 4) (N := none) #[true, true, true, true, true, false] rfl rfl (by kernel_rfl) (by decide) (fun K hK => ?_)
      have r0 := (blk_cell K5.out 0).trans rfl
      have r1 := (blk_cell K5.out 1).trans rfl
      have r2 := blk_frozen K5.out 0
      have r3 := blk_frozen K5.out 1
      refine skip_ (w1 := ((wr.setCell ⟨w.heap.size + 1 + 1 + 1 + 1, 0, none⟩ (.slice A2 l'.length c2)).setCell ⟨w.heap.size + 1 + 1 + 1 + 1, 1, none⟩ (.int .i64 e))) (by rfl) rfl ?_ ?_
      · go_simp
        try rfl
      have n4_ := Aside0.mk (show ((wr.setCell ⟨w.heap.size + 1 + 1 + 1 + 1, 0, none⟩ (.slice A2 l'.length c2)).setCell ⟨w.heap.size + 1 + 1 + 1 + 1, 1, none⟩ (.int .i64 e)).heap[w.heap.size + 1 + 1 + 1 + 1]? = some (.cells #[.slice A2 l'.length c2, .int .i64 e] 44 (0, 0)) from blk_put (blk_put (w := wr) K5.out 0 _ rfl) 1 _ rfl)
      have n5_ := Aside0.mk (show ((wr.setCell ⟨w.heap.size + 1 + 1 + 1 + 1, 0, none⟩ (.slice A2 l'.length c2)).setCell ⟨w.heap.size + 1 + 1 + 1 + 1, 1, none⟩ (.int .i64 e)).heap[w.heap.size + 1 + 1 + 1]? = some (.cells #[.slice A1 l'.length c1, .int .i64 e] 30 (0, 0)) from (blk_far (blk_far K4.out (p := ⟨w.heap.size + 1 + 1 + 1 + 1, 0, none⟩) (by show _ ≠ (w.heap.size + 1 + 1 + 1 + 1); omega) (.slice A2 l'.length c2)) (p := ⟨w.heap.size + 1 + 1 + 1 + 1, 1, none⟩) (by show _ ≠ (w.heap.size + 1 + 1 + 1 + 1); omega) (.int .i64 e)))
      have nX_ := Aside0.mk (show ((wr.setCell ⟨w.heap.size + 1 + 1 + 1 + 1, 0, none⟩ (.slice A2 l'.length c2)).setCell ⟨w.heap.size + 1 + 1 + 1 + 1, 1, none⟩ (.int .i64 e)).heap[ga]? = some (.cells #[.slice A1 l'.length c1, .int .i64 e] 30 (0, 0)) from (blk_far (blk_far KX.out (p := ⟨w.heap.size + 1 + 1 + 1 + 1, 0, none⟩) (by show _ ≠ (w.heap.size + 1 + 1 + 1 + 1); omega) (.slice A2 l'.length c2)) (p := ⟨w.heap.size + 1 + 1 + 1 + 1, 1, none⟩) (by show _ ≠ (w.heap.size + 1 + 1 + 1 + 1); omega) (.int .i64 e)))
      have nY_ := Aside0.mk (show ((wr.setCell ⟨w.heap.size + 1 + 1 + 1 + 1, 0, none⟩ (.slice A2 l'.length c2)).setCell ⟨w.heap.size + 1 + 1 + 1 + 1, 1, none⟩ (.int .i64 e)).heap[gb]? = some (.cells #[.slice A2 l'.length c2, .int .i64 e] 44 (0, 0)) from (blk_far (blk_far KY.out (p := ⟨w.heap.size + 1 + 1 + 1 + 1, 0, none⟩) (by show _ ≠ (w.heap.size + 1 + 1 + 1 + 1); omega) (.slice A2 l'.length c2)) (p := ⟨w.heap.size + 1 + 1 + 1 + 1, 1, none⟩) (by show _ ≠ (w.heap.size + 1 + 1 + 1 + 1); omega) (.int .i64 e)))
      have nB_ := Aside0.mk (below_set (j := 1) (v := .int .i64 e) (below_set (j := 0) (v := .slice A2 l'.length c2) HB.out (show w.heap.size ≤ (w.heap.size + 1 + 1 + 1 + 1) by omega)) (show w.heap.size ≤ (w.heap.size + 1 + 1 + 1 + 1) by omega))
      clear K4 K5 KX KY HB r0 r1 r2 r3
      have K5 := n4_
      have K4 := n5_
      have KX := nX_
      have KY := nY_
      have HB := nB_
      clear n4_ n5_ nX_ nY_ nB_
      generalize ((wr.setCell ⟨w.heap.size + 1 + 1 + 1 + 1, 0, none⟩ (.slice A2 l'.length c2)).setCell ⟨w.heap.size + 1 + 1 + 1 + 1, 1, none⟩ (.int .i64 e)) = ws at *
      refine hK.out _ _ ⟨(blk_cell KX.out 0).trans rfl, (blk_cell KX.out 1).trans rfl, (blk_cell KY.out 0).trans rfl, (blk_cell KY.out 1).trans rfl⟩ (fun hHeld => ?_)
      clear hK K
      refine pure_ (i := 5) (N := some 8) (v := ?_) (a' := ?_) #[true, true, true, true, true, true] rfl rfl (by kernel_rfl) (fun _ _ _ h => h) (Or.inl ⟨by rfl, ?_⟩) ?_ ?_
      rotate_left
      · intro w'
        go_simp
        with_reducible rfl
      rotate_left
      · simp only [Act.put, List.setIfInBounds_toArray, List.set_cons_zero, List.set_cons_succ, i64_w, i32_w]
        rfl
      refine done_ (by kernel_rfl) ?_
      go_wp2
      exact bodyPost_ret (results_cct rfl _ _ (w.heap.size + 1 + 1 + 1) (w.heap.size + 1 + 1 + 1 + 1) _ _ rfl rfl (run_loadVar_row _ _ 30 _ _ (0, 0) _ K4.out Try.underlying30 rfl (by kernel_rfl)) (run_loadVar_row _ _ 44 _ _ (0, 0) _ K5.out Try.underlying44 rfl (by kernel_rfl))) rfl ⟨_, _, rfl, HSa.out, HSb.out, HB.out⟩
end Go.Proofs.Yteonbbfegnjjeaa.Law
