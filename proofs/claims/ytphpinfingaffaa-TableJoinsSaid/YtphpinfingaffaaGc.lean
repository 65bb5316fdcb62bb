/- Gather's closure: it takes a part of a piece's bytes and appends it to the row that it holds: the walk. -/
import Derived.Test.YtphpinfingaffaaPz
namespace Go.Proofs.Ytphpinfingaffaa.Law
open Go.RowKit Go.Proofs.Ytphpinfingaffaa Go.Proofs.YtphpinfingaffaaW.PrintWords Go.Proofs.YtphpinfingaffaaW.PrintLast Go.Proofs.YtphpinfingaffaaW.PrintMore Go.Proofs.Ytphpinfingaffaa.D Go.Proofs.Ytphpinfingaffaa.Fl
set_option linter.unusedSimpArgs false
set_option linter.unusedVariables false
/-- between W and W' nothing has turned but block go and a row -/
structure Kp (go : Nat) (row : Option Nat) (W W' : World) : Prop where
  os : W'.os = W.os
  tape : W'.tape = W.tape
  output : W'.output = W.output
  size : W.heap.size ≤ W'.heap.size
  block : ∀ k, k < W.heap.size → k ≠ go → some k ≠ row → W'.heap[k]? = W.heap[k]?
theorem info49 : (Try.prog.info? 49).map (fun i => (i.zero, i.size)) = some (some (.agg #[.int .i64 0, .complex .f64 0 0]), 2) := by kernel_rfl
set_option maxHeartbeats 4000000 in
set_option maxRecDepth 100000 in
theorem put26_no (w1 W : World) (B gx go : Nat) (x : En) (A : Option Addr) (c : Nat) (acc bs : List Int) (Vo : Value) (A1 : Option Addr) (c1 i : Nat) (b n nn : Int)
    (hR : Kd.C kPc w1 A x.ps.length x.ps) (h1 : Below w1.heap.size w1 W) (hB : B ≤ W.heap.size) (hB1 : w1.heap.size ≤ B) (hT : x.tree.length = 32) (hx : W.heap[gx]? = some (.cells (enV x A c).toArray 26 (0, 0)))
    (hk : W.heap[go]? = some (.cells #[Vo] 53 (0, 0))) (hBo : B ≤ go) (hO : Kd.R (Kd.int .u8) 5 W B (fun _ => True) Vo acc) (hV : Kd.C (Kd.int .u8) W A1 bs.length bs) (hc1 : bs.length ≤ c1)
    (hi : i < x.ps.length) (hb : In b) (hn : In n) (hnn : (rdPc x.ps i).n = nn) (hne : (bs.length : Int) ≠ nn) :
    Calls Try.prog 26 #[.agg #[.int .i64 (i : Int), Cx b n], .slice A1 bs.length c1, .pointer (some ⟨gx, 0, none⟩), .pointer (some ⟨go, 0, none⟩)] W fun e W' => e = .returned (.int .i64 5) ∧ Below W.heap.size W W' := by
  obtain ⟨ad, rfl, _, _, hx0⟩ := at_Pc hR hi
  rw [hnn] at hx0
  have HX0 := Aside0.mk hx0
  have H1 := Aside0.mk h1
  have HB := Aside0.mk (Below.refl W.heap.size W)
  have KX := Aside0.mk hx
  have KO := Aside0.mk hk
  have HO := Aside0.mk hO
  have HV := Aside0.mk hV
  have p1 : (0 ≤ (i : Int)) = True := eq_true (Int.natCast_nonneg _)
  have p2 : ((i : Int) < (x.ps.length : Int)) = True := eq_true (lt_lt hi)
  have HI1 := Aside0.mk hb
  have HI2 := Aside0.mk hn
  have HT := Aside0.mk hT
  have HSZ := Aside0.mk (And.intro hB hB1)
  have b1 : ((bs.length : Int) != nn) = true := bne_iff_ne.mpr hne
  have b2 : ((bs.length : Int) == nn) = false := beq_eq_false_iff_ne.mpr hne
  clear hR h1 hx hk hO hV hb hn hT hne hnn hx0 hi hB hB1 hBo hc1
  go_enter Try.func26, Try.ntmps26
  go_wp2_with (first | ((with_reducible refine gate_dst (N := 4) rfl ?_); refine wpList_box rfl 49 (.tmp 0) rfl [.int .i64 (i : Int), Cx b n] rfl ?_; intro w2 hkp hb_ hsz_; have KP := Aside0.mk hkp; clear hkp hsz_; have n0_ := Aside0.mk (below_step HB.out hb_); have n1_ := Aside0.mk (blk_below KX.out hb_); have n2_ := Aside0.mk (blk_below KO.out hb_); have n3_ := Aside0.mk (Kd.R_below HO.out hb_); have n4_ := Aside0.mk (Kd.C_below HV.out hb_); have n5_ := Aside0.mk (below_step H1.out hb_); clear HB KX KO HO HV H1 hb_; have HB := n0_; have KX := n1_; have KO := n2_; have HO := n3_; have HV := n4_; have H1 := n5_; clear n0_ n1_ n2_ n3_ n4_ n5_; have y0 := (blk_cell KP.out 0).trans rfl; have y1 := (blk_cell KP.out 1).trans rfl) | (go_at_call 27; with_reducible refine (parts_calls HI1.out HI2.out _).mono ?_; rintro e w3 ⟨rfl, hb_⟩; have nP_ := Aside0.mk (blk_below KP.out hb_); clear KP y0 y1; have KP := nP_; clear nP_; have n0_ := Aside0.mk (below_step HB.out hb_); have n1_ := Aside0.mk (blk_below KX.out hb_); have n2_ := Aside0.mk (blk_below KO.out hb_); have n3_ := Aside0.mk (Kd.R_below HO.out hb_); have n4_ := Aside0.mk (Kd.C_below HV.out hb_); have n5_ := Aside0.mk (below_step H1.out hb_); clear HB KX KO HO HV H1 hb_; have HB := n0_; have KX := n1_; have KO := n2_; have HO := n3_; have HV := n4_; have H1 := n5_; clear n0_ n1_ n2_ n3_ n4_ n5_; have y0 := (blk_cell KP.out 0).trans rfl; have y1 := (blk_cell KP.out 1).trans rfl; have zx := (blk_cell KX.out 34).trans ((List.getElem?_toArray).trans (enV_34 x _ _ HT.out)); have zo := (blk_cell KO.out 0).trans rfl; have hcell := (H1.out.cell (World.block_lt_of_cell? w1 _ HX0.out)).trans HX0.out))
  go_ret
  exact ⟨rfl, HB.out⟩
set_option maxHeartbeats 4000000 in
set_option maxRecDepth 100000 in
theorem put26_ok (w1 W : World) (B gx go : Nat) (x : En) (A : Option Addr) (c : Nat) (acc bs : List Int) (Vo : Value) (A1 : Option Addr) (c1 i : Nat) (b n nn : Int)
    (hR : Kd.C kPc w1 A x.ps.length x.ps) (h1 : Below w1.heap.size w1 W) (hB : B ≤ W.heap.size) (hB1 : w1.heap.size ≤ B) (hT : x.tree.length = 32) (hx : W.heap[gx]? = some (.cells (enV x A c).toArray 26 (0, 0)))
    (hk : W.heap[go]? = some (.cells #[Vo] 53 (0, 0))) (hBo : B ≤ go) (hO : Kd.R (Kd.int .u8) 5 W B (fun _ => True) Vo acc) (hV : Kd.C (Kd.int .u8) W A1 bs.length bs) (hc1 : bs.length ≤ c1)
    (hi : i < x.ps.length) (hb : In b) (hn : In n) (hnn : (rdPc x.ps i).n = nn) (he : (bs.length : Int) = nn) (hbn : b + n ≤ (bs.length : Int)) (hal : acc.length + bs.length ≤ 1099511627776) :
    Calls Try.prog 26 #[.agg #[.int .i64 (i : Int), Cx b n], .slice A1 bs.length c1, .pointer (some ⟨gx, 0, none⟩), .pointer (some ⟨go, 0, none⟩)] W fun e W' => e = .returned (.int .i64 0) ∧ ∃ V', W'.heap[go]? = some (.cells #[V'] 53 (0, 0)) ∧ Kd.R (Kd.int .u8) 5 W' B (fun _ => True) V' (acc ++ (bs.take (b + n).toNat).drop b.toNat) ∧ Kp go Vo.ownBlock W W' := by
  obtain ⟨iU, hiU, hzU⟩ := Option.map_eq_some_iff.1 info5
  have hszU : iU.size = 1 := by simp only [Prod.mk.injEq] at hzU; exact hzU.2.1
  obtain ⟨A2, hs1, hs2, hs3⟩ := print_mid_int (P := Try.prog) (k := .u8) 53 5 Try.underlying53 hiU hszU A1 c1 bs b (b + n) hb.1 (by have := hn.1; omega) hbn hc1
  have hsl2 := hs2 W (Kd.reads_of_C (enc := Value.int .u8) (d := (0 : Int)) (h1 := fun _ => rfl) hV)
  have hsll : ((bs.take (b + n).toNat).drop b.toNat).length ≤ bs.length := by rw [List.length_drop, List.length_take]; omega
  generalize (bs.take (b + n).toNat).drop b.toNat = sl at *
  have HSLW := Aside0.mk (Kd.C_of_reads (enc := Value.int .u8) (d := (0 : Int)) (h1 := fun _ => rfl) hsl2)
  have HAL := Aside0.mk (show (acc.length + sl.length) * 1 ≤ 140737488355328 by omega)
  have hwb : wrap64 (b + n) = b + n := n64 (by have := hb.1; have := hn.1; omega) (by have := hb.2; have := hn.2; omega)
  obtain ⟨ad, rfl, _, _, hx0⟩ := at_Pc hR hi
  rw [hnn] at hx0
  have HX0 := Aside0.mk hx0
  have H1 := Aside0.mk h1
  have HB := Aside0.mk (Below.refl W.heap.size W)
  have KX := Aside0.mk hx
  have KO := Aside0.mk hk
  have HO := Aside0.mk hO
  have HV := Aside0.mk hV
  have p1 : (0 ≤ (i : Int)) = True := eq_true (Int.natCast_nonneg _)
  have p2 : ((i : Int) < (x.ps.length : Int)) = True := eq_true (lt_lt hi)
  have HI1 := Aside0.mk hb
  have HI2 := Aside0.mk hn
  have HT := Aside0.mk hT
  have HSZ := Aside0.mk (And.intro hB hB1)
  have b1 : ((bs.length : Int) != nn) = false := bne_eq_false_iff_eq.mpr he
  have b2 : ((bs.length : Int) == nn) = true := beq_iff_eq.mpr he
  clear hR h1 hx hk hO hV hb hn hT he hnn hx0 hi hB hB1 hc1 hbn hal hs2 hs3 hsl2 hsll
  go_enter Try.func26, Try.ntmps26
  go_wp2_with (first | ((with_reducible refine gate_dst (N := 4) rfl ?_); refine wpList_box rfl 49 (.tmp 0) rfl [.int .i64 (i : Int), Cx b n] rfl ?_; intro w2 hkp hb_ hsz_; have KP := Aside0.mk hkp; clear hkp hsz_; have n0_ := Aside0.mk (below_step HB.out hb_); have n1_ := Aside0.mk (blk_below KX.out hb_); have n2_ := Aside0.mk (blk_below KO.out hb_); have n3_ := Aside0.mk (Kd.R_below HO.out hb_); have n4_ := Aside0.mk (Kd.C_below HV.out hb_); have n5_ := Aside0.mk (below_step H1.out hb_); clear HB KX KO HO HV H1 hb_; have HB := n0_; have KX := n1_; have KO := n2_; have HO := n3_; have HV := n4_; have H1 := n5_; clear n0_ n1_ n2_ n3_ n4_ n5_; have y0 := (blk_cell KP.out 0).trans rfl; have y1 := (blk_cell KP.out 1).trans rfl) | (go_at_call 27; with_reducible refine (parts_calls HI1.out HI2.out _).mono ?_; rintro e w3 ⟨rfl, hb_⟩; have nP_ := Aside0.mk (blk_below KP.out hb_); clear KP y0 y1; have KP := nP_; clear nP_; have n0_ := Aside0.mk (below_step HB.out hb_); have n1_ := Aside0.mk (blk_below KX.out hb_); have n2_ := Aside0.mk (blk_below KO.out hb_); have n3_ := Aside0.mk (Kd.R_below HO.out hb_); have n4_ := Aside0.mk (Kd.C_below HV.out hb_); have n5_ := Aside0.mk (below_step H1.out hb_); clear HB KX KO HO HV H1 hb_; have HB := n0_; have KX := n1_; have KO := n2_; have HO := n3_; have HV := n4_; have H1 := n5_; clear n0_ n1_ n2_ n3_ n4_ n5_; have y0 := (blk_cell KP.out 0).trans rfl; have y1 := (blk_cell KP.out 1).trans rfl; have zx := (blk_cell KX.out 34).trans ((List.getElem?_toArray).trans (enV_34 x _ _ HT.out)); have zo := (blk_cell KO.out 0).trans rfl; have hcell := (H1.out.cell (World.block_lt_of_cell? w1 _ HX0.out)).trans HX0.out))
  have HSL := Aside0.mk (Kd.C_below HSLW.out (below_drew1 HB.out))
  have HSB := Aside0.mk (show B ≤ w3.drew.heap.size from Nat.le_trans HSZ.out.1 HB.out.size)
  refine start_ (n := 9) (S := fun w' => w'.cell? ⟨go, 0, none⟩ = some Vo) (ds := [8]) #[false, false, false, false, false, false, false, false, false] (by kernel_rfl) rfl rfl (zo) (fun hHeld => ?_)
  refine pure_ (i := 1) (N := some 32) (v := ?_) (a' := ?_) #[false, true, false, false, false, false, false, false, false] rfl rfl (by kernel_rfl) (fun _ _ _ h => h) (Or.inl ⟨by rfl, ?_⟩) ?_ ?_
  rotate_left
  · intro w'
    go_simp
    with_reducible rfl
  rotate_left
  · simp only [Act.put, List.setIfInBounds_toArray, List.set_cons_zero, List.set_cons_succ, i64_w, i32_w]
    rfl
  refine pure_ (i := 2) (N := some 33) (v := ?_) (a' := ?_) #[false, true, true, false, false, false, false, false, false] rfl rfl (by kernel_rfl) (fun _ _ _ h => h) (Or.inl ⟨by rfl, ?_⟩) ?_ ?_
  rotate_left
  · intro w'
    go_simp
    with_reducible rfl
  rotate_left
  · simp only [Act.put, List.setIfInBounds_toArray, List.set_cons_zero, List.set_cons_succ, i64_w, i32_w]
    rfl
  refine pure_ (i := 3) (N := some 34) (v := ?_) (a' := ?_) #[false, true, true, true, false, false, false, false, false] rfl rfl (by kernel_rfl) (fun _ _ _ h => h) (Or.inl ⟨by rfl, ?_⟩) ?_ ?_
  rotate_left
  · intro w'
    go_simp
    with_reducible rfl
  rotate_left
  · simp only [Act.put, List.setIfInBounds_toArray, List.set_cons_zero, List.set_cons_succ, i64_w, i32_w]
    rfl
  refine pure_ (i := 4) (N := some 35) (v := ?_) (a' := ?_) #[false, true, true, true, true, false, false, false, false] rfl rfl (by kernel_rfl) (fun _ _ _ h => h) (Or.inl ⟨by rfl, ?_⟩) ?_ ?_
  rotate_left
  · intro w'
    go_simp
    with_reducible rfl
  rotate_left
  · simp only [Act.put, List.setIfInBounds_toArray, List.set_cons_zero, List.set_cons_succ, i64_w, i32_w]
    rfl
  refine pure_ (i := 5) (N := some 36) (v := ?_) (a' := ?_) #[false, true, true, true, true, true, false, false, false] rfl rfl (by kernel_rfl) (fun _ _ _ h => h) (Or.inl ⟨by rfl, ?_⟩) ?_ ?_
  rotate_left
  · intro w'
    go_simp
    with_reducible rfl
  rotate_left
  · simp only [Act.put, List.setIfInBounds_toArray, List.set_cons_zero, List.set_cons_succ, i64_w, i32_w]
    rfl
  refine pure_ (i := 6) (N := some 37) (v := ?_) (a' := ?_) #[false, true, true, true, true, true, true, false, false] rfl rfl (by kernel_rfl) (fun _ _ _ h => h) (Or.inl ⟨by rfl, ?_⟩) ?_ ?_
  rotate_left
  · intro w'
    go_simp
    with_reducible rfl
  rotate_left
  · simp only [Act.put, List.setIfInBounds_toArray, List.set_cons_zero, List.set_cons_succ, i64_w, i32_w]
    rfl
  refine take_ (i := 0) (N := some 31) (v := ?_) (a' := ?_) #[true, true, true, true, true, true, true, false, false] rfl rfl (by kernel_rfl) (fun _ _ _ h => h) (Or.inl ⟨by rfl, ?_⟩) hHeld ?_ ?_
  rotate_left
  · intro w' s0
    go_simp
    with_reducible rfl
  rotate_left
  · simp only [Act.put, List.setIfInBounds_toArray, List.set_cons_zero, List.set_cons_succ, i64_w, i32_w]
    rfl
  refine one_ (i := 7) (N := some 38) #[true, true, true, true, true, true, true, true, false] rfl rfl (by kernel_rfl) (by decide) (fun K hK => ?_)
  refine Kd.R_append_rows_step (Kd.int .u8) (w0 := W) B (by rfl) (.tmp 31) (.tmp 37) 53 5 (.int .u8 0) 1 rfl Try.underlying53 info5 rfl Nat.zero_lt_one Nat.zero_lt_one Vo acc sl _ _ _ (fun _ => True) (fun _ => False) rfl rfl ?aO ?aR (fun _ _ h => h) (fun _ h => h.elim) ?aF ?aB ?aS ?aL ?_
  case aR => exact HSL.out
  case aB => exact (below_drew1 (HB.out.mono HSZ.out.1))
  case aF => exact (fun _ _ => trivial)
  case aO => exact (Kd.R_drew HO.out)
  case aS => exact HSB.out
  case aL => exact HAL.out
  intro V9 w9 ho hb9 hg hat
  have nK_ := Aside0.mk (blk_grown (w := w3.drew) KO.out hg (Kd.R_ne HO.out KO.out (by decide)))
  have HGR := Aside0.mk hg
  have HAT := Aside0.mk hat
  have HB9 := Aside0.mk hb9
  clear KO HO hb9 hat hg
  have KO := nK_
  have HO := Aside0.mk ho
  clear nK_ ho
  obtain ⟨A9, c9, e9⟩ := Kd.R_slice HO.out
  generalize (acc ++ sl).length = m9 at e9
  subst e9
  refine hK.out _ _ ((blk_cell KO.out 0).trans rfl) (fun hHeld => ?_)
  clear hK K
  refine norm_ (a' := ?_) ?_ ?_
  rotate_left
  · show Act.put _ (some 38) _ = _
    simp only [Act.put, List.setIfInBounds_toArray, List.set_cons_zero, List.set_cons_succ, i64_w, i32_w]
    rfl
  refine last_ (i := 8) (N := none) #[true, true, true, true, true, true, true, true, true] rfl rfl (by kernel_rfl) (by decide) (fun K hK => ?_)
  have r1 := (blk_cell KO.out 0).trans rfl
  have r2 := blk_frozen KO.out 0
  refine skip_ (w1 := ?_) (by rfl) rfl ?_ ?_
  rotate_left
  · go_simp
    rfl
  have n1_ := Aside0.mk (show (w9.setCell ⟨go, 0, none⟩ (.slice A9 m9 c9)).heap[go]? = some (.cells #[.slice A9 m9 c9] 53 (0, 0)) from blk_put KO.out 0 _ rfl)
  have n2_ := Aside0.mk (Kd.R_set HO.out KO.out (by decide) 0 (.slice A9 m9 c9))
  have HGO := Aside0.mk KO.out
  have HSG := Aside0.mk (World.size_setCell w9 ⟨go, 0, none⟩ (.slice A9 m9 c9))
  have HSK := Aside0.mk (fun k (hk : k ≠ go) => Below.heap_setCell w9 ⟨go, 0, none⟩ (.slice A9 m9 c9) k hk)
  have HON := Aside0.mk ((Only.refl go w9).set 0 (.slice A9 m9 c9))
  clear KO HO r1 r2
  have KO := n1_
  have HO := n2_
  clear n1_ n2_
  generalize w9.setCell ⟨go, 0, none⟩ (.slice A9 m9 c9) = w10 at *
  refine hK.out _ _ ?_
  clear hK K
  refine done_ (by kernel_rfl) ?_
  go_wp2
  go_ret
  refine ⟨rfl, _, KO.out, HO.out, ?_⟩
  have hB10 := HB9.out
  have hON := HON.out
  have hz := HSG.out
  refine ⟨hON.os.trans hB10.os, hON.tape.trans hB10.tape, hON.output.trans hB10.output, ?_, fun k hk hne hnr => ?_⟩
  · rw [hz]; exact Nat.le_trans HB.out.size HGR.out.size
  · rw [HSK.out k hne, HGR.out.block k (Nat.lt_of_lt_of_le hk HB.out.size) hnr]
    exact HB.out.block k hk
end Go.Proofs.Ytphpinfingaffaa.Law
