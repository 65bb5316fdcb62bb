/- CodecBack: the walk. -/
import Derived.Test.YteonbbfegnjjeaaPuts
import Derived.Test.YteonbbfegnjjeaaPlain
namespace Go.Proofs.Yteonbbfegnjjeaa.Law
open Go.RowKit Go.Proofs.Yteonbbfegnjjeaa Go.Proofs.YteonbbfegnjjeaaW.PrintWords Go.Proofs.YteonbbfegnjjeaaW.PrintLast Go.Proofs.YteonbbfegnjjeaaW.PrintMore Go.Proofs.Yteonbbfegnjjeaa.D
set_option maxHeartbeats 4000000 in
set_option maxRecDepth 100000 in
theorem back_0 (n : Int) (m : Nat) (A B : Option Addr) (c d k1 k2 : Nat) (s t tb bts rs : List Int) (w : World) (hs : Kd.C (Kd.int .u8) w A s.length s) (hc : s.length ≤ c) (ht : Kd.C (Kd.int .u8) w B t.length t) (hm1 : s.length ≤ 1048576) (hm2 : t.length ≤ 1048576)
    (hln : (numB [] n).length ≤ 8) (htb : textB (numB [] n) s = tb) (hbt : bts = tb ++ t) (htl : tb.length ≤ 1048600) (hY : Bytes bts) (hp1 : numP bts 0 0 far = ((m : Int), k1, 0)) (hd1 : bts.drop k1 = rs) (hp2 : textP rs 0 s.length = (s, k2, 0)) (hd2 : rs.drop k2 = t)
    (hcase : (n < 0 ∧ m = 0) ∨ (9007199254740992 < n ∧ m = 9007199254740992) ∨ (0 ≤ n ∧ n ≤ 9007199254740992 ∧ n = m)) :
    Calls Try.prog 4 #[.int .i64 n, .slice A s.length c, .slice B t.length d] w fun e w' => e = .returned (.bool true) ∧ Below w.heap.size w w' := by
  have HS := Aside0.mk (show Rd w (.slice A s.length c) s from ⟨A, c, rfl, hs, hc⟩)
  have HT := Aside0.mk ht
  have HTB := Aside0.mk htb
  have HBT := Aside0.mk hbt
  have HLB := Aside0.mk (show bts.length ≤ 2100000 by rw [hbt, List.length_append]; omega)
  have HLR := Aside0.mk (show rs.length ≤ 2100000 by rw [← hd1, List.length_drop]; have := HLB.out; omega)
  have HY := Aside0.mk hY
  have HP1 := Aside0.mk hp1
  have HD1 := Aside0.mk hd1
  have HP2 := Aside0.mk hp2
  have HD2 := Aside0.mk hd2
  have HLN := Aside0.mk hln
  clear hs hc ht htb hbt hY hp1 hd1 hp2 hd2 hln
  rcases hcase with ⟨h, rfl⟩ | ⟨h, rfl⟩ | ⟨h0, h1, h2⟩
  all_goals (try (have hnm : ((m : Int) == n) = true := beq_iff_eq.mpr h2.symm; clear h2))
  all_goals
    go_enter Try.func4, Try.ntmps4
    go_wp2_with (first | (go_at_call 10; refine (number_calls (Rd.nil w) (by decide) n).mono ?_; rintro e w1 ⟨V1, rfl, hv, hb⟩; have R1 := Aside0.mk (Rd.own hv); have HB1 := Aside0.mk hb; clear hv hb) | (go_at_call 9; refine (own_calls (HS.out.below HB1.out) (by omega)).mono ?_; rintro e w2 ⟨V2, rfl, hv, hb⟩; have R2 := Aside0.mk (Rd.own hv); have R1b := Aside0.mk (R1.out.below hb); have HB2 := Aside0.mk (below_step HB1.out hb); have HTq := Aside0.mk (Kd.C_below HT.out HB2.out); clear hv hb) | (go_at_call 12; refine (puttext_calls R1b.out R2.out (by have := HLN.out; omega)).mono ?_; rw [HTB.out]; rintro e w3 ⟨vHO1, rfl, ho, hb⟩; have HB := Aside0.mk hb; have HO1 := Aside0.mk ho; clear hb ho) | ((with_reducible refine gate_builtin (b := .append) (xs := #[.tmp 16, .tmp 17]) rfl ?_); (try (refine gate_guard (by rfl) ?_; dsimp only)); at_builtin; refine Kd.R_append_rows (Kd.int .u8) (w0 := w2) w2.heap.size rfl (.tmp 16) (.tmp 17) 22 5 (.int .u8 0) 1 rfl Try.underlying22 info5 rfl (by decide) (by omega) vHO1 tb t _ _ _ (fun _ => True) (fun _ => False) rfl rfl ?aO ?aR (fun _ _ h => h) (fun _ h => h.elim) ?aF ?aB ?aS ?aL ?_; (case aR => repeat (first | exact (Kd.C_below HTq.out HB.out) | (with_reducible refine Kd.C_alloc ?_ _) | (with_reducible refine Kd.C_drewN ?_ _) | (with_reducible refine Kd.C_drew ?_))); (case aB => exact (by repeat (first | (with_reducible first | exact HB.out | apply below_alloc | apply pw_below_drewN | apply below_drew1) | exact HB.out))); (case aF => exact (fun _ _ => trivial)); (case aO => exact (by (with_reducible repeat (first | apply Kd.R_alloc | apply Kd.R_drewN | apply Kd.R_drew)); exact HO1.out)); (case aS => exact (below_size (by repeat (first | (with_reducible first | exact HB.out | apply below_alloc | apply pw_below_drewN | apply below_drew1) | exact HB.out)))); (case aL => omega); intro vHO2 wHO2 ho hb hg hat; (try rw [List.nil_append] at ho); rw [← HBT.out] at ho; have n0_ := Aside0.mk (hb); have n1_ := Aside0.mk (ho); clear HB; clear HO1; have HB := n0_; have HO2 := n1_; clear n0_ n1_; clear ho hb hg hat) | (go_at_call 15; refine (from_calls (Rd.own HO2.out) (by have := HLB.out; omega)).mono ?_; rintro e w5 ⟨V5, rfl, hv, hb⟩; have HB5 := Aside0.mk (below_step (below_step HB2.out HB.out) hb); have HS5 := Aside0.mk (Scn.own hv HY.out 0); clear hv hb) | (go_at_call 16; refine (num_calls HS5.out (Below.refl _ _) 0 9007199254740992).mono ?_; rw [show (9007199254740992 : Int) = far from rfl, HP1.out]; dsimp only; rw [HD1.out]; rintro e w6 ⟨v6, rfl, ⟨A6, c6, rfl, hr6, hc6, hy6⟩, hb⟩; have HS6 := Aside0.mk (show Scn w5 (.agg #[.slice A6 rs.length c6, .int .i64 0]) rs 0 from ⟨A6, c6, rfl, hr6, hc6, hy6⟩); have HB6 := Aside0.mk hb; clear hr6 hc6 hy6 hb) | (go_at_call 17; refine (text_calls HS6.out (below_alloc HB6.out (.cells #[.slice A6 rs.length c6, .int .i64 0] 30)) (by have := HLR.out; omega) (s.length : Int)).mono ?_; rw [HP2.out]; dsimp only; rw [HD2.out]; rintro e w8 ⟨V8, v8, rfl, hv, ⟨A8, c8, rfl, hr8, hc8, hy8⟩, hb⟩; have HS8 := Aside0.mk (show Scn w5 (.agg #[.slice A8 t.length c8, .int .i64 0]) t 0 from ⟨A8, c8, rfl, hr8, hc8, hy8⟩); have R8 := Aside0.mk (Rd.own hv); have HB8 := Aside0.mk (below_alloc (below_step (below_alloc HB6.out (.cells #[.slice A6 rs.length c6, .int .i64 0] 30)) hb) (.cells #[.slice A8 t.length c8, .int .i64 0] 30)); have K6 := Aside0.mk (blk_below (blk_below (heap_alloc_new w6 (.cells #[.slice A6 rs.length c6, .int .i64 0] 30)) hb) (below_alloc (Below.refl w8.heap.size w8) (.cells #[.slice A8 t.length c8, .int .i64 0] 30))); have z0_ := (blk_cell K6.out 0).trans rfl; have z1_ := (blk_cell K6.out 1).trans rfl; clear hr8 hc8 hy8 hv hb) | (go_at_call 18; (with_reducible refine (err_calls (l := rs) (er := 0) ?hs).mono ?_); (case hs => exact HS6.out.below HB8.out); rintro e w9 ⟨rfl, hb⟩; have HB9 := Aside0.mk (below_step HB8.out hb); have K8 := Aside0.mk (blk_below (heap_alloc_new w8 (.cells #[.slice A8 t.length c8, .int .i64 0] 30)) hb); have y0_ := (blk_cell K8.out 0).trans rfl; have y1_ := (blk_cell K8.out 1).trans rfl; have cv1 := conv_str ((R8.out.below (below_alloc (Below.refl w8.heap.size w8) (.cells #[.slice A8 t.length c8, .int .i64 0] 30))).below hb); have cv2 := conv_str (HS.out.below (below_step HB5.out HB9.out)); clear hb) | (go_at_call 18; refine (err_calls (HS8.out.below HB9.out)).mono ?_; rintro e w10 ⟨rfl, hb⟩; have HB10 := Aside0.mk (below_step HB9.out hb); have K10 := Aside0.mk (blk_below K8.out hb); have x0_ := (blk_cell K10.out 0).trans rfl; have x1_ := (blk_cell K10.out 1).trans rfl; clear hb) | (go_at_call 19; refine (left_calls (HS8.out.below HB10.out)).mono ?_; rintro e w11 ⟨rfl, hb⟩; have HB11 := Aside0.mk (below_step HB10.out hb); clear hb) | (go_at_call 14; refine (awake_calls _).mono ?_; rintro e w12 ⟨rfl, hb⟩; have HB12 := Aside0.mk (below_step HB11.out hb); clear hb))
    go_ret
    exact ⟨rfl, below_step HB5.out HB12.out⟩
theorem back_walk (a1 : Int) (a2 : Option Addr) (len2 cap2 : Nat) (z2 : List Int) (a3 : Option Addr) (len3 cap3 : Nat) (z3 : List Int) (w : World) (_ : (Lit.int .i64 a1).wf = true) (w2 : IsRow .u8 w a2 len2 cap2 z2) (y2 : len2 ≤ 1048576) (w3 : IsRow .u8 w a3 len3 cap3 z3) (y3 : len3 ≤ 1048576) :
    Calls Try.prog 4 #[.int .i64 a1, .slice a2 len2 cap2, .slice a3 len3 cap3] w fun e w' => e = .returned (.bool true) ∧ Below w.heap.size w w' := by
  obtain ⟨s, rfl, hr2, hb2, hc2⟩ := w2.opened
  obtain ⟨t, rfl, hr3, hb3, _⟩ := w3.opened
  have h0 : Bytes [] := fun x hx => by cases hx
  have e : textB (numB [] a1) s ++ t = numB [] a1 ++ (textB [] s ++ t) := by
    unfold textB numB
    simp only [List.nil_append, List.append_assoc]
  have hl1 := numB_len [] a1
  have hl2 := numB_len (numB [] a1) s.length
  obtain ⟨k2, hp2, hd2⟩ := text_put s t (by omega)
  have hp1 := num_put a1 (textB [] s ++ t)
  have hd1 := drop_put a1 (textB [] s ++ t)
  rw [← e] at hp1 hd1
  refine back_0 a1 (clamp a1) a2 a3 cap2 cap3 _ k2 s t _ _ _ w hr2 hc2 hr3 y2 y3 ?_ rfl rfl ?_ ((textB_bytes (numB_bytes h0 a1) hb2).app hb3) hp1 hd1 hp2 hd2 ?_
  · have : ([] : List Int).length = 0 := rfl
    omega
  · have h : (textB (numB [] a1) s).length = (numB (numB [] a1) s.length).length + s.length := by unfold textB; rw [List.length_append]
    have : ([] : List Int).length = 0 := rfl
    omega
  · unfold clamp; omega
end Go.Proofs.Yteonbbfegnjjeaa.Law
