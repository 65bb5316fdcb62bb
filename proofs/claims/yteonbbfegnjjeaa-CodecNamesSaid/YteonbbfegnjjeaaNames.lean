/- Names: what it tells, the walks. -/
import Derived.Test.YteonbbfegnjjeaaForm
namespace Go.Proofs.Yteonbbfegnjjeaa.Law
open Go.RowKit Go.Proofs.Yteonbbfegnjjeaa Go.Proofs.YteonbbfegnjjeaaW.PrintWords Go.Proofs.YteonbbfegnjjeaaW.PrintLast Go.Proofs.YteonbbfegnjjeaaW.PrintMore Go.Proofs.Yteonbbfegnjjeaa.D
set_option linter.unusedSimpArgs false
theorem info9 : (Try.prog.info? 9).map (fun i => (i.zero, i.size, i.bytes)) = some (some (.string ByteArray.empty), 1, 16) := by kernel_rfl
/-- so many texts: those told, what is left, why no more -/
def namesGo : Nat → List Int → List ByteArray × List Int × Int
  | 0, l => ([], l, 0)
  | n + 1, l => if (textP l 0 32).2.2 ≠ 0 then ([], l.drop (textP l 0 32).2.1, (textP l 0 32).2.2) else (strOfNums (textP l 0 32).1 :: (namesGo n (l.drop (textP l 0 32).2.1)).1, (namesGo n (l.drop (textP l 0 32).2.1)).2)
/-- what Names tells -/
def namesP (l : List Int) (most : Int) : List ByteArray × Int :=
  if (numP l 0 0 most).2.2 ≠ 0 then ([], (numP l 0 0 most).2.2)
  else if (namesGo (numP l 0 0 most).1.toNat (l.drop (numP l 0 0 most).2.1)).2.2 ≠ 0 then ([], (namesGo (numP l 0 0 most).1.toNat (l.drop (numP l 0 0 most).2.1)).2.2)
  else if endP (namesGo (numP l 0 0 most).1.toNat (l.drop (numP l 0 0 most).2.1)).2.1 0 ≠ 0 then ([], endP (namesGo (numP l 0 0 most).1.toNat (l.drop (numP l 0 0 most).2.1)).2.1 0)
  else ((namesGo (numP l 0 0 most).1.toNat (l.drop (numP l 0 0 most).2.1)).1, 0)
theorem num_ne {l : List Int} {a b : Int} (h : (numP l 0 a b).2.2 ≠ 0) : (numP l 0 a b).1 = 0 ∧ (numP l 0 a b).2.1 = 0 := by
  revert h; unfold numP
  rw [if_neg (by omega)]
  split
  · intro _; exact ⟨rfl, rfl⟩
  · split
    · intro _; exact ⟨rfl, rfl⟩
    · intro h; exact absurd rfl h
theorem text_takes {l : List Int} {most : Int} (hb : Bytes l) (h : (textP l 0 most).2.2 = 0) : 1 ≤ (textP l 0 most).2.1 ∧ (textP l 0 most).2.1 ≤ l.length := by
  revert h; unfold textP
  split
  · intro h; rename_i h1; exact absurd h h1
  · rename_i h1
    have h2 : (numP l 0 0 far).2.2 = 0 := by omega
    obtain ⟨k1, _, k3, k4⟩ : 1 ≤ (numP l 0 0 far).2.1 ∧ (numP l 0 0 far).2.1 ≤ l.length ∧ True ∧ True := by
      revert h2; unfold numP
      rw [if_neg (by omega)]
      split
      · intro h; rename_i h3; exact absurd h h3
      · rename_i h3
        split
        · intro h; exact absurd h (by decide)
        · intro _
          obtain ⟨_, a, b⟩ := nx_len hb (show (nx l).2.2 = 0 by omega)
          exact ⟨by dsimp only; omega, by dsimp only; omega, trivial, trivial⟩
    generalize numP l 0 0 far = p at *
    split
    · intro h; exact absurd h (by dsimp only; decide)
    · split
      · intro h; exact absurd h (by dsimp only; decide)
      · rename_i h3 h4
        intro _
        unfold fixP
        rw [List.length_drop] at *
        split
        · dsimp only; omega
        · dsimp only; omega
set_option maxHeartbeats 4000000 in
set_option maxRecDepth 100000 in
theorem names_ok (A : Option Addr) (c N k : Nat) (most : Int) (l rest : List Int) (res : List ByteArray) (re : Int) (w : World) (hr : Kd.C (Kd.int .u8) w A l.length l) (hc : l.length ≤ c) (hy : Bytes l) (hm : l.length ≤ 4000) (hNf : N ≤ 9007199254740992)
    (hp : numP l 0 0 most = ((N : Int), k, 0)) (hd : l.drop k = rest)
    (g1 : (namesGo N rest).2.2 ≠ 0 → res = [] ∧ re = (namesGo N rest).2.2) (g2 : (namesGo N rest).2.2 = 0 → endP (namesGo N rest).2.1 0 ≠ 0 → res = [] ∧ re = endP (namesGo N rest).2.1 0)
    (g3 : (namesGo N rest).2.2 = 0 → endP (namesGo N rest).2.1 0 = 0 → res = (namesGo N rest).1 ∧ re = 0) :
    Calls Try.prog 23 #[.slice A l.length c, .int .i64 most] w fun x w' => ∃ V, x = .returned (.tuple #[V, .int .i64 re]) ∧ Kd.R Kd.string 9 w' w.heap.size (fun _ => True) V res ∧ Below w.heap.size w w' := by
  have HL := Aside0.mk (show Rd w (.slice A l.length c) l from ⟨A, c, rfl, hr, hc⟩)
  have HY := Aside0.mk hy
  have HP := Aside0.mk hp
  have HD := Aside0.mk hd
  have G1 := Aside0.mk g1
  have G2 := Aside0.mk g2
  have G3 := Aside0.mk g3
  have hrl : rest.length ≤ 4000 := by rw [← hd, List.length_drop]; omega
  clear hr hc hy hp hd g1 g2 g3
  go_enter Try.func23, Try.ntmps23
  go_wp2_with (first | (go_at_call 15; refine (from_calls HL.out (by omega)).mono ?_; rintro e_ w2 ⟨V2, rfl, hv, hb⟩; have HS2 := Aside0.mk (Scn.own hv HY.out 0); have HW2 := Aside0.mk hb; clear hv hb) | (go_at_call 16; refine (num_calls HS2.out (Below.refl _ _) 0 most).mono ?_; rw [HP.out]; dsimp only; rw [HD.out]; rintro e_ w3 ⟨v3, rfl, ⟨A3, c3, rfl, hr3, hc3, hy3⟩, hb⟩; have HR3 := Aside0.mk (show Kd.C (Kd.int .u8) w3 A3 rest.length rest ∧ rest.length ≤ c3 ∧ Bytes rest from ⟨Kd.C_below hr3 hb, hc3, hy3⟩); have HW3 := Aside0.mk (below_step HW2.out hb); have K := Aside0.mk (heap_alloc_new w3 (.cells #[.slice A3 rest.length c3, .int .i64 0] 30)); have HB := Aside0.mk (below_alloc (Below.refl w3.heap.size w3) (.cells #[.slice A3 rest.length c3, .int .i64 0] 30)); clear hr3 hc3 hy3 hb))
  obtain ⟨g, hg⟩ : ∃ g, g = w3.heap.size := ⟨_, rfl⟩
  rw [← hg] at K ⊢
  have HGG := Aside0.mk (Nat.le_of_eq hg.symm)
  clear hg
  generalize w3.alloc (.cells #[.slice A3 rest.length c3, .int .i64 0] 30) = wq at *
  have HO := Aside0.mk (Kd.R_nil Kd.string 9 wq w3.heap.size (fun k_ => k_ ≠ g))
  go_loopw [9, 20] (fun v9 v20 wr => ∃ (i : Nat) (lr : List Int) (outs : List ByteArray) (Ar : Option Addr) (cr : Nat), i ≤ N ∧ v20 = .int .i64 i ∧ outs.length + lr.length ≤ 4000 ∧ Aside0 (Kd.R Kd.string 9 wr w3.heap.size (fun k_ => k_ ≠ g) v9 outs) ∧ Aside0 (wr.heap[g]? = some (.cells #[.slice Ar lr.length cr, .int .i64 0] 30 (0, 0))) ∧ Aside0 (Kd.C (Kd.int .u8) w3 Ar lr.length lr ∧ lr.length ≤ cr ∧ Bytes lr) ∧ Aside0 (Below w3.heap.size w3 wr) ∧ Aside0 (namesGo N rest = (outs ++ (namesGo (N - i) lr).1, (namesGo (N - i) lr).2))) (fun _ v20 _ => N - (intOf v20).toNat)
  case atStart => exact ⟨0, rest, [], A3, c3, by omega, rfl, by simp only [List.length_nil]; omega, HO, K, HR3, HB, ⟨rfl⟩⟩
  case round =>
    obtain ⟨i, lr, outs, Ar, cr, hi, rfl, hol, HOr, Kr, HRr, HBr, HGo⟩ := hrel
    obtain ⟨wo, rfl⟩ : ∃ x : World, x = wr := ⟨_, rfl⟩
    clear HO K HB
    have HO := HOr
    have K := Kr
    have HB := HBr
    clear HOr Kr HBr
    have HLr := Aside0.mk hol
    have HGL := Aside0.mk (blk_lt K.out)
    have hz0 := (blk_cell K.out 0).trans rfl
    have hz1 := (blk_cell K.out 1).trans rfl
    by_cases hlt : i < N
    · have hltb : decide ((i : Int) < (N : Int)) = true := decide_eq_true (by omega)
      have hwi : wrap64 ((i : Int) + 1) = (i : Int) + 1 := w64 (by omega) (by omega)
      obtain ⟨x, k2, e4, hp2⟩ : ∃ x k2 e4, textP lr 0 32 = (x, k2, e4) := ⟨_, _, _, rfl⟩
      obtain ⟨l4, hd2⟩ : ∃ l4, lr.drop k2 = l4 := ⟨_, rfl⟩
      have HP2 := Aside0.mk hp2
      have HD2 := Aside0.mk hd2
      have hst : namesGo (N - i) lr = if e4 ≠ 0 then ([], l4, e4) else (strOfNums x :: (namesGo (N - (i + 1)) l4).1, (namesGo (N - (i + 1)) l4).2) := by
        rw [show N - i = (N - (i + 1)) + 1 by omega, namesGo, hp2]; dsimp only; rw [hd2]
      by_cases he : e4 = 0
      · subst he
        rw [if_neg (by decide)] at hst
        have htk := text_takes HRr.out.2.2 (show (textP lr 0 32).2.2 = 0 by rw [hp2])
        rw [hp2] at htk
        have hl4 : l4.length + 1 ≤ lr.length := by rw [← hd2, List.length_drop]; dsimp only at htk; omega
        have hol4 : (outs ++ [strOfNums x]).length + l4.length ≤ 4000 := by rw [List.length_append, List.length_singleton]; omega
        have HST := Aside0.mk (show namesGo N rest = ((outs ++ [strOfNums x]) ++ (namesGo (N - (i + 1)) l4).1, (namesGo (N - (i + 1)) l4).2) by rw [HGo.out, hst]; simp only [List.append_assoc, List.singleton_append])
        clear hst htk hp2 hd2 HGo
        go_wp2_with (first | (go_at_call 17; refine (text_calls (w0 := w3) (v := .agg #[.slice Ar lr.length cr, .int .i64 0]) ⟨Ar, cr, rfl, HRr.out.1, HRr.out.2.1, HRr.out.2.2⟩ HB.out (by have := HLr.out; omega) 32).mono ?_; rw [HP2.out]; dsimp only; rw [HD2.out]; rintro e_ w4 ⟨Vx, v4, rfl, hv, ⟨A4, c4, rfl, hr4, hc4, hy4⟩, hb⟩; have K4 := blk_below K.out hb; have hz0 := (blk_cell K4 0).trans rfl; have hz1 := (blk_cell K4 1).trans rfl; have hf0 := blk_frozen K4 0; have hf1 := blk_frozen K4 1; have n0_ := Aside0.mk (show ((w4.setCell ⟨g, 0, none⟩ (.slice A4 l4.length c4)).setCell ⟨g, 1, none⟩ (.int .i64 0)).heap[g]? = some (.cells #[.slice A4 l4.length c4, .int .i64 0] 30 (0, 0)) from blk_put (blk_put K4 0 _ rfl) 1 _ rfl); have hs0 := (blk_cell n0_.out 0).trans rfl; have hs1 := (blk_cell n0_.out 1).trans rfl; have cv_ := conv_str (Rd.own (R_set_low (R_set_low hv (p := ⟨g, 0, none⟩) (blk_lt K.out) (.slice A4 l4.length c4)) (p := ⟨g, 1, none⟩) (blk_lt K.out) (.int .i64 0))); have n1_ := Aside0.mk (Kd.R_far (p := ⟨g, 1, none⟩) (Kd.R_far (p := ⟨g, 0, none⟩) (Kd.R_below HO.out hb) (fun _ h_ => h_) (.slice A4 l4.length c4)) (fun _ h_ => h_) (.int .i64 0)); have n2_ := Aside0.mk (below_set (j := 1) (v := .int .i64 0) (below_set (j := 0) (v := .slice A4 l4.length c4) (below_step HB.out hb) HGG.out) HGG.out); have HR4 := Aside0.mk (show Kd.C (Kd.int .u8) w3 A4 l4.length l4 ∧ l4.length ≤ c4 ∧ Bytes l4 from ⟨hr4, hc4, hy4⟩); clear HB HO K; have HB := n2_; have HO := n1_; have K := n0_; clear n0_ n1_ n2_ hr4 hc4 hy4 hv hb; have HMARK := trivial) | ((with_reducible refine gate_dst (N := 36) rfl ?_); clear HMARK; generalize ((w4.setCell ⟨g, 0, none⟩ (.slice A4 l4.length c4)).setCell ⟨g, 1, none⟩ (.int .i64 0)) = wz at *) | ((with_reducible refine gate_builtin (b := .append) (xs := #[.tmp 33, .tmp 36]) rfl ?_); at_builtin; (refine Kd.R_append Kd.string (w0 := w3) w3.heap.size rfl (.tmp 33) (.tmp 36) 50 9 (.string ByteArray.empty) 16 rfl Try.underlying50 info9 rfl (by decide) (by omega) u9 outs (strOfNums x) [.string (strOfNums x)] (fun k_ => k_ ≠ g) (fun _ => False) rfl rfl ?aP (fun _ hk => hk.elim) ?aF ?aO ?aB ?aS ?aL ?_); (case aP => exact rfl); (case aB => exact HB.out); (case aF => exact (fun k_ hk => by have := blk_lt K.out; omega)); (case aO => exact HO.out); (case aS => exact HB.out.size); (case aL => omega); intro vHO5 wHO5 ho hb hg hat; have n0_ := Aside0.mk (hb); have n1_ := Aside0.mk (ho); have n2_ := Aside0.mk (blk_grown K.out hg (fun h_ => HO.out.1 _ h_.symm rfl)); clear HB; clear HO; clear K; have HB := n0_; have HO5 := n1_; have K := n2_; clear n0_ n1_ n2_; clear ho hb hg hat))
        go_roundw
        case rel => exact ⟨i + 1, l4, _, A4, c4, by omega, by go_num, hol4, HO5, K, HR4, HB, HST⟩
        case measure => simp [intOf]; omega
      · have he1 : (e4 != 0) = true := bne_iff_ne.mpr he
        rw [if_pos he] at hst
        have h2 : (namesGo N rest).2.2 = e4 := by rw [HGo.out, hst]
        obtain ⟨rfl, hre⟩ := G1.out (by rw [h2]; exact he)
        rw [h2] at hre
        obtain rfl : e4 = re := hre.symm
        clear hst hp2 hd2 HGo G1 G2 G3
        go_wp2_with (first | (go_at_call 17; refine (text_calls (w0 := w3) (v := .agg #[.slice Ar lr.length cr, .int .i64 0]) ⟨Ar, cr, rfl, HRr.out.1, HRr.out.2.1, HRr.out.2.2⟩ HB.out (by have := HLr.out; omega) 32).mono ?_; rw [HP2.out]; dsimp only; rw [HD2.out]; rintro e_ w4 ⟨Vx, v4, rfl, hv, ⟨A4, c4, rfl, hr4, hc4, hy4⟩, hb⟩; have K4 := blk_below K.out hb; have hz0 := (blk_cell K4 0).trans rfl; have hz1 := (blk_cell K4 1).trans rfl; have hf0 := blk_frozen K4 0; have hf1 := blk_frozen K4 1; have n0_ := Aside0.mk (show ((w4.setCell ⟨g, 0, none⟩ (.slice A4 l4.length c4)).setCell ⟨g, 1, none⟩ (.int .i64 e4)).heap[g]? = some (.cells #[.slice A4 l4.length c4, .int .i64 e4] 30 (0, 0)) from blk_put (blk_put K4 0 _ rfl) 1 _ rfl); have hs0 := (blk_cell n0_.out 0).trans rfl; have hs1 := (blk_cell n0_.out 1).trans rfl; have cv_ := conv_str (Rd.own (R_set_low (R_set_low hv (p := ⟨g, 0, none⟩) (blk_lt K.out) (.slice A4 l4.length c4)) (p := ⟨g, 1, none⟩) (blk_lt K.out) (.int .i64 e4))); have n1_ := Aside0.mk (Kd.R_far (p := ⟨g, 1, none⟩) (Kd.R_far (p := ⟨g, 0, none⟩) (Kd.R_below HO.out hb) (fun _ h_ => h_) (.slice A4 l4.length c4)) (fun _ h_ => h_) (.int .i64 e4)); have n2_ := Aside0.mk (below_set (j := 1) (v := .int .i64 e4) (below_set (j := 0) (v := .slice A4 l4.length c4) (below_step HB.out hb) HGG.out) HGG.out); have HR4 := Aside0.mk (show Kd.C (Kd.int .u8) w3 A4 l4.length l4 ∧ l4.length ≤ c4 ∧ Bytes l4 from ⟨hr4, hc4, hy4⟩); clear HB HO K; have HB := n2_; have HO := n1_; have K := n0_; clear n0_ n1_ n2_ hr4 hc4 hy4 hv hb))
        go_region
        go_wp2
        go_ret2
        exact ⟨_, rfl, Kd.R_nil _ _ _ _ _, below_drew1 (below_step HW3.out HB.out)⟩
    · obtain rfl : i = N := by omega
      have hltb : decide ((i : Int) < (i : Int)) = false := decide_eq_false (by omega)
      have hgo : namesGo i rest = (outs, lr, 0) := by rw [HGo.out, Nat.sub_self, namesGo, List.append_nil]
      have HOu := HO
      by_cases he : endP lr 0 = 0
      · have h3 := G3.out (by rw [hgo]) (by rw [hgo]; exact he)
        rw [hgo] at h3
        obtain ⟨rfl, rfl⟩ := h3
        clear G1 G2 G3 HGo hgo
        go_wp2_with (first | (go_at_call 21; refine (end_calls (w := wo) (v := .agg #[.slice Ar lr.length cr, .int .i64 0]) ⟨Ar, cr, rfl, Kd.C_below HRr.out.1 HB.out, HRr.out.2.1, HRr.out.2.2⟩).mono ?_; rw [he]; rintro e_ w5 ⟨rfl, hb⟩; have HB5 := Aside0.mk (below_step HB.out hb); have HO5 := Aside0.mk (Kd.R_below HO.out hb); clear hb))
        go_ret2
        exact ⟨_, rfl, Kd.R_lower (Kd.R_mono HO5.out (fun _ _ => trivial)) HW3.out.size, below_step HW3.out HB5.out⟩
      · obtain ⟨rfl, hre⟩ := G2.out (by rw [hgo]) (by rw [hgo]; exact he)
        rw [hgo] at hre
        have HRE := Aside0.mk (show endP lr 0 = re from hre.symm)
        have he1 : (re != 0) = true := bne_iff_ne.mpr (by rw [← HRE.out]; exact he)
        clear hre
        clear G1 G2 G3 HGo hgo
        go_wp2_with (first | (go_at_call 21; refine (end_calls (w := wo) (v := .agg #[.slice Ar lr.length cr, .int .i64 0]) ⟨Ar, cr, rfl, Kd.C_below HRr.out.1 HB.out, HRr.out.2.1, HRr.out.2.2⟩).mono ?_; rw [HRE.out]; rintro e_ w5 ⟨rfl, hb⟩; have HB5 := Aside0.mk (below_step HB.out hb); clear hb))
        go_ret2
        exact ⟨_, rfl, Kd.R_nil _ _ _ _ _, below_step HW3.out HB5.out⟩
set_option maxHeartbeats 4000000 in
set_option maxRecDepth 100000 in
theorem names_e (A : Option Addr) (c k : Nat) (most er : Int) (l rest : List Int) (w : World) (hr : Kd.C (Kd.int .u8) w A l.length l) (hc : l.length ≤ c) (hy : Bytes l) (hm : l.length ≤ 4000)
    (hp : numP l 0 0 most = (0, k, er)) (hd : l.drop k = rest) (he : er ≠ 0) :
    Calls Try.prog 23 #[.slice A l.length c, .int .i64 most] w fun x w' => x = .returned (.tuple #[.slice none 0 0, .int .i64 er]) ∧ Below w.heap.size w w' := by
  have HL := Aside0.mk (show Rd w (.slice A l.length c) l from ⟨A, c, rfl, hr, hc⟩)
  have HY := Aside0.mk hy
  have HP := Aside0.mk hp
  have HD := Aside0.mk hd
  have he1 : (er != 0) = true := bne_iff_ne.mpr he
  have HEN := Aside0.mk (show endP rest er = er by unfold endP; rw [if_neg he])
  clear hr hc hy hp hd
  go_enter Try.func23, Try.ntmps23
  go_wp2_with (first | (go_at_call 15; refine (from_calls HL.out (by omega)).mono ?_; rintro e_ w2 ⟨V2, rfl, hv, hb⟩; have HS2 := Aside0.mk (Scn.own hv HY.out 0); have HW2 := Aside0.mk hb; clear hv hb) | (go_at_call 16; refine (num_calls HS2.out (Below.refl _ _) 0 most).mono ?_; rw [HP.out]; dsimp only; rw [HD.out]; rintro e_ w3 ⟨v3, rfl, ⟨A3, c3, rfl, hr3, hc3, hy3⟩, hb⟩; have HS3 := Aside0.mk (show Scn (w3.alloc (.cells #[.slice A3 rest.length c3, .int .i64 er] 30)) (.agg #[.slice A3 rest.length c3, .int .i64 er]) rest er from ⟨A3, c3, rfl, Kd.C_alloc (Kd.C_below hr3 hb) _, hc3, hy3⟩); have HW3 := Aside0.mk (below_alloc (below_step HW2.out hb) (.cells #[.slice A3 rest.length c3, .int .i64 er] 30)); have K := Aside0.mk (heap_alloc_new w3 (.cells #[.slice A3 rest.length c3, .int .i64 er] 30)); have hz0 := (blk_cell K.out 0).trans rfl; have hz1 := (blk_cell K.out 1).trans rfl; clear hr3 hc3 hy3 hb))
  generalize w3.alloc (.cells #[.slice A3 rest.length c3, .int .i64 er] 30) = wq at *
  generalize w3.heap.size = g at *
  go_loopw [9, 20] (fun v9 v20 wr => v9 = .slice none 0 0 ∧ v20 = .int .i64 0 ∧ Aside0 (wr = wq)) (fun _ _ _ => 0)
  case atStart => exact ⟨rfl, rfl, ⟨rfl⟩⟩
  case round =>
    obtain ⟨rfl, rfl, hwr⟩ := hrel
    obtain rfl := hwr.out
    go_wp2_with (first | (go_at_call 21; refine (end_calls HS3.out).mono ?_; rw [HEN.out]; rintro e_ w5 ⟨rfl, hb⟩; have HB5 := Aside0.mk (below_step HW3.out hb); clear hb))
    go_ret2
    exact ⟨rfl, HB5.out⟩
theorem names_calls {w : World} {V : Value} {l : List Int} (h : Rd w V l) (hy : Bytes l) (hm : l.length ≤ 4000) (most : Int) :
    Calls Try.prog 23 #[V, .int .i64 most] w fun x w' => ∃ R, x = .returned (.tuple #[R, .int .i64 (namesP l most).2]) ∧ Kd.R Kd.string 9 w' w.heap.size (fun _ => True) R (namesP l most).1 ∧ Below w.heap.size w w' := by
  obtain ⟨A, c, rfl, hr, hc⟩ := h
  unfold namesP
  by_cases he : (numP l 0 0 most).2.2 ≠ 0
  · rw [if_pos he]
    obtain ⟨e1, e2⟩ := num_ne he
    refine (names_e A c (numP l 0 0 most).2.1 most (numP l 0 0 most).2.2 l _ w hr hc hy hm (Prod.ext e1 rfl) rfl he).mono ?_
    rintro x w' ⟨rfl, hb⟩
    exact ⟨_, rfl, Kd.R_nil _ _ _ _ _, hb⟩
  · rw [if_neg he]
    have h0 : (numP l 0 0 most).2.2 = 0 := by omega
    obtain ⟨_, n0, n1, _⟩ := num_form (a := 0) (b := most) hy h0
    have hp : numP l 0 0 most = (((numP l 0 0 most).1.toNat : Int), (numP l 0 0 most).2.1, 0) := Prod.ext (Int.toNat_of_nonneg n0).symm (Prod.ext rfl h0)
    refine names_ok A c (numP l 0 0 most).1.toNat (numP l 0 0 most).2.1 most l _ _ _ w hr hc hy hm (by omega) hp rfl (fun h => ?_) (fun h h2 => ?_) (fun h h2 => ?_)
    · rw [if_pos h]; exact ⟨rfl, rfl⟩
    · rw [if_neg (fun h_ => h_ h), if_pos h2]; exact ⟨rfl, rfl⟩
    · rw [if_neg (fun h_ => h_ h), if_neg (fun h_ => h_ h2)]; exact ⟨rfl, rfl⟩
set_option maxHeartbeats 4000000 in
set_option maxRecDepth 100000 in
theorem rnames_0 (A : Option Addr) (c N k : Nat) (most er : Int) (l rest : List Int) (res : List ByteArray) (re : Int) (w : World) (hr : Kd.C (Kd.int .u8) w A l.length l) (hc : l.length ≤ c) (hy : Bytes l) (hm : l.length ≤ 4000) (hNf : N ≤ 9007199254740992)
    (hp : numP l 0 0 most = ((N : Int), k, er)) (hd : l.drop k = rest)
    (g1 : er = 0 → (namesGo N rest).2.2 ≠ 0 → res = [] ∧ re = (namesGo N rest).2.2) (g2 : er = 0 → (namesGo N rest).2.2 = 0 → endP (namesGo N rest).2.1 0 ≠ 0 → res = [] ∧ re = endP (namesGo N rest).2.1 0)
    (g3 : er = 0 → (namesGo N rest).2.2 = 0 → endP (namesGo N rest).2.1 0 = 0 → res = (namesGo N rest).1 ∧ re = 0) (g4 : er ≠ 0 → res = [] ∧ re = er) :
    Calls Try.prog 24 #[.slice A l.length c, .int .i64 most] w fun x w' => ∃ V, x = .returned (.tuple #[V, .int .i64 re]) ∧ Kd.R Kd.string 9 w' w.heap.size (fun _ => True) V res ∧ Below w.heap.size w w' := by
  have HS := Aside0.mk (show Scn w (.agg #[.slice A l.length c, .int .i64 0]) l 0 from ⟨A, c, rfl, hr, hc, hy⟩)
  have HP := Aside0.mk hp
  have HD := Aside0.mk hd
  have G1 := Aside0.mk g1
  have G2 := Aside0.mk g2
  have G3 := Aside0.mk g3
  have G4 := Aside0.mk g4
  have hrl : rest.length ≤ 4000 := by rw [← hd, List.length_drop]; omega
  clear hr hc hy hp hd g1 g2 g3 g4
  go_enter Try.func24, Try.ntmps24
  go_wp2_with (first | (go_at_call 29; refine (rnum_calls HS.out (Below.refl _ _) 0 most).mono ?_; rw [HP.out]; dsimp only; rw [HD.out]; rintro e_ w3 ⟨v3, rfl, ⟨A3, c3, rfl, hr3, hc3, hy3⟩, hb⟩; have HR3 := Aside0.mk (show Kd.C (Kd.int .u8) w3 A3 rest.length rest ∧ rest.length ≤ c3 ∧ Bytes rest from ⟨Kd.C_below hr3 hb, hc3, hy3⟩); have HW3 := Aside0.mk hb; have K := Aside0.mk (heap_alloc_new w3 (.cells #[.slice A3 rest.length c3, .int .i64 er] 44)); have HB := Aside0.mk (below_alloc (Below.refl w3.heap.size w3) (.cells #[.slice A3 rest.length c3, .int .i64 er] 44)); clear hr3 hc3 hy3 hb))
  obtain ⟨g, hg⟩ : ∃ g, g = w3.heap.size := ⟨_, rfl⟩
  rw [← hg] at K ⊢
  have HGG := Aside0.mk (Nat.le_of_eq hg.symm)
  clear hg
  generalize w3.alloc (.cells #[.slice A3 rest.length c3, .int .i64 er] 44) = wq at *
  have HO := Aside0.mk (Kd.R_nil Kd.string 9 wq w3.heap.size (fun k_ => k_ ≠ g))
  go_loopw [8, 9] (fun v8 v9 wr => ∃ (i : Nat) (lr : List Int) (es : Int) (outs : List ByteArray) (Ar : Option Addr) (cr : Nat), i ≤ N ∧ v9 = .int .i64 i ∧ Aside0 (Kd.R Kd.string 9 wr w3.heap.size (fun k_ => k_ ≠ g) v8 outs) ∧ Aside0 (wr.heap[g]? = some (.cells #[.slice Ar lr.length cr, .int .i64 es] 44 (0, 0))) ∧ Aside0 (Kd.C (Kd.int .u8) w3 Ar lr.length lr ∧ lr.length ≤ cr ∧ Bytes lr) ∧ Aside0 (Below w3.heap.size w3 wr) ∧ Aside0 (es = 0 → er = 0 ∧ outs.length + lr.length ≤ 4000 ∧ namesGo N rest = (outs ++ (namesGo (N - i) lr).1, (namesGo (N - i) lr).2)) ∧ Aside0 (es ≠ 0 → res = [] ∧ re = es)) (fun _ v9 _ => N - (intOf v9).toNat)
  case atStart => exact ⟨0, rest, er, [], A3, c3, by omega, rfl, HO, K, HR3, HB, ⟨fun h => ⟨h, by simp only [List.length_nil]; omega, rfl⟩⟩, G4⟩
  case round =>
    obtain ⟨i, lr, es, outs, Ar, cr, hi, rfl, HOr, Kr, HRr, HBr, HG0, HGe⟩ := hrel
    obtain ⟨wo, rfl⟩ : ∃ x : World, x = wr := ⟨_, rfl⟩
    clear HO K HB
    have HO := HOr
    have K := Kr
    have HB := HBr
    clear HOr Kr HBr
    have hz0 := (blk_cell K.out 0).trans rfl
    have hz1 := (blk_cell K.out 1).trans rfl
    by_cases hes : es = 0
    · subst hes
      obtain ⟨rfl, hol, hgo⟩ := HG0.out rfl
      clear HG0 HGe
      by_cases hlt : i < N
      · have hltb : decide ((i : Int) < (N : Int)) = true := decide_eq_true (by omega)
        have hwi : wrap64 ((i : Int) + 1) = (i : Int) + 1 := w64 (by omega) (by omega)
        obtain ⟨x, k2, e4, hp2⟩ : ∃ x k2 e4, textP lr 0 32 = (x, k2, e4) := ⟨_, _, _, rfl⟩
        obtain ⟨l4, hd2⟩ : ∃ l4, lr.drop k2 = l4 := ⟨_, rfl⟩
        have HP2 := Aside0.mk hp2
        have HD2 := Aside0.mk hd2
        have hst : namesGo (N - i) lr = if e4 ≠ 0 then ([], l4, e4) else (strOfNums x :: (namesGo (N - (i + 1)) l4).1, (namesGo (N - (i + 1)) l4).2) := by
          rw [show N - i = (N - (i + 1)) + 1 by omega, namesGo, hp2]; dsimp only; rw [hd2]
        have HN0 : Aside0 (e4 = 0 → (0 : Int) = 0 ∧ (outs ++ [strOfNums x]).length + l4.length ≤ 4000 ∧ namesGo N rest = ((outs ++ [strOfNums x]) ++ (namesGo (N - (i + 1)) l4).1, (namesGo (N - (i + 1)) l4).2)) := ⟨fun h => by
          subst h
          rw [if_neg (by decide)] at hst
          have htk := text_takes HRr.out.2.2 (show (textP lr 0 32).2.2 = 0 by rw [hp2])
          rw [hp2] at htk
          have hl4 : l4.length + 1 ≤ lr.length := by rw [← hd2, List.length_drop]; dsimp only at htk; omega
          refine ⟨rfl, by rw [List.length_append, List.length_singleton]; omega, ?_⟩
          rw [hgo, hst]; simp only [List.append_assoc, List.singleton_append]⟩
        have HNe : Aside0 (e4 ≠ 0 → res = [] ∧ re = e4) := ⟨fun h => by
          rw [if_pos h] at hst
          have h2 : (namesGo N rest).2.2 = e4 := by rw [hgo, hst]
          have := G1.out rfl (by rw [h2]; exact h)
          rw [h2] at this; exact this⟩
        clear hst hp2 hd2 hgo
        go_wp2_with (first | (go_at_call 30; refine (rtext_calls (w0 := w3) (v := .agg #[.slice Ar lr.length cr, .int .i64 0]) ⟨Ar, cr, rfl, HRr.out.1, HRr.out.2.1, HRr.out.2.2⟩ HB.out 32).mono ?_; rw [HP2.out]; dsimp only; rw [HD2.out]; rintro e_ w4 ⟨Vx, v4, rfl, hv, ⟨A4, c4, rfl, hr4, hc4, hy4⟩, hb⟩; have n0_ := Aside0.mk (blk_below (blk_below K.out hb) (below_alloc (Below.refl w4.heap.size w4) (.cells #[.slice A4 l4.length c4, .int .i64 e4] 44))); have n2_ := Aside0.mk (below_alloc (below_step HB.out hb) (.cells #[.slice A4 l4.length c4, .int .i64 e4] 44)); have RV := Aside0.mk hv; have n1_ := Aside0.mk (Kd.R_alloc (Kd.R_below HO.out hb) (.cells #[.slice A4 l4.length c4, .int .i64 e4] 44)); have HR4 := Aside0.mk (show Kd.C (Kd.int .u8) w3 A4 l4.length l4 ∧ l4.length ≤ c4 ∧ Bytes l4 from ⟨hr4, hc4, hy4⟩); have K11 := Aside0.mk (heap_alloc_new w4 (.cells #[.slice A4 l4.length c4, .int .i64 e4] 44)); clear HB HO K; have HB := n2_; have HO := n1_; have K := n0_; clear n0_ n1_ n2_ hr4 hc4 hy4 hv hb; have HMARK1 := trivial) | ((with_reducible refine gate_dst (N := 34) rfl ?_); clear HMARK1; generalize w4.alloc (.cells #[.slice A4 l4.length c4, .int .i64 e4] 44) = wy at *; generalize w4.heap.size = ge at *; have hk0 := (blk_cell K11.out 0).trans rfl; have hk1 := (blk_cell K11.out 1).trans rfl; have hz2 := (blk_cell K.out 0).trans rfl; have hz3 := (blk_cell K.out 1).trans rfl; have hf0 := blk_frozen K.out 0; have hf1 := blk_frozen K.out 1; have n0_ := Aside0.mk (show ((wy.setCell ⟨g, 0, none⟩ (.slice A4 l4.length c4)).setCell ⟨g, 1, none⟩ (.int .i64 e4)).heap[g]? = some (.cells #[.slice A4 l4.length c4, .int .i64 e4] 44 (0, 0)) from blk_put (blk_put K.out 0 _ rfl) 1 _ rfl); have n2_ := Aside0.mk (below_set (j := 1) (v := .int .i64 e4) (below_set (j := 0) (v := .slice A4 l4.length c4) HB.out HGG.out) HGG.out); have cv_ := conv_str (RV.out.below n2_.out); have n1_ := Aside0.mk (Kd.R_far (p := ⟨g, 1, none⟩) (Kd.R_far (p := ⟨g, 0, none⟩) HO.out (fun _ h_ => h_) (.slice A4 l4.length c4)) (fun _ h_ => h_) (.int .i64 e4)); clear HB HO K; have HB := n2_; have HO := n1_; have K := n0_; clear n0_ n1_ n2_; have HMARK := trivial) | ((with_reducible refine gate_dst (N := 38) rfl ?_); clear HMARK; generalize ((wy.setCell ⟨g, 0, none⟩ (.slice A4 l4.length c4)).setCell ⟨g, 1, none⟩ (.int .i64 e4)) = wz at *) | ((with_reducible refine gate_builtin (b := .append) (xs := #[.tmp 35, .tmp 38]) rfl ?_); at_builtin; (refine Kd.R_append Kd.string (w0 := w3) w3.heap.size rfl (.tmp 35) (.tmp 38) 50 9 (.string ByteArray.empty) 16 rfl Try.underlying50 info9 rfl (by decide) (by omega) u8 outs (strOfNums x) [.string (strOfNums x)] (fun k_ => k_ ≠ g) (fun _ => False) rfl rfl ?aP (fun _ hk => hk.elim) ?aF ?aO ?aB ?aS ?aL ?_); (case aP => exact rfl); (case aB => exact HB.out); (case aF => exact (fun k_ hk => by have := blk_lt K.out; omega)); (case aO => exact HO.out); (case aS => exact HB.out.size); (case aL => omega); intro vHO5 wHO5 ho hb hg hat; have n0_ := Aside0.mk (hb); have n1_ := Aside0.mk (ho); have n2_ := Aside0.mk (blk_grown K.out hg (fun h_ => HO.out.1 _ h_.symm rfl)); clear HB; clear HO; clear K; have HB := n0_; have HO5 := n1_; have K := n2_; clear n0_ n1_ n2_; clear ho hb hg hat))
        go_roundw
        case rel => exact ⟨i + 1, l4, e4, _, A4, c4, by omega, by go_num, HO5, K, HR4, HB, HN0, HNe⟩
        case measure => simp [intOf]; omega
      · obtain rfl : i = N := by omega
        have hltb : decide ((i : Int) < (i : Int)) = false := decide_eq_false (by omega)
        rw [Nat.sub_self, namesGo, List.append_nil] at hgo
        by_cases he : endP lr 0 = 0
        · have h3 := G3.out rfl (by rw [hgo]) (by rw [hgo]; exact he)
          rw [hgo] at h3
          obtain ⟨rfl, rfl⟩ := h3
          have HEV := Aside0.mk he
          clear G1 G2 G3 G4 hgo
          go_wp2_with (first | (go_at_call 22; (with_reducible refine (rend_calls (w := wo) (l := lr) (er := 0) ?hs).mono ?_); (case hs => exact ⟨Ar, cr, rfl, Kd.C_below HRr.out.1 HB.out, HRr.out.2.1, HRr.out.2.2⟩); rw [HEV.out]; rintro e_ w5 ⟨rfl, hb⟩; have HB5 := Aside0.mk (below_step HB.out hb); have HO5 := Aside0.mk (Kd.R_below HO.out hb); have K5 := Aside0.mk (blk_below K.out hb); have hy0 := (blk_cell K5.out 0).trans rfl; have hy1 := (blk_cell K5.out 1).trans rfl; clear hb))
          go_ret2
          exact ⟨_, rfl, Kd.R_lower (Kd.R_mono HO5.out (fun _ _ => trivial)) HW3.out.size, below_step HW3.out HB5.out⟩
        · obtain ⟨rfl, hre⟩ := G2.out rfl (by rw [hgo]) (by rw [hgo]; exact he)
          rw [hgo] at hre
          have HEV := Aside0.mk (show endP lr 0 = re from hre.symm)
          have he1 : (re != 0) = true := bne_iff_ne.mpr (by rw [← HEV.out]; exact he)
          clear G1 G2 G3 G4 hgo hre
          go_wp2_with (first | (go_at_call 22; (with_reducible refine (rend_calls (w := wo) (l := lr) (er := 0) ?hs).mono ?_); (case hs => exact ⟨Ar, cr, rfl, Kd.C_below HRr.out.1 HB.out, HRr.out.2.1, HRr.out.2.2⟩); rw [HEV.out]; rintro e_ w5 ⟨rfl, hb⟩; have HB5 := Aside0.mk (below_step HB.out hb); have HO5 := Aside0.mk (Kd.R_below HO.out hb); have K5 := Aside0.mk (blk_below K.out hb); have hy0 := (blk_cell K5.out 0).trans rfl; have hy1 := (blk_cell K5.out 1).trans rfl; clear hb) | (go_at_call 22; refine (rend_calls (l := lr) (er := 0) ⟨Ar, cr, rfl, Kd.C_below HRr.out.1 HB5.out, HRr.out.2.1, HRr.out.2.2⟩).mono ?_; rw [HEV.out]; rintro e_ w6 ⟨rfl, hb⟩; have HB6 := Aside0.mk (below_step HB5.out hb); clear hb))
          go_ret2
          exact ⟨_, rfl, Kd.R_nil _ _ _ _ _, below_step HW3.out HB6.out⟩
    · obtain ⟨rfl, rfl⟩ := HGe.out hes
      have he0 : (re == 0) = false := beq_eq_false_iff_ne.mpr hes
      have he1 : (re != 0) = true := bne_iff_ne.mpr hes
      have HEV := Aside0.mk (show endP lr re = re by unfold endP; rw [if_neg hes])
      clear G1 G2 G3 G4 HG0 HGe
      by_cases hlt : i < N
      · have hltb : decide ((i : Int) < (N : Int)) = true := decide_eq_true (by omega)
        go_wp2_with (first | (go_at_call 22; (with_reducible refine (rend_calls (w := wo) (l := lr) (er := re) ?hs).mono ?_); (case hs => exact ⟨Ar, cr, rfl, Kd.C_below HRr.out.1 HB.out, HRr.out.2.1, HRr.out.2.2⟩); rw [HEV.out]; rintro e_ w5 ⟨rfl, hb⟩; have HB5 := Aside0.mk (below_step HB.out hb); have HO5 := Aside0.mk (Kd.R_below HO.out hb); have K5 := Aside0.mk (blk_below K.out hb); have hy0 := (blk_cell K5.out 0).trans rfl; have hy1 := (blk_cell K5.out 1).trans rfl; clear hb) | (go_at_call 22; refine (rend_calls (l := lr) (er := re) ⟨Ar, cr, rfl, Kd.C_below HRr.out.1 HB5.out, HRr.out.2.1, HRr.out.2.2⟩).mono ?_; rw [HEV.out]; rintro e_ w6 ⟨rfl, hb⟩; have HB6 := Aside0.mk (below_step HB5.out hb); clear hb))
        go_ret2
        exact ⟨_, rfl, Kd.R_nil _ _ _ _ _, below_step HW3.out HB6.out⟩
      · have hltb : decide ((i : Int) < (N : Int)) = false := decide_eq_false (by omega)
        go_wp2_with (first | (go_at_call 22; (with_reducible refine (rend_calls (w := wo) (l := lr) (er := re) ?hs).mono ?_); (case hs => exact ⟨Ar, cr, rfl, Kd.C_below HRr.out.1 HB.out, HRr.out.2.1, HRr.out.2.2⟩); rw [HEV.out]; rintro e_ w5 ⟨rfl, hb⟩; have HB5 := Aside0.mk (below_step HB.out hb); have HO5 := Aside0.mk (Kd.R_below HO.out hb); have K5 := Aside0.mk (blk_below K.out hb); have hy0 := (blk_cell K5.out 0).trans rfl; have hy1 := (blk_cell K5.out 1).trans rfl; clear hb) | (go_at_call 22; refine (rend_calls (l := lr) (er := re) ⟨Ar, cr, rfl, Kd.C_below HRr.out.1 HB5.out, HRr.out.2.1, HRr.out.2.2⟩).mono ?_; rw [HEV.out]; rintro e_ w6 ⟨rfl, hb⟩; have HB6 := Aside0.mk (below_step HB5.out hb); clear hb))
        go_ret2
        exact ⟨_, rfl, Kd.R_nil _ _ _ _ _, below_step HW3.out HB6.out⟩
theorem rnames_calls {w : World} {V : Value} {l : List Int} (h : Rd w V l) (hy : Bytes l) (hm : l.length ≤ 4000) (most : Int) :
    Calls Try.prog 24 #[V, .int .i64 most] w fun x w' => ∃ R, x = .returned (.tuple #[R, .int .i64 (namesP l most).2]) ∧ Kd.R Kd.string 9 w' w.heap.size (fun _ => True) R (namesP l most).1 ∧ Below w.heap.size w w' := by
  obtain ⟨A, c, rfl, hr, hc⟩ := h
  unfold namesP
  by_cases he : (numP l 0 0 most).2.2 ≠ 0
  · rw [if_pos he]
    obtain ⟨e1, e2⟩ := num_ne he
    exact rnames_0 A c 0 (numP l 0 0 most).2.1 most (numP l 0 0 most).2.2 l _ _ _ w hr hc hy hm (by omega) (Prod.ext e1 rfl) rfl (fun h => absurd h he) (fun h => absurd h he) (fun h => absurd h he) (fun _ => ⟨rfl, rfl⟩)
  · rw [if_neg he]
    have h0 : (numP l 0 0 most).2.2 = 0 := by omega
    obtain ⟨_, n0, n1, _⟩ := num_form (a := 0) (b := most) hy h0
    have hp : numP l 0 0 most = (((numP l 0 0 most).1.toNat : Int), (numP l 0 0 most).2.1, 0) := Prod.ext (Int.toNat_of_nonneg n0).symm (Prod.ext rfl h0)
    refine rnames_0 A c (numP l 0 0 most).1.toNat (numP l 0 0 most).2.1 most 0 l _ _ _ w hr hc hy hm (by omega) hp rfl (fun _ h => ?_) (fun _ h h2 => ?_) (fun _ h h2 => ?_) (fun h => absurd rfl h)
    · rw [if_pos h]; exact ⟨rfl, rfl⟩
    · rw [if_neg (fun h_ => h_ h), if_pos h2]; exact ⟨rfl, rfl⟩
    · rw [if_neg (fun h_ => h_ h), if_neg (fun h_ => h_ h2)]; exact ⟨rfl, rfl⟩
end Go.Proofs.Yteonbbfegnjjeaa.Law
