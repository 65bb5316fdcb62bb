/- The walks of Text: the program's and the document's. -/
import Derived.Test.YteonbbfegnjjeaaScanD
namespace Go.Proofs.Yteonbbfegnjjeaa.Law
open Go.RowKit Go.Proofs.Yteonbbfegnjjeaa Go.Proofs.YteonbbfegnjjeaaW.PrintWords Go.Proofs.YteonbbfegnjjeaaW.PrintLast Go.Proofs.YteonbbfegnjjeaaW.PrintMore Go.Proofs.Yteonbbfegnjjeaa.D
set_option linter.unusedSimpArgs false
theorem num_er {l : List Int} {er a b : Int} (h : (numP l er a b).2.2 = 0) : er = 0 := by
  revert h; unfold numP
  split
  · intro h; exact h
  · intro _; omega
theorem num_stay {l : List Int} {er a b : Int} (h : (numP l er a b).2.2 ≠ 0) : (numP l er a b).2.1 = 0 := by
  revert h; unfold numP
  split
  · intro _; rfl
  · split
    · intro _; rfl
    · split
      · intro _; rfl
      · intro h; exact absurd rfl h
theorem below_alloc2 {w0 w : World} (h : Below w0.heap.size w0 w) (o o' : Obj) : Below w0.heap.size w0 ((w.alloc o).alloc o') := below_alloc (below_alloc h o) o'
/-- what Text tells: the bytes, how many it took, the error -/
def textP (l : List Int) (er most : Int) : List Int × Nat × Int :=
  if (numP l er 0 far).2.2 ≠ 0 then ([], 0, (numP l er 0 far).2.2) else if max most 0 < (numP l er 0 far).1 then ([], 0, 2) else if ((l.drop (numP l er 0 far).2.1).length : Int) < (numP l er 0 far).1 then ([], 0, 3)
  else ((fixP (l.drop (numP l er 0 far).2.1) 0 (numP l er 0 far).1).1, (numP l er 0 far).2.1 + (fixP (l.drop (numP l er 0 far).2.1) 0 (numP l er 0 far).1).2.1, (fixP (l.drop (numP l er 0 far).2.1) 0 (numP l er 0 far).1).2.2)
set_option maxHeartbeats 1000000 in
set_option maxRecDepth 100000 in
theorem text_0 (A : Option Addr) (c : Nat) (er most n e : Int) (k : Nat) (l l' : List Int) (w0 w : World) (hr : Kd.C (Kd.int .u8) w0 A l.length l) (hc : l.length ≤ c) (hb : Bytes l) (hw : Below w0.heap.size w0 w) (hl : l.drop k = l') (hx : numP l er 0 far = (n, k, e)) (he : e ≠ 0) :
    Calls Try.prog 17 #[.agg #[.slice A l.length c, .int .i64 er], .int .i64 most] w fun x w' => ∃ v', x = .returned (.tuple #[.slice none 0 0, v']) ∧ Scn w0 v' l' e ∧ Below w.heap.size w w' := by
  have HS := Aside0.mk (show Scn w0 (.agg #[.slice A l.length c, .int .i64 er]) l er from ⟨A, c, rfl, hr, hc, hb⟩)
  have HX := Aside0.mk hx
  have HL := Aside0.mk hl
  have HW := Aside0.mk hw
  clear hr hc hb hx hl hw
  have he1 : (e != 0) = true := bne_iff_ne.mpr he
  go_enter Try.func17, Try.ntmps17
  go_wp2_with (first | (go_at_call 16; refine (num_calls HS.out (below_alloc2 HW.out (.cells #[.slice A l.length c, .int .i64 er] 30) (.cells #[.slice none 0 0, .int .i64 0] 30)) 0 9007199254740992).mono ?_; rw [show (9007199254740992 : Int) = far from rfl, HX.out]; dsimp only; rw [HL.out]; rintro x w2 ⟨v', rfl, ⟨A', c', rfl, hr', hc', hy'⟩, hb⟩; have K1 := Aside0.mk (blk_below (blk_below (heap_alloc2_old w (.cells #[.slice A l.length c, .int .i64 er] 30) (.cells #[.slice none 0 0, .int .i64 0] 30)) hb) (below_alloc (Below.refl w2.heap.size w2) (.cells #[.slice A' l'.length c', .int .i64 e] 30))); have K2 := Aside0.mk (blk_below (blk_below (heap_alloc2_new w (.cells #[.slice A l.length c, .int .i64 er] 30) (.cells #[.slice none 0 0, .int .i64 0] 30)) hb) (below_alloc (Below.refl w2.heap.size w2) (.cells #[.slice A' l'.length c', .int .i64 e] 30))); have HB2 := Aside0.mk (below_alloc (below_step (below_alloc (below_alloc (Below.refl w.heap.size w) (.cells #[.slice A l.length c, .int .i64 er] 30)) (.cells #[.slice none 0 0, .int .i64 0] 30)) hb) (.cells #[.slice A' l'.length c', .int .i64 e] 30)); have HR' := Aside0.mk hr'; have HC' := Aside0.mk hc'; have HY' := Aside0.mk hy'; clear hb hr' hc' hy'; have z0_ := (blk_cell K1.out 0).trans rfl; have z1_ := (blk_cell K1.out 1).trans rfl; have z2_ := (blk_cell K2.out 0).trans rfl; have z3_ := (blk_cell K2.out 1).trans rfl; have f0_ := blk_frozen K2.out 0; have f1_ := blk_frozen K2.out 1))
  go_region
  go_wp2
  exact bodyPost_ret (results_tmp_cell_row rfl _ _ (w.heap.size + 1) 30 _ (0, 0) _ rfl (blk_put (blk_put K2.out 0 _ rfl) 1 _ rfl) Try.underlying30 rfl (by kernel_rfl)) rfl ⟨_, rfl, ⟨A', c', rfl, HR'.out, HC'.out, HY'.out⟩, below_drew1 (below_set (below_set HB2.out (Nat.le_succ _)) (Nat.le_succ _))⟩
set_option maxHeartbeats 1000000 in
set_option maxRecDepth 100000 in
theorem text_1 (A : Option Addr) (c : Nat) (most n : Int) (k : Nat) (l l' : List Int) (w0 w : World) (hr : Kd.C (Kd.int .u8) w0 A l.length l) (hc : l.length ≤ c) (hb : Bytes l) (hw : Below w0.heap.size w0 w) (hl : l.drop k = l') (hx : numP l 0 0 far = (n, k, 0)) (hm : max most 0 < n) :
    Calls Try.prog 17 #[.agg #[.slice A l.length c, .int .i64 0], .int .i64 most] w fun x w' => x = .returned (.tuple #[.slice none 0 0, .agg #[.slice A l.length c, .int .i64 2]]) ∧ Below w.heap.size w w' := by
  have HS := Aside0.mk (show Scn w0 (.agg #[.slice A l.length c, .int .i64 0]) l 0 from ⟨A, c, rfl, hr, hc, hb⟩)
  have HX := Aside0.mk hx
  have HL := Aside0.mk hl
  have HW := Aside0.mk hw
  clear hr hc hb hx hl hw
  have b1 : decide (n > max most 0) = true := decide_eq_true hm
  go_enter Try.func17, Try.ntmps17
  go_wp2_with (first | (go_at_call 16; refine (num_calls HS.out (below_alloc2 HW.out (.cells #[.slice A l.length c, .int .i64 0] 30) (.cells #[.slice none 0 0, .int .i64 0] 30)) 0 9007199254740992).mono ?_; rw [show (9007199254740992 : Int) = far from rfl, HX.out]; dsimp only; rw [HL.out]; rintro x w2 ⟨v', rfl, ⟨A', c', rfl, hr', hc', hy'⟩, hb⟩; have K1 := Aside0.mk (blk_below (blk_below (heap_alloc2_old w (.cells #[.slice A l.length c, .int .i64 0] 30) (.cells #[.slice none 0 0, .int .i64 0] 30)) hb) (below_alloc (Below.refl w2.heap.size w2) (.cells #[.slice A' l'.length c', .int .i64 0] 30))); have K2 := Aside0.mk (blk_below (blk_below (heap_alloc2_new w (.cells #[.slice A l.length c, .int .i64 0] 30) (.cells #[.slice none 0 0, .int .i64 0] 30)) hb) (below_alloc (Below.refl w2.heap.size w2) (.cells #[.slice A' l'.length c', .int .i64 0] 30))); have HB2 := Aside0.mk (below_alloc (below_step (below_alloc (below_alloc (Below.refl w.heap.size w) (.cells #[.slice A l.length c, .int .i64 0] 30)) (.cells #[.slice none 0 0, .int .i64 0] 30)) hb) (.cells #[.slice A' l'.length c', .int .i64 0] 30)); have HR' := Aside0.mk hr'; have HC' := Aside0.mk hc'; have HY' := Aside0.mk hy'; clear hb hr' hc' hy'; have z0_ := (blk_cell K1.out 0).trans rfl; have z1_ := (blk_cell K1.out 1).trans rfl; have z2_ := (blk_cell K2.out 0).trans rfl; have z3_ := (blk_cell K2.out 1).trans rfl; have f0_ := blk_frozen K2.out 0; have f1_ := blk_frozen K2.out 1) | (go_at_call 27; refine (fail_calls0 A l.length c 2 _).mono ?_; rintro x w3 ⟨rfl, hb⟩; have BK3 := blk_below K2.out hb; have HB3 := Aside0.mk (below_step HB2.out hb); clear hb; have hz3 := (blk_cell BK3 0).trans rfl; have hz4 := (blk_cell BK3 1).trans rfl; have hf0 := blk_frozen BK3 0; have hf1 := blk_frozen BK3 1))
  all_goals exact bodyPost_ret (results_tmp_cell_row rfl _ _ (w.heap.size + 1) 30 _ (0, 0) _ rfl (blk_put (blk_put BK3 0 _ rfl) 1 _ rfl) Try.underlying30 rfl (by kernel_rfl)) rfl ⟨rfl, below_set (below_set HB3.out (Nat.le_succ _)) (Nat.le_succ _)⟩
set_option maxHeartbeats 1000000 in
set_option maxRecDepth 100000 in
theorem text_2 (A : Option Addr) (c : Nat) (most n : Int) (k : Nat) (l l' : List Int) (w0 w : World) (hr : Kd.C (Kd.int .u8) w0 A l.length l) (hc : l.length ≤ c) (hb : Bytes l) (hw : Below w0.heap.size w0 w) (hl : l.drop k = l') (hx : numP l 0 0 far = (n, k, 0)) (hm : ¬ max most 0 < n) (hs : (l'.length : Int) < n) :
    Calls Try.prog 17 #[.agg #[.slice A l.length c, .int .i64 0], .int .i64 most] w fun x w' => x = .returned (.tuple #[.slice none 0 0, .agg #[.slice A l.length c, .int .i64 3]]) ∧ Below w.heap.size w w' := by
  have HS := Aside0.mk (show Scn w0 (.agg #[.slice A l.length c, .int .i64 0]) l 0 from ⟨A, c, rfl, hr, hc, hb⟩)
  have HX := Aside0.mk hx
  have HL := Aside0.mk hl
  have HW := Aside0.mk hw
  clear hr hc hb hx hl hw
  have b1 : decide (n > max most 0) = false := decide_eq_false hm
  have b2 : decide (n > (l'.length : Int)) = true := decide_eq_true hs
  go_enter Try.func17, Try.ntmps17
  go_wp2_with (first | (go_at_call 16; refine (num_calls HS.out (below_alloc2 HW.out (.cells #[.slice A l.length c, .int .i64 0] 30) (.cells #[.slice none 0 0, .int .i64 0] 30)) 0 9007199254740992).mono ?_; rw [show (9007199254740992 : Int) = far from rfl, HX.out]; dsimp only; rw [HL.out]; rintro x w2 ⟨v', rfl, ⟨A', c', rfl, hr', hc', hy'⟩, hb⟩; have K1 := Aside0.mk (blk_below (blk_below (heap_alloc2_old w (.cells #[.slice A l.length c, .int .i64 0] 30) (.cells #[.slice none 0 0, .int .i64 0] 30)) hb) (below_alloc (Below.refl w2.heap.size w2) (.cells #[.slice A' l'.length c', .int .i64 0] 30))); have K2 := Aside0.mk (blk_below (blk_below (heap_alloc2_new w (.cells #[.slice A l.length c, .int .i64 0] 30) (.cells #[.slice none 0 0, .int .i64 0] 30)) hb) (below_alloc (Below.refl w2.heap.size w2) (.cells #[.slice A' l'.length c', .int .i64 0] 30))); have HB2 := Aside0.mk (below_alloc (below_step (below_alloc (below_alloc (Below.refl w.heap.size w) (.cells #[.slice A l.length c, .int .i64 0] 30)) (.cells #[.slice none 0 0, .int .i64 0] 30)) hb) (.cells #[.slice A' l'.length c', .int .i64 0] 30)); have HR' := Aside0.mk hr'; have HC' := Aside0.mk hc'; have HY' := Aside0.mk hy'; clear hb hr' hc' hy'; have z0_ := (blk_cell K1.out 0).trans rfl; have z1_ := (blk_cell K1.out 1).trans rfl; have z2_ := (blk_cell K2.out 0).trans rfl; have z3_ := (blk_cell K2.out 1).trans rfl; have f0_ := blk_frozen K2.out 0; have f1_ := blk_frozen K2.out 1) | (go_at_call 27; refine (fail_calls0 A l.length c 3 _).mono ?_; rintro x w3 ⟨rfl, hb⟩; have BK3 := blk_below K2.out hb; have HB3 := Aside0.mk (below_step HB2.out hb); clear hb; have hz3 := (blk_cell BK3 0).trans rfl; have hz4 := (blk_cell BK3 1).trans rfl; have hf0 := blk_frozen BK3 0; have hf1 := blk_frozen BK3 1))
  all_goals exact bodyPost_ret (results_tmp_cell_row rfl _ _ (w.heap.size + 1) 30 _ (0, 0) _ rfl (blk_put (blk_put BK3 0 _ rfl) 1 _ rfl) Try.underlying30 rfl (by kernel_rfl)) rfl ⟨rfl, below_set (below_set HB3.out (Nat.le_succ _)) (Nat.le_succ _)⟩
set_option maxHeartbeats 1000000 in
set_option maxRecDepth 100000 in
theorem text_3 (A : Option Addr) (c : Nat) (most n : Int) (k : Nat) (l l' : List Int) (w0 w : World) (hr : Kd.C (Kd.int .u8) w0 A l.length l) (hc : l.length ≤ c) (hb : Bytes l) (hw : Below w0.heap.size w0 w) (hl : l.drop k = l') (hx : numP l 0 0 far = (n, k, 0)) (hm : ¬ max most 0 < n) (hs : ¬ (l'.length : Int) < n) (hlm : l'.length < 140737488355328) (l3 : List Int) (hl3 : l'.drop (fixP l' 0 n).2.1 = l3) :
    Calls Try.prog 17 #[.agg #[.slice A l.length c, .int .i64 0], .int .i64 most] w fun x w' => ∃ V v', x = .returned (.tuple #[V, v']) ∧ Kd.R (Kd.int .u8) 5 w' w.heap.size (fun _ => True) V (fixP l' 0 n).1 ∧ Scn w0 v' l3 (fixP l' 0 n).2.2 ∧ Below w.heap.size w w' := by
  have HS := Aside0.mk (show Scn w0 (.agg #[.slice A l.length c, .int .i64 0]) l 0 from ⟨A, c, rfl, hr, hc, hb⟩)
  have HX := Aside0.mk hx
  have HL := Aside0.mk hl
  have HW := Aside0.mk hw
  clear hr hc hb hx hl hw
  have b1 : decide (n > max most 0) = false := decide_eq_false hm
  have b2 : decide (n > (l'.length : Int)) = false := decide_eq_false hs
  have HL3 := Aside0.mk hl3
  clear hl3
  go_enter Try.func17, Try.ntmps17
  go_wp2_with (first | (go_at_call 16; refine (num_calls HS.out (below_alloc2 HW.out (.cells #[.slice A l.length c, .int .i64 0] 30) (.cells #[.slice none 0 0, .int .i64 0] 30)) 0 9007199254740992).mono ?_; rw [show (9007199254740992 : Int) = far from rfl, HX.out]; dsimp only; rw [HL.out]; rintro x w2 ⟨v', rfl, ⟨A', c', rfl, hr', hc', hy'⟩, hb⟩; have K1 := Aside0.mk (blk_below (blk_below (heap_alloc2_old w (.cells #[.slice A l.length c, .int .i64 0] 30) (.cells #[.slice none 0 0, .int .i64 0] 30)) hb) (below_alloc (Below.refl w2.heap.size w2) (.cells #[.slice A' l'.length c', .int .i64 0] 30))); have K2 := Aside0.mk (blk_below (blk_below (heap_alloc2_new w (.cells #[.slice A l.length c, .int .i64 0] 30) (.cells #[.slice none 0 0, .int .i64 0] 30)) hb) (below_alloc (Below.refl w2.heap.size w2) (.cells #[.slice A' l'.length c', .int .i64 0] 30))); have HB2 := Aside0.mk (below_alloc (below_step (below_alloc (below_alloc (Below.refl w.heap.size w) (.cells #[.slice A l.length c, .int .i64 0] 30)) (.cells #[.slice none 0 0, .int .i64 0] 30)) hb) (.cells #[.slice A' l'.length c', .int .i64 0] 30)); have HR' := Aside0.mk hr'; have HC' := Aside0.mk hc'; have HY' := Aside0.mk hy'; clear hb hr' hc' hy'; have z0_ := (blk_cell K1.out 0).trans rfl; have z1_ := (blk_cell K1.out 1).trans rfl; have z2_ := (blk_cell K2.out 0).trans rfl; have z3_ := (blk_cell K2.out 1).trans rfl; have f0_ := blk_frozen K2.out 0; have f1_ := blk_frozen K2.out 1) | (go_at_call 28; refine (fix_calls (v := .agg #[.slice A' l'.length c', .int .i64 0]) (w0 := w0) ⟨A', c', rfl, HR'.out, HC'.out, HY'.out⟩ (below_step HW.out HB2.out) hlm n).mono ?_; rw [HL3.out]; rintro x w3 ⟨V, v'', rfl, hv, ⟨A3, c3, rfl, hr3, hc3, hy3⟩, hb⟩; have BK3 := blk_below K2.out hb; have HB3 := Aside0.mk (below_step HB2.out hb); have HV := Aside0.mk hv; have HR3 := Aside0.mk hr3; have HC3 := Aside0.mk hc3; have HY3 := Aside0.mk hy3; clear hb hv hr3 hc3 hy3; have hz3 := (blk_cell BK3 0).trans rfl; have hz4 := (blk_cell BK3 1).trans rfl; have hf0 := blk_frozen BK3 0; have hf1 := blk_frozen BK3 1))
  all_goals
    have hg := blk_lt K2.out
    exact bodyPost_ret (results_tmp_cell_row rfl _ _ (w.heap.size + 1) 30 _ (0, 0) _ rfl (blk_put (blk_put BK3 0 _ rfl) 1 _ rfl) Try.underlying30 rfl (by kernel_rfl)) rfl ⟨V, _, rfl, Kd.R_lower (R_set_low (R_set_low HV.out hg _) hg _) HB2.out.size, ⟨A3, c3, rfl, HR3.out, HC3.out, HY3.out⟩, below_set (below_set HB3.out (Nat.le_succ _)) (Nat.le_succ _)⟩
theorem text_calls {w0 w : World} {v : Value} {l : List Int} {er : Int} (h : Scn w0 v l er) (hW : Below w0.heap.size w0 w) (hlm : l.length < 140737488355328) (most : Int) :
    Calls Try.prog 17 #[v, .int .i64 most] w fun x w' => ∃ V v', x = .returned (.tuple #[V, v']) ∧ Kd.R (Kd.int .u8) 5 w' w.heap.size (fun _ => True) V (textP l er most).1 ∧ Scn w0 v' (l.drop (textP l er most).2.1) (textP l er most).2.2 ∧ Below w.heap.size w w' := by
  obtain ⟨A, c, rfl, hr, hc, hb⟩ := h
  unfold textP
  by_cases he : (numP l er 0 far).2.2 ≠ 0
  · rw [if_pos he]
    have hx : numP l er 0 far = ((numP l er 0 far).1, (numP l er 0 far).2.1, (numP l er 0 far).2.2) := rfl
    refine (text_0 A c er most _ _ _ l _ w0 w hr hc hb hW rfl hx he).mono ?_
    rintro x w' ⟨v', rfl, hs, hB⟩
    rw [num_stay he] at hs
    exact ⟨_, v', rfl, Kd.R_nil _ _ _ _ _, hs, hB⟩
  rw [if_neg he]
  have he0 : (numP l er 0 far).2.2 = 0 := by omega
  obtain rfl : er = 0 := num_er he0
  have hx : numP l 0 0 far = ((numP l 0 0 far).1, (numP l 0 0 far).2.1, 0)  := Prod.ext rfl (Prod.ext rfl he0)
  by_cases hm : max most 0 < (numP l 0 0 far).1
  · rw [if_pos hm]
    refine (text_1 A c most _ _ l _ w0 w hr hc hb hW rfl hx hm).mono ?_
    rintro x w' ⟨rfl, hB⟩
    exact ⟨_, _, rfl, Kd.R_nil _ _ _ _ _, ⟨A, c, rfl, hr, hc, hb⟩, hB⟩
  rw [if_neg hm]
  by_cases hs : ((l.drop (numP l 0 0 far).2.1).length : Int) < (numP l 0 0 far).1
  · rw [if_pos hs]
    refine (text_2 A c most _ _ l _ w0 w hr hc hb hW rfl hx hm hs).mono ?_
    rintro x w' ⟨rfl, hB⟩
    exact ⟨_, _, rfl, Kd.R_nil _ _ _ _ _, ⟨A, c, rfl, hr, hc, hb⟩, hB⟩
  rw [if_neg hs]
  exact text_3 A c most _ _ l _ w0 w hr hc hb hW rfl hx hm hs (by rw [List.length_drop]; omega) _ List.drop_drop
set_option maxHeartbeats 1000000 in
set_option maxRecDepth 100000 in
theorem rtext_0 (A : Option Addr) (c : Nat) (er most n e : Int) (k : Nat) (l l' : List Int) (w0 w : World) (hr : Kd.C (Kd.int .u8) w0 A l.length l) (hc : l.length ≤ c) (hb : Bytes l) (hw : Below w0.heap.size w0 w) (hl : l.drop k = l') (hx : numP l er 0 far = (n, k, e)) (he : e ≠ 0) :
    Calls Try.prog 30 #[.agg #[.slice A l.length c, .int .i64 er], .int .i64 most] w fun x w' => ∃ v', x = .returned (.tuple #[.slice none 0 0, v']) ∧ Scn w0 v' l' e ∧ Below w.heap.size w w' := by
  have HS := Aside0.mk (show Scn w0 (.agg #[.slice A l.length c, .int .i64 er]) l er from ⟨A, c, rfl, hr, hc, hb⟩)
  have HX := Aside0.mk hx
  have HL := Aside0.mk hl
  have HW := Aside0.mk hw
  clear hr hc hb hx hl hw
  have he1 : (e != 0) = true := bne_iff_ne.mpr he
  go_enter Try.func30, Try.ntmps30
  go_wp2_with (first | (go_at_call 29; refine (rnum_calls HS.out (below_alloc2 HW.out (.cells #[.slice A l.length c, .int .i64 er] 44) (.cells #[.slice none 0 0, .int .i64 0] 44)) 0 9007199254740992).mono ?_; rw [show (9007199254740992 : Int) = far from rfl, HX.out]; dsimp only; rw [HL.out]; rintro x w2 ⟨v', rfl, ⟨A', c', rfl, hr', hc', hy'⟩, hb⟩; have K1 := Aside0.mk (blk_below (blk_below (heap_alloc2_old w (.cells #[.slice A l.length c, .int .i64 er] 44) (.cells #[.slice none 0 0, .int .i64 0] 44)) hb) (below_alloc (Below.refl w2.heap.size w2) (.cells #[.slice A' l'.length c', .int .i64 e] 44))); have K2 := Aside0.mk (blk_below (blk_below (heap_alloc2_new w (.cells #[.slice A l.length c, .int .i64 er] 44) (.cells #[.slice none 0 0, .int .i64 0] 44)) hb) (below_alloc (Below.refl w2.heap.size w2) (.cells #[.slice A' l'.length c', .int .i64 e] 44))); have HB2 := Aside0.mk (below_alloc (below_step (below_alloc (below_alloc (Below.refl w.heap.size w) (.cells #[.slice A l.length c, .int .i64 er] 44)) (.cells #[.slice none 0 0, .int .i64 0] 44)) hb) (.cells #[.slice A' l'.length c', .int .i64 e] 44)); have HR' := Aside0.mk hr'; have HC' := Aside0.mk hc'; have HY' := Aside0.mk hy'; clear hb hr' hc' hy'; have z0_ := (blk_cell K1.out 0).trans rfl; have z1_ := (blk_cell K1.out 1).trans rfl; have z2_ := (blk_cell K2.out 0).trans rfl; have z3_ := (blk_cell K2.out 1).trans rfl; have f0_ := blk_frozen K2.out 0; have f1_ := blk_frozen K2.out 1))
  go_region
  go_wp2
  exact bodyPost_ret (results_tmp_cell_row rfl _ _ (w.heap.size + 1) 44 _ (0, 0) _ rfl (blk_put (blk_put K2.out 0 _ rfl) 1 _ rfl) Try.underlying44 rfl (by kernel_rfl)) rfl ⟨_, rfl, ⟨A', c', rfl, HR'.out, HC'.out, HY'.out⟩, below_drew1 (below_set (below_set HB2.out (Nat.le_succ _)) (Nat.le_succ _))⟩
set_option maxHeartbeats 1000000 in
set_option maxRecDepth 100000 in
theorem rtext_1 (A : Option Addr) (c : Nat) (most n : Int) (k : Nat) (l l' : List Int) (w0 w : World) (hr : Kd.C (Kd.int .u8) w0 A l.length l) (hc : l.length ≤ c) (hb : Bytes l) (hw : Below w0.heap.size w0 w) (hl : l.drop k = l') (hx : numP l 0 0 far = (n, k, 0)) (hm : max most 0 < n) :
    Calls Try.prog 30 #[.agg #[.slice A l.length c, .int .i64 0], .int .i64 most] w fun x w' => x = .returned (.tuple #[.slice none 0 0, .agg #[.slice A l.length c, .int .i64 2]]) ∧ Below w.heap.size w w' := by
  have HS := Aside0.mk (show Scn w0 (.agg #[.slice A l.length c, .int .i64 0]) l 0 from ⟨A, c, rfl, hr, hc, hb⟩)
  have HX := Aside0.mk hx
  have HL := Aside0.mk hl
  have HW := Aside0.mk hw
  clear hr hc hb hx hl hw
  have b1 : decide (n > max most 0) = true := decide_eq_true hm
  go_enter Try.func30, Try.ntmps30
  go_wp2_with (first | (go_at_call 29; refine (rnum_calls HS.out (below_alloc2 HW.out (.cells #[.slice A l.length c, .int .i64 0] 44) (.cells #[.slice none 0 0, .int .i64 0] 44)) 0 9007199254740992).mono ?_; rw [show (9007199254740992 : Int) = far from rfl, HX.out]; dsimp only; rw [HL.out]; rintro x w2 ⟨v', rfl, ⟨A', c', rfl, hr', hc', hy'⟩, hb⟩; have K1 := Aside0.mk (blk_below (blk_below (heap_alloc2_old w (.cells #[.slice A l.length c, .int .i64 0] 44) (.cells #[.slice none 0 0, .int .i64 0] 44)) hb) (below_alloc (Below.refl w2.heap.size w2) (.cells #[.slice A' l'.length c', .int .i64 0] 44))); have K2 := Aside0.mk (blk_below (blk_below (heap_alloc2_new w (.cells #[.slice A l.length c, .int .i64 0] 44) (.cells #[.slice none 0 0, .int .i64 0] 44)) hb) (below_alloc (Below.refl w2.heap.size w2) (.cells #[.slice A' l'.length c', .int .i64 0] 44))); have HB2 := Aside0.mk (below_alloc (below_step (below_alloc (below_alloc (Below.refl w.heap.size w) (.cells #[.slice A l.length c, .int .i64 0] 44)) (.cells #[.slice none 0 0, .int .i64 0] 44)) hb) (.cells #[.slice A' l'.length c', .int .i64 0] 44)); have HR' := Aside0.mk hr'; have HC' := Aside0.mk hc'; have HY' := Aside0.mk hy'; clear hb hr' hc' hy'; have z0_ := (blk_cell K1.out 0).trans rfl; have z1_ := (blk_cell K1.out 1).trans rfl; have z2_ := (blk_cell K2.out 0).trans rfl; have z3_ := (blk_cell K2.out 1).trans rfl; have f0_ := blk_frozen K2.out 0; have f1_ := blk_frozen K2.out 1) | (go_at_call 34; refine (rfail_calls A l.length c 0 2 _).mono ?_; rintro x w3 ⟨rfl, hb⟩; have BK3 := blk_below K2.out hb; have HB3 := Aside0.mk (below_step HB2.out hb); clear hb; have hz3 := (blk_cell BK3 0).trans rfl; have hz4 := (blk_cell BK3 1).trans rfl; have hf0 := blk_frozen BK3 0; have hf1 := blk_frozen BK3 1))
  all_goals exact bodyPost_ret (results_tmp_cell_row rfl _ _ (w.heap.size + 1) 44 _ (0, 0) _ rfl (blk_put (blk_put BK3 0 _ rfl) 1 _ rfl) Try.underlying44 rfl (by kernel_rfl)) rfl ⟨rfl, below_set (below_set HB3.out (Nat.le_succ _)) (Nat.le_succ _)⟩
set_option maxHeartbeats 1000000 in
set_option maxRecDepth 100000 in
theorem rtext_2 (A : Option Addr) (c : Nat) (most n : Int) (k : Nat) (l l' : List Int) (w0 w : World) (hr : Kd.C (Kd.int .u8) w0 A l.length l) (hc : l.length ≤ c) (hb : Bytes l) (hw : Below w0.heap.size w0 w) (hl : l.drop k = l') (hx : numP l 0 0 far = (n, k, 0)) (hm : ¬ max most 0 < n) (hs : (l'.length : Int) < n) :
    Calls Try.prog 30 #[.agg #[.slice A l.length c, .int .i64 0], .int .i64 most] w fun x w' => x = .returned (.tuple #[.slice none 0 0, .agg #[.slice A l.length c, .int .i64 3]]) ∧ Below w.heap.size w w' := by
  have HS := Aside0.mk (show Scn w0 (.agg #[.slice A l.length c, .int .i64 0]) l 0 from ⟨A, c, rfl, hr, hc, hb⟩)
  have HX := Aside0.mk hx
  have HL := Aside0.mk hl
  have HW := Aside0.mk hw
  clear hr hc hb hx hl hw
  have b1 : decide (n > max most 0) = false := decide_eq_false hm
  have b2 : decide (n > (l'.length : Int)) = true := decide_eq_true hs
  go_enter Try.func30, Try.ntmps30
  go_wp2_with (first | (go_at_call 29; refine (rnum_calls HS.out (below_alloc2 HW.out (.cells #[.slice A l.length c, .int .i64 0] 44) (.cells #[.slice none 0 0, .int .i64 0] 44)) 0 9007199254740992).mono ?_; rw [show (9007199254740992 : Int) = far from rfl, HX.out]; dsimp only; rw [HL.out]; rintro x w2 ⟨v', rfl, ⟨A', c', rfl, hr', hc', hy'⟩, hb⟩; have K1 := Aside0.mk (blk_below (blk_below (heap_alloc2_old w (.cells #[.slice A l.length c, .int .i64 0] 44) (.cells #[.slice none 0 0, .int .i64 0] 44)) hb) (below_alloc (Below.refl w2.heap.size w2) (.cells #[.slice A' l'.length c', .int .i64 0] 44))); have K2 := Aside0.mk (blk_below (blk_below (heap_alloc2_new w (.cells #[.slice A l.length c, .int .i64 0] 44) (.cells #[.slice none 0 0, .int .i64 0] 44)) hb) (below_alloc (Below.refl w2.heap.size w2) (.cells #[.slice A' l'.length c', .int .i64 0] 44))); have HB2 := Aside0.mk (below_alloc (below_step (below_alloc (below_alloc (Below.refl w.heap.size w) (.cells #[.slice A l.length c, .int .i64 0] 44)) (.cells #[.slice none 0 0, .int .i64 0] 44)) hb) (.cells #[.slice A' l'.length c', .int .i64 0] 44)); have HR' := Aside0.mk hr'; have HC' := Aside0.mk hc'; have HY' := Aside0.mk hy'; clear hb hr' hc' hy'; have z0_ := (blk_cell K1.out 0).trans rfl; have z1_ := (blk_cell K1.out 1).trans rfl; have z2_ := (blk_cell K2.out 0).trans rfl; have z3_ := (blk_cell K2.out 1).trans rfl; have f0_ := blk_frozen K2.out 0; have f1_ := blk_frozen K2.out 1) | (go_at_call 34; refine (rfail_calls A l.length c 0 3 _).mono ?_; rintro x w3 ⟨rfl, hb⟩; have BK3 := blk_below K2.out hb; have HB3 := Aside0.mk (below_step HB2.out hb); clear hb; have hz3 := (blk_cell BK3 0).trans rfl; have hz4 := (blk_cell BK3 1).trans rfl; have hf0 := blk_frozen BK3 0; have hf1 := blk_frozen BK3 1))
  all_goals exact bodyPost_ret (results_tmp_cell_row rfl _ _ (w.heap.size + 1) 44 _ (0, 0) _ rfl (blk_put (blk_put BK3 0 _ rfl) 1 _ rfl) Try.underlying44 rfl (by kernel_rfl)) rfl ⟨rfl, below_set (below_set HB3.out (Nat.le_succ _)) (Nat.le_succ _)⟩
set_option maxHeartbeats 1000000 in
set_option maxRecDepth 100000 in
theorem rtext_3 (A : Option Addr) (c : Nat) (most n : Int) (k : Nat) (l l' : List Int) (w0 w : World) (hr : Kd.C (Kd.int .u8) w0 A l.length l) (hc : l.length ≤ c) (hb : Bytes l) (hw : Below w0.heap.size w0 w) (hl : l.drop k = l') (hx : numP l 0 0 far = (n, k, 0)) (hm : ¬ max most 0 < n) (hs : ¬ (l'.length : Int) < n) (l3 : List Int) (hl3 : l'.drop (fixP l' 0 n).2.1 = l3) :
    Calls Try.prog 30 #[.agg #[.slice A l.length c, .int .i64 0], .int .i64 most] w fun x w' => ∃ V v', x = .returned (.tuple #[V, v']) ∧ Rd w0 V (fixP l' 0 n).1 ∧ Scn w0 v' l3 (fixP l' 0 n).2.2 ∧ Below w.heap.size w w' := by
  have HS := Aside0.mk (show Scn w0 (.agg #[.slice A l.length c, .int .i64 0]) l 0 from ⟨A, c, rfl, hr, hc, hb⟩)
  have HX := Aside0.mk hx
  have HL := Aside0.mk hl
  have HW := Aside0.mk hw
  clear hr hc hb hx hl hw
  have b1 : decide (n > max most 0) = false := decide_eq_false hm
  have b2 : decide (n > (l'.length : Int)) = false := decide_eq_false hs
  have HL3 := Aside0.mk hl3
  clear hl3
  go_enter Try.func30, Try.ntmps30
  go_wp2_with (first | (go_at_call 29; refine (rnum_calls HS.out (below_alloc2 HW.out (.cells #[.slice A l.length c, .int .i64 0] 44) (.cells #[.slice none 0 0, .int .i64 0] 44)) 0 9007199254740992).mono ?_; rw [show (9007199254740992 : Int) = far from rfl, HX.out]; dsimp only; rw [HL.out]; rintro x w2 ⟨v', rfl, ⟨A', c', rfl, hr', hc', hy'⟩, hb⟩; have K1 := Aside0.mk (blk_below (blk_below (heap_alloc2_old w (.cells #[.slice A l.length c, .int .i64 0] 44) (.cells #[.slice none 0 0, .int .i64 0] 44)) hb) (below_alloc (Below.refl w2.heap.size w2) (.cells #[.slice A' l'.length c', .int .i64 0] 44))); have K2 := Aside0.mk (blk_below (blk_below (heap_alloc2_new w (.cells #[.slice A l.length c, .int .i64 0] 44) (.cells #[.slice none 0 0, .int .i64 0] 44)) hb) (below_alloc (Below.refl w2.heap.size w2) (.cells #[.slice A' l'.length c', .int .i64 0] 44))); have HB2 := Aside0.mk (below_alloc (below_step (below_alloc (below_alloc (Below.refl w.heap.size w) (.cells #[.slice A l.length c, .int .i64 0] 44)) (.cells #[.slice none 0 0, .int .i64 0] 44)) hb) (.cells #[.slice A' l'.length c', .int .i64 0] 44)); have HR' := Aside0.mk hr'; have HC' := Aside0.mk hc'; have HY' := Aside0.mk hy'; clear hb hr' hc' hy'; have z0_ := (blk_cell K1.out 0).trans rfl; have z1_ := (blk_cell K1.out 1).trans rfl; have z2_ := (blk_cell K2.out 0).trans rfl; have z3_ := (blk_cell K2.out 1).trans rfl; have f0_ := blk_frozen K2.out 0; have f1_ := blk_frozen K2.out 1) | (go_at_call 31; refine (rfix_calls (v := .agg #[.slice A' l'.length c', .int .i64 0]) (w0 := w0) ⟨A', c', rfl, HR'.out, HC'.out, HY'.out⟩ (below_step HW.out HB2.out) n).mono ?_; rw [HL3.out]; rintro x w3 ⟨V, v'', rfl, hv, ⟨A3, c3, rfl, hr3, hc3, hy3⟩, hb⟩; have BK3 := blk_below K2.out hb; have HB3 := Aside0.mk (below_step HB2.out hb); have HV := Aside0.mk hv; have HR3 := Aside0.mk hr3; have HC3 := Aside0.mk hc3; have HY3 := Aside0.mk hy3; clear hb hv hr3 hc3 hy3; have hz3 := (blk_cell BK3 0).trans rfl; have hz4 := (blk_cell BK3 1).trans rfl; have hf0 := blk_frozen BK3 0; have hf1 := blk_frozen BK3 1))
  all_goals
    have hg := blk_lt K2.out
    exact bodyPost_ret (results_tmp_cell_row rfl _ _ (w.heap.size + 1) 44 _ (0, 0) _ rfl (blk_put (blk_put BK3 0 _ rfl) 1 _ rfl) Try.underlying44 rfl (by kernel_rfl)) rfl ⟨V, _, rfl, HV.out, ⟨A3, c3, rfl, HR3.out, HC3.out, HY3.out⟩, below_set (below_set HB3.out (Nat.le_succ _)) (Nat.le_succ _)⟩
theorem rtext_calls {w0 w : World} {v : Value} {l : List Int} {er : Int} (h : Scn w0 v l er) (hW : Below w0.heap.size w0 w) (most : Int) :
    Calls Try.prog 30 #[v, .int .i64 most] w fun x w' => ∃ V v', x = .returned (.tuple #[V, v']) ∧ Rd w0 V (textP l er most).1 ∧ Scn w0 v' (l.drop (textP l er most).2.1) (textP l er most).2.2 ∧ Below w.heap.size w w' := by
  obtain ⟨A, c, rfl, hr, hc, hb⟩ := h
  unfold textP
  by_cases he : (numP l er 0 far).2.2 ≠ 0
  · rw [if_pos he]
    have hx : numP l er 0 far = ((numP l er 0 far).1, (numP l er 0 far).2.1, (numP l er 0 far).2.2) := rfl
    refine (rtext_0 A c er most _ _ _ l _ w0 w hr hc hb hW rfl hx he).mono ?_
    rintro x w' ⟨v', rfl, hs, hB⟩
    rw [num_stay he] at hs
    exact ⟨_, v', rfl, Rd.nil _, hs, hB⟩
  rw [if_neg he]
  have he0 : (numP l er 0 far).2.2 = 0 := by omega
  obtain rfl : er = 0 := num_er he0
  have hx : numP l 0 0 far = ((numP l 0 0 far).1, (numP l 0 0 far).2.1, 0)  := Prod.ext rfl (Prod.ext rfl he0)
  by_cases hm : max most 0 < (numP l 0 0 far).1
  · rw [if_pos hm]
    refine (rtext_1 A c most _ _ l _ w0 w hr hc hb hW rfl hx hm).mono ?_
    rintro x w' ⟨rfl, hB⟩
    exact ⟨_, _, rfl, Rd.nil _, ⟨A, c, rfl, hr, hc, hb⟩, hB⟩
  rw [if_neg hm]
  by_cases hs : ((l.drop (numP l 0 0 far).2.1).length : Int) < (numP l 0 0 far).1
  · rw [if_pos hs]
    refine (rtext_2 A c most _ _ l _ w0 w hr hc hb hW rfl hx hm hs).mono ?_
    rintro x w' ⟨rfl, hB⟩
    exact ⟨_, _, rfl, Rd.nil _, ⟨A, c, rfl, hr, hc, hb⟩, hB⟩
  rw [if_neg hs]
  exact rtext_3 A c most _ _ l _ w0 w hr hc hb hW rfl hx hm hs _ List.drop_drop
end Go.Proofs.Yteonbbfegnjjeaa.Law
