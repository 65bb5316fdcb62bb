/- A Cutter: Push as a whole, Open, New; which cuts may be. -/
import Derived.Test.YtkaabkoadoomjaaCt
namespace Go.Proofs.Ytkaabkoadoomjaa.Law
open Go.RowKit Go.Proofs.Ytkaabkoadoomjaa Go.Proofs.Ytkaabkoadoomjaa.D Go.Proofs.Ytkaabkoadoomjaa.Roll Go.Proofs.YtkaabkoadoomjaaW.PrintWords Go.Proofs.YtkaabkoadoomjaaW.PrintLast Go.Proofs.YtkaabkoadoomjaaW.PrintMore
set_option linter.unusedSimpArgs false
set_option linter.unusedVariables false
theorem cpush {w : World} {kb rb m k : Nat} {mn mx : Int} {L : List Nat} {n b : Nat} (x : Nat) (h : CutS w kb rb m k mn mx L n) (hm : May m) (hk : U k) (hn : n < 1000000) (hb : b < 256) (hx : fp m (L.tail ++ [b]) = x) :
    Calls Try.prog 18 #[.pointer (some ⟨kb, 0, none⟩), .int .u8 (b : Int)] w fun e w' => e = .returned (.bool (endsAt k mn mx (n + 1) x)) ∧ (if endsAt k mn mx (n + 1) x then CutS w' kb rb m k mn mx zeroWin 0 else CutS w' kb rb m k mn mx (L.tail ++ [b]) (n + 1)) ∧ Only2 kb rb w w' := by
  have hxu : U x := by rw [← hx]; exact u_rem _ hm.u hm.ne
  have en : (((n + 1 : Nat)) : Int) = (n : Int) + 1 := by omega
  by_cases h1 : (n : Int) + 1 = mx
  · have e : endsAt k mn mx (n + 1) x = true := by unfold endsAt; rw [en, decide_eq_true h1, Bool.true_or]
    rw [e]
    refine (cpush_most w kb rb m k mn mx L n b x h hm hk hn hb hx h1).mono ?_
    rintro e w' ⟨he, hc, ho⟩
    exact ⟨he, hc, ho⟩
  · by_cases h2 : mn ≤ (n : Int) + 1
    · by_cases h3 : x &&& k = k
      · have e : endsAt k mn mx (n + 1) x = true := by unfold endsAt; rw [en, decide_eq_false h1, decide_eq_true h2, decide_eq_true h3]; rfl
        rw [e]
        refine (cpush_mask w kb rb m k mn mx L n b x h hm hk hn hb hx h1 h2 h3 hxu).mono ?_
        rintro e w' ⟨he, hc, ho⟩
        exact ⟨he, hc, ho⟩
      · have e : endsAt k mn mx (n + 1) x = false := by unfold endsAt; rw [en, decide_eq_false h1, decide_eq_true h2, decide_eq_false h3]; rfl
        rw [e]
        refine (cpush_go w kb rb m k mn mx L n b x h hm hk hn hb hx h1 h2 h3 hxu).mono ?_
        rintro e w' ⟨he, hc, ho⟩
        exact ⟨he, by rw [if_neg (by decide)]; exact hc, ho⟩
    · have e : endsAt k mn mx (n + 1) x = false := by unfold endsAt; rw [en, decide_eq_false h1, decide_eq_false h2]; rfl
      rw [e]
      refine (cpush_least w kb rb m k mn mx L n b x h hm hk hn hb hx h1 h2).mono ?_
      rintro e w' ⟨he, hc, ho⟩
      exact ⟨he, by rw [if_neg (by decide)]; exact hc, ho⟩
set_option maxRecDepth 100000 in
theorem cpush_nil (b : Int) (w : World) : Calls Try.prog 18 #[.pointer none, .int .u8 b] w fun e w' => e = .returned (.bool false) ∧ w = w' := by
  go_enter Try.func18, Try.ntmps18
  go_wp2_with fail
  refine wp_scope_jumps 0 (fun _ _ => False) (fun _ _ => 0) rfl ?_ (fun _ _ h => h.elim)
  go_wp2
  simp only [Exit.jump]
  go_ret
  exact ⟨rfl, rfl⟩
set_option maxRecDepth 100000 in
theorem copen_nil (w : World) : Calls Try.prog 19 #[.pointer none] w fun e w' => e = .returned (.int .i64 0) ∧ w = w' := by
  go_enter Try.func19, Try.ntmps19
  go_wp2
  go_ret
  exact ⟨rfl, rfl⟩
set_option maxRecDepth 100000 in
theorem copen {w : World} {kb rb m k : Nat} {mn mx : Int} {L : List Nat} {n : Nat} (h : CutS w kb rb m k mn mx L n) : Calls Try.prog 19 #[.pointer (some ⟨kb, 0, none⟩)] w fun e w' => e = .returned (.int .i64 (n : Int)) ∧ w = w' := by
  have z5 := (blk_cell h.cell 5).trans rfl
  clear h
  go_enter Try.func19, Try.ntmps19
  go_wp2
  go_ret
  exact ⟨rfl, rfl⟩
/-- may a cut be? -/
structure OkC (m : Nat) (mn mx : Int) : Prop where
  may : May m
  lo : 1 ≤ mn
  mid : mn ≤ mx
  hi : mx ≤ 4096
instance (m : Nat) (mn mx : Int) : Decidable (OkC m mn mx) := decidable_of_iff (May m ∧ 1 ≤ mn ∧ mn ≤ mx ∧ mx ≤ 4096) ⟨fun h => ⟨h.1, h.2.1, h.2.2.1, h.2.2.2⟩, fun h => ⟨h.may, h.lo, h.mid, h.hi⟩⟩
theorem tail_ok (m : Nat) (mn mx : Int) (hm : May m) : (if mn ≥ 1 then (if mx ≥ mn then (some (decide (mx ≤ 4096))) else (some false)) else (some false)) = some (decide (OkC m mn mx)) := by
  by_cases h1 : mn ≥ 1
  · rw [if_pos h1]
    by_cases h2 : mx ≥ mn
    · rw [if_pos h2]
      congr 1
      rw [decide_eq_decide]
      exact ⟨fun h => ⟨hm, h1, h2, h⟩, fun h => h.hi⟩
    · rw [if_neg h2]
      congr 1
      exact (decide_eq_false (fun h => h2 h.mid)).symm
  · rw [if_neg h1]
    congr 1
    exact (decide_eq_false (fun h => h1 h.lo)).symm
theorem right_f {m : Nat} (hu : U m) (k mn mx : Int) : cutter_Right.f 1 (m : Int) k mn mx = some (decide (OkC m mn mx)) := by
  unfold cutter_Right.f
  rw [degree 0 m hu, Option.bind_some]
  have hi := may_iff hu
  by_cases h9 : deg m ≥ 9
  · rw [if_pos h9]
    by_cases h53 : deg m ≤ 53
    · rw [if_pos h53]
      exact tail_ok m mn mx (hi.mpr ⟨h9, h53⟩)
    · rw [if_neg h53]
      congr 1
      exact (decide_eq_false (fun h => h53 (hi.mp h.may).2)).symm
  · rw [if_neg h9]
    congr 1
    exact (decide_eq_false (fun h => h9 (hi.mp h.may).1)).symm
theorem right_calls {m : Nat} (hu : U m) (k mn mx : Int) (w : World) : Calls Try.prog 11 #[.agg #[.int .u64 (m : Int), .int .u64 k, .int .i64 mn, .int .i64 mx]] w fun e w' => e = .returned (.bool (decide (OkC m mn mx))) ∧ Below w.heap.size w w' :=
  cutter_Right.calls 1 (m : Int) k mn mx _ w (right_f hu k mn mx)
theorem ev_rright {m : Nat} (hu : U m) (k mn mx : Int) : Ev (fun n => hypogeumref14_Right.f n (m : Int) k mn mx) (decide (OkC m mn mx)) := by
  refine Ev.bind (f := fun _ t => if t = true then (if mn ≥ 1 then (if mx ≥ mn then (some (decide (mx ≤ 4096))) else (some false)) else (some false)) else (some false)) (ev_right hu) (Ev.congr (f := fun _ => some (decide (OkC m mn mx))) (fun _ => ?_) (Ev.now _))
  by_cases hm : May m
  · rw [decide_eq_true hm, if_pos rfl]
    exact tail_ok m mn mx hm
  · rw [decide_eq_false hm, if_neg (by decide)]
    congr 1
    exact (decide_eq_false (fun h => hm h.may)).symm
set_option maxHeartbeats 4000000 in
set_option maxRecDepth 100000 in
theorem cnew_no {m k : Nat} {mn mx : Int} (hu : U m) (h : ¬ OkC m mn mx) (w : World) : Calls Try.prog 17 #[.agg #[.int .u64 (m : Int), .int .u64 (k : Int), .int .i64 mn, .int .i64 mx]] w fun e w' => e = .returned (.tuple #[.pointer none, .int .i64 6]) ∧ Below w.heap.size w w' := by
  have HB := Aside0.mk (below_alloc (Below.refl w.heap.size w) (.cells #[.int .u64 (m : Int), .int .u64 (k : Int), .int .i64 mn, .int .i64 mx] 24))
  have K := heap_alloc_new w (.cells #[.int .u64 (m : Int), .int .u64 (k : Int), .int .i64 mn, .int .i64 mx] 24)
  have z0 := (blk_cell K 0).trans rfl
  have z1 := (blk_cell K 1).trans rfl
  have z2 := (blk_cell K 2).trans rfl
  have z3 := (blk_cell K 3).trans rfl
  have HR := Aside0.mk (right_calls hu (k : Int) mn mx)
  rw [decide_eq_false h] at HR
  clear K h hu
  go_enter Try.func17, Try.ntmps17
  go_wp2_with (go_at_call 11; with_reducible refine (HR.out _).mono ?_; rintro e w1 ⟨rfl, hb⟩; have n0_ := Aside0.mk (below_step HB.out hb); clear HB hb; have HB := n0_; clear n0_)
  go_ret2
  exact ⟨rfl, HB.out⟩
set_option maxHeartbeats 4000000 in
set_option maxRecDepth 100000 in
theorem cnew {m k : Nat} {mn mx : Int} (h : OkC m mn mx) (w : World) : Calls Try.prog 17 #[.agg #[.int .u64 (m : Int), .int .u64 (k : Int), .int .i64 mn, .int .i64 mx]] w fun e w' => ∃ kb rb, e = .returned (.tuple #[.pointer (some ⟨kb, 0, none⟩), .int .i64 0]) ∧ CutS w' kb rb m k mn mx zeroWin 0 ∧ w.heap.size ≤ kb ∧ w.heap.size ≤ rb ∧ Below w.heap.size w w' := by
  have HB := Aside0.mk (below_alloc (Below.refl w.heap.size w) (.cells #[.int .u64 (m : Int), .int .u64 (k : Int), .int .i64 mn, .int .i64 mx] 24))
  have K := Aside0.mk (heap_alloc_new w (.cells #[.int .u64 (m : Int), .int .u64 (k : Int), .int .i64 mn, .int .i64 mx] 24))
  have z0 := (blk_cell K.out 0).trans rfl
  have z1 := (blk_cell K.out 1).trans rfl
  have z2 := (blk_cell K.out 2).trans rfl
  have z3 := (blk_cell K.out 3).trans rfl
  have HR := Aside0.mk (right_calls h.may.u (k : Int) mn mx)
  rw [decide_eq_true h] at HR
  have HM := Aside0.mk h.may
  clear h
  go_enter Try.func17, Try.ntmps17
  go_wp2_with (first | (go_at_call 11; with_reducible refine (HR.out _).mono ?_; rintro e w1 ⟨rfl, hb⟩; have n0_ := Aside0.mk (below_step HB.out hb); have nK_ := Aside0.mk (blk_below K.out hb); clear HB K hb z0 z1 z2 z3; have HB := n0_; have K := nK_; have z0 := (blk_cell K.out 0).trans rfl; have z1 := (blk_cell K.out 1).trans rfl; have z2 := (blk_cell K.out 2).trans rfl; have z3 := (blk_cell K.out 3).trans rfl; clear n0_ nK_) | (go_at_call 24; with_reducible refine (inv_new HM.out _).mono ?_; rintro e w2 ⟨rb, hrb, rfl, hv, hb⟩; have HV := Aside0.mk hv; have HRB := Aside0.mk (Nat.le_trans HB.out.size hrb); have n0_ := Aside0.mk (below_step HB.out hb); have nK_ := Aside0.mk (blk_below K.out hb); clear HB K hb z0 z1 z2 z3; have HB := n0_; have K := nK_; have z0 := (blk_cell K.out 0).trans rfl; have z1 := (blk_cell K.out 1).trans rfl; have z2 := (blk_cell K.out 2).trans rfl; have z3 := (blk_cell K.out 3).trans rfl; clear n0_ nK_))
  have hlt : rb < w2.heap.size := by
    obtain ⟨C, p, hB, _⟩ := HV.out
    exact World.block_lt_of_cell? w2 ⟨rb, 0, none⟩ (hB.cell 0 (by omega))
  go_ret2
  exact ⟨w2.heap.size, rb, rfl, ⟨heap_alloc_new w2 _, HV.out.below (below_alloc (Below.refl w2.heap.size w2) _) hlt, by omega⟩, HB.out.size, HRB.out, below_alloc HB.out _⟩
end Go.Proofs.Ytkaabkoadoomjaa.Law
