/- Row: sizes laid in a row, the walk, and what the document says of it. -/
import Derived.Test.YtphpinfingaffaaSp
namespace Go.Proofs.Ytphpinfingaffaa.Law
open Go.RowKit Go.Proofs.Ytphpinfingaffaa Go.Proofs.YtphpinfingaffaaW.PrintWords Go.Proofs.YtphpinfingaffaaW.PrintLast Go.Proofs.YtphpinfingaffaaW.PrintMore Go.Proofs.Ytphpinfingaffaa.D Go.Proofs.Ytphpinfingaffaa.Fl
set_option linter.unusedSimpArgs false
set_option linter.unusedVariables false
theorem w64 {n : Int} (h0 : -9223372036854775808 ≤ n) (h1 : n ≤ 9223372036854775807) : wrap64 n = n := by unfold wrap64; omega
/-- a span's complex number -/
def encC (x : S34) : Value := .complex .f64 (floatOfInt .f64 x.f0) (floatOfInt .f64 x.f1)
def kC : Kd S34 := Kd.scalar encC (fun _ => rfl)
theorem info32 : (Try.prog.info? 39).map (fun i => (i.zero, i.size, i.bytes)) = some (some (.complex .f64 0 0), 1, 16) := by kernel_rfl
theorem at_C {w : World} {A : Option Addr} {n : Nat} {xs : List S34} (h : Kd.C kC w A n xs) (i : Int) (h0 : 0 ≤ i) (h1 : i < n) : ∃ ad, A = some ad ∧ w.cell? (ad.add i.toNat) = some (Cx (rd_T34 xs i).f0 (rd_T34 xs i).f1) :=
  ReadsOf.at_ (Kd.reads_of_C (enc := encC) (d := z34) (h1 := fun _ => rfl) h) i h0 h1
theorem kC_mkM (w : World) (base : Nat) (ok : Nat → Prop) (x : S34) : kC.M w base ok x [encC x] := rfl
/-- sizes in a row from a place on; none: one of them may not be -/
def rowL : Int → List Int → Option (List S34)
  | _, [] => some []
  | b, n :: l => if In n ∧ In (b + n) then (rowL (b + n) l).map (fun r => ⟨b, n⟩ :: r) else none
/-- what Row tells -/
def rowP (b : Int) (l : List Int) : List S34 × Int := if In b then match rowL b l with | some r => (r, 0) | none => ([], 6) else ([], 6)
theorem drop_rd {l : List Int} {i : Nat} (h : i < l.length) : l.drop i = rd l (i : Int) :: l.drop (i + 1) := by
  rw [List.drop_eq_getElem_cons h]
  congr 1
  unfold rd
  rw [Int.toNat_natCast, List.getD_eq_getElem?_getD, List.getElem?_eq_getElem h]; rfl
set_option maxHeartbeats 4000000 in
set_option maxRecDepth 100000 in
theorem row_ok (A : Option Addr) (c : Nat) (l : List Int) (b : Int) (res : List S34) (re : Int) (w : World) (hr : Kd.C (Kd.int .i64) w A l.length l) (hc : l.length ≤ c) (hm : l.length ≤ 1000) (hb : In b)
    (g1 : ∀ r, rowL b l = some r → res = r ∧ re = 0) (g2 : rowL b l = none → res = [] ∧ re = 6) :
    Calls Try.prog 23 #[.int .i64 b, .slice A l.length c] w fun e w' => ∃ V, e = .returned (.tuple #[V, .int .i64 re]) ∧ Kd.R kC 39 w' w.heap.size (fun _ => True) V res ∧ Below w.heap.size w w' := by
  have HR := Aside0.mk hr
  have G1 := Aside0.mk g1
  have G2 := Aside0.mk g2
  have HB := Aside0.mk (Below.refl w.heap.size w)
  have HI := Aside0.mk hb
  clear hr g1 g2
  go_enter Try.func23, Try.ntmps23
  go_wp2_with ((go_at_call 32; with_reducible refine (in_yes hb _).mono ?_; rintro e w1 ⟨rfl, h⟩; have nB_ := Aside0.mk (below_step (by repeat (first | (with_reducible first | exact HB.out | apply below_alloc | apply pw_below_drewN | apply below_drew1) | exact HB.out)) h); clear HB h; have HB := nB_; clear nB_))
  go_loopw [0, 6, 16] (fun v0 v6 v16 w' => ∃ (i : Nat) (bi : Int) (done : List S34), i ≤ l.length ∧ In bi ∧ done.length = i ∧ v0 = .int .i64 bi ∧ v16 = .int .i64 i ∧ Aside0 (rowL b l = (rowL bi (l.drop i)).map (fun r => done ++ r)) ∧ Aside0 (Kd.R kC 39 w' w.heap.size (fun _ => True) v6 done) ∧ Aside0 (Below w.heap.size w w')) (fun _ _ v16 _ => l.length - (intOf v16).toNat)
  case atStart => exact ⟨0, b, [], by omega, hb, rfl, rfl, rfl, ⟨by rw [List.drop_zero]; cases rowL b l <;> rfl⟩, ⟨Kd.R_nil _ _ _ _ _⟩, HB⟩
  case round =>
    obtain ⟨i, bi, done, hi, hbi, hdn, rfl, rfl, HG, HO, HBn⟩ := hrel
    clear HB HI
    have HB := HBn
    clear HBn
    by_cases hlt : i < l.length
    · have hltb : decide ((i : Int) < (l.length : Int)) = true := decide_eq_true (by omega)
      have hwi : wrap64 ((i : Int) + 1) = (i : Int) + 1 := w64 (by omega) (by omega)
      have hst := HG.out
      rw [drop_rd hlt, rowL] at hst
      obtain ⟨ad, rfl, hx0⟩ := Kd.at_int HR.out (i : Int) (by omega) (by omega)
      rw [Int.toNat_natCast] at hx0
      have hx := (HB.out.cell (World.block_lt_of_cell? w _ hx0)).trans hx0
      have p1 : (0 ≤ (i : Int)) = True := eq_true (by omega)
      have p2 : ((i : Int) < (l.length : Int)) = True := eq_true (by omega)
      clear hx0
      generalize rd l (i : Int) = n at *
      by_cases hn : In n
      · have hwb : wrap64 (bi + n) = bi + n := w64 (by omega) (by omega)
        by_cases hbn : In (bi + n)
        · rw [if_pos ⟨hn, hbn⟩] at hst
          have HST := Aside0.mk (show rowL b l = (rowL (bi + n) (l.drop (i + 1))).map (fun r => (done ++ [⟨bi, n⟩]) ++ r) by rw [hst, Option.map_map]; congr 1; funext r; simp [Function.comp])
          clear hst HG
          go_wp2_with (first | (go_at_call 24; with_reducible refine (of_yes hbi hn _).mono ?_; rintro e w1 ⟨rfl, h⟩; have nB_ := Aside0.mk (below_step (by repeat (first | (with_reducible first | exact HB.out | apply below_alloc | apply pw_below_drewN | apply below_drew1) | exact HB.out)) h); have nO_ := Aside0.mk (Kd.R_below (by (with_reducible repeat (first | apply Kd.R_alloc | apply Kd.R_drewN | apply Kd.R_drew)); exact HO.out) h); clear HB HO h; have HB := nB_; have HO := nO_; clear nB_ nO_) | (go_at_call 32; with_reducible refine (in_yes hbn _).mono ?_; rintro e w2 ⟨rfl, h⟩; have nB_ := Aside0.mk (below_step (by repeat (first | (with_reducible first | exact HB.out | apply below_alloc | apply pw_below_drewN | apply below_drew1) | exact HB.out)) h); have nO_ := Aside0.mk (Kd.R_below (by (with_reducible repeat (first | apply Kd.R_alloc | apply Kd.R_drewN | apply Kd.R_drew)); exact HO.out) h); clear HB HO h; have HB := nB_; have HO := nO_; clear nB_ nO_) | ((with_reducible refine gate_builtin (b := .append) (xs := #[.tmp 35, .tmp 37]) rfl ?_); at_builtin; refine Kd.R_append kC (w0 := w) w.heap.size rfl (.tmp 35) (.tmp 37) 32 39 (.complex .f64 0 0) 16 rfl Try.underlying32 info32 rfl (by decide) (by omega) u6 done (⟨bi, n⟩ : S34) [encC ⟨bi, n⟩] (fun _ => True) (fun _ => False) rfl rfl ?aP (fun _ hk => hk.elim) ?aF ?aO ?aB ?aS ?aL ?_; (case aP => exact kC_mkM _ _ _ _); (case aB => exact (by repeat (first | (with_reducible first | exact HB.out | apply below_alloc | apply pw_below_drewN | apply below_drew1) | exact HB.out))); (case aF => exact (fun _ _ => trivial)); (case aO => exact (by (with_reducible repeat (first | apply Kd.R_alloc | apply Kd.R_drewN | apply Kd.R_drew)); exact HO.out)); (case aS => exact (below_size (by repeat (first | (with_reducible first | exact HB.out | apply below_alloc | apply pw_below_drewN | apply below_drew1) | exact HB.out)))); (case aL => omega); intro v6 w12 ho hb hg hat; have n0_ := Aside0.mk (hb); have n1_ := Aside0.mk (ho); clear HB; clear HO; have HB := n0_; have HO := n1_; clear n0_ n1_; clear ho hb hg hat))
          go_roundw
          case rel => exact ⟨i + 1, bi + n, _, by omega, hbn, by rw [List.length_append, hdn]; rfl, by go_num, by go_num, HST, HO, HB⟩
          case measure => simp [intOf]; omega
        · rw [if_neg (fun h => hbn h.2)] at hst
          obtain ⟨rfl, rfl⟩ := G2.out hst
          clear hst HG G1 G2
          go_wp2_with (first | (go_at_call 24; with_reducible refine (of_yes hbi hn _).mono ?_; rintro e w1 ⟨rfl, h⟩; have nB_ := Aside0.mk (below_step (by repeat (first | (with_reducible first | exact HB.out | apply below_alloc | apply pw_below_drewN | apply below_drew1) | exact HB.out)) h); have nO_ := Aside0.mk (Kd.R_below (by (with_reducible repeat (first | apply Kd.R_alloc | apply Kd.R_drewN | apply Kd.R_drew)); exact HO.out) h); clear HB HO h; have HB := nB_; have HO := nO_; clear nB_ nO_) | (go_at_call 32; with_reducible refine (in_no hbn _).mono ?_; rintro e w2 ⟨rfl, h⟩; have nB_ := Aside0.mk (below_step (by repeat (first | (with_reducible first | exact HB.out | apply below_alloc | apply pw_below_drewN | apply below_drew1) | exact HB.out)) h); have nO_ := Aside0.mk (Kd.R_below (by (with_reducible repeat (first | apply Kd.R_alloc | apply Kd.R_drewN | apply Kd.R_drew)); exact HO.out) h); clear HB HO h; have HB := nB_; have HO := nO_; clear nB_ nO_))
          go_ret2
          exact ⟨_, rfl, Kd.R_nil _ _ _ _ _, HB.out⟩
      · rw [if_neg (fun h => hn h.1)] at hst
        obtain ⟨rfl, rfl⟩ := G2.out hst
        clear hst HG G1 G2
        go_wp2_with (first | (go_at_call 24; with_reducible refine (of_no2 hbi hn _).mono ?_; rintro e w1 ⟨rfl, h⟩; have nB_ := Aside0.mk (below_step (by repeat (first | (with_reducible first | exact HB.out | apply below_alloc | apply pw_below_drewN | apply below_drew1) | exact HB.out)) h); have nO_ := Aside0.mk (Kd.R_below (by (with_reducible repeat (first | apply Kd.R_alloc | apply Kd.R_drewN | apply Kd.R_drew)); exact HO.out) h); clear HB HO h; have HB := nB_; have HO := nO_; clear nB_ nO_))
        go_ret2
        exact ⟨_, rfl, Kd.R_nil _ _ _ _ _, HB.out⟩
    · obtain rfl : i = l.length := by omega
      have hltb : decide ((l.length : Int) < (l.length : Int)) = false := decide_eq_false (by omega)
      have hst := HG.out
      rw [List.drop_length, rowL, Option.map_some, List.append_nil] at hst
      obtain ⟨rfl, rfl⟩ := G1.out _ hst
      clear hst HG G1 G2
      go_wp2
      go_ret2
      exact ⟨_, rfl, HO.out, HB.out⟩
theorem row_calls {A : Option Addr} {c : Nat} {l : List Int} (b : Int) {w : World} (hr : Kd.C (Kd.int .i64) w A l.length l) (hc : l.length ≤ c) (hm : l.length ≤ 1000) :
    Calls Try.prog 23 #[.int .i64 b, .slice A l.length c] w fun e w' => ∃ V, e = .returned (.tuple #[V, .int .i64 (rowP b l).2]) ∧ Kd.R kC 39 w' w.heap.size (fun _ => True) V (rowP b l).1 ∧ Below w.heap.size w w' := by
  by_cases hb : In b
  · refine row_ok A c l b _ _ w hr hc hm hb (fun r h => ?_) (fun h => ?_)
    · unfold rowP; rw [if_pos hb, h]; exact ⟨rfl, rfl⟩
    · unfold rowP; rw [if_pos hb, h]; exact ⟨rfl, rfl⟩
  · rw [show rowP b l = ([], 6) by unfold rowP; rw [if_neg hb]]
    have HB := Aside0.mk (Below.refl w.heap.size w)
    clear hr
    go_enter Try.func23, Try.ntmps23
    go_wp2_with ((go_at_call 32; with_reducible refine (in_no hb _).mono ?_; rintro e w1 ⟨rfl, h⟩; have nB_ := Aside0.mk (below_step (by repeat (first | (with_reducible first | exact HB.out | apply below_alloc | apply pw_below_drewN | apply below_drew1) | exact HB.out)) h); clear HB h; have HB := nB_; clear nB_))
    go_ret2
    exact ⟨_, rfl, Kd.R_nil _ _ _ _ _, HB.out⟩
set_option maxHeartbeats 4000000 in
set_option maxRecDepth 100000 in
theorem is_calls {b n : Int} (hb : In b) (hn : In n) (w : World) : Calls Try.prog 13 #[Cx b n, .agg #[.int .i64 b, .int .i64 n]] w fun e w' => e = .returned (.bool true) ∧ Below w.heap.size w w' := by
  have q1 := o_eq hb.1 (by omega : b < 9007199254740992)
  have q2 := o_eq hn.1 (by omega : n < 9007199254740992)
  have HB := Aside0.mk (below_alloc (Below.refl w.heap.size w) (.cells #[.int .i64 b, .int .i64 n] 41))
  have K := Aside0.mk (heap_alloc_new w (.cells #[.int .i64 b, .int .i64 n] 41))
  have hz0 := (blk_cell K.out 0).trans rfl
  have hz1 := (blk_cell K.out 1).trans rfl
  go_enter Try.func13, Try.ntmps13
  go_wp2
  go_ret
  exact ⟨rfl, HB.out⟩
/-- all of a row's parts may be -/
theorem rowL_in : ∀ (l : List Int) (b : Int) (r : List S34), In b → rowL b l = some r → ∀ x ∈ r, In x.f0 ∧ In x.f1
  | [], b, r, hb, h, x, hx => by rw [rowL] at h; obtain rfl := Option.some.inj h; cases hx
  | n :: l, b, r, hb, h, x, hx => by
    rw [rowL] at h
    by_cases c : In n ∧ In (b + n)
    · rw [if_pos c] at h
      obtain ⟨r1, h1, rfl⟩ := Option.map_eq_some_iff.mp h
      rcases List.mem_cons.mp hx with rfl | hx
      · exact ⟨hb, c.1⟩
      · exact rowL_in l (b + n) r1 c.2 h1 x hx
    · rw [if_neg c] at h; cases h
theorem rowP_in (b : Int) (l : List Int) (x : S34) (hx : x ∈ (rowP b l).1) : In x.f0 ∧ In x.f1 := by
  unfold rowP at hx
  by_cases hb : In b
  · rw [if_pos hb] at hx
    cases h : rowL b l with
    | none => rw [h] at hx; cases hx
    | some r => rw [h] at hx; exact rowL_in l b r hb h x hx
  · rw [if_neg hb] at hx; cases hx
end Go.Proofs.Ytphpinfingaffaa.Law
