/- SpanCovers: the parts that are picked are just the bytes of the span: the plain law and the walk. -/
import Derived.Test.YtghbcnmkbmaloaaRo
namespace Go.Proofs.Ytghbcnmkbmaloaa.Law
open Go.RowKit Go.Proofs.Ytghbcnmkbmaloaa Go.Proofs.YtghbcnmkbmaloaaW.PrintWords Go.Proofs.YtghbcnmkbmaloaaW.PrintLast Go.Proofs.YtghbcnmkbmaloaaW.PrintMore Go.Proofs.Ytghbcnmkbmaloaa.D Go.Proofs.Ytghbcnmkbmaloaa.Fl
set_option linter.unusedSimpArgs false
set_option linter.unusedVariables false
/-- parts, each of which goes on where the one ahead ended -/
def chain (r : List S34) (en : Int) : Int → List P42 → Prop
  | at_, [] => at_ = en
  | at_, p :: ps => (0 ≤ p.i ∧ p.i < r.length) ∧ (In p.b ∧ In p.n ∧ 1 ≤ p.n) ∧ (In (rd_T34 r p.i).f0 ∧ In (rd_T34 r p.i).f1) ∧ (rd_T34 r p.i).f0 + p.b = at_ ∧ (0 ≤ at_ ∧ at_ + p.n ≤ 2199023255552) ∧ chain r en (at_ + p.n) ps
theorem chain_parts (r : List S34) (c m : Int) (hc : In c) (hm : In m) : ∀ (l : List S34) (i : Nat) (b : Int), (∃ pre, r = pre ++ l ∧ pre.length = i) → rowOk b l → chain r (max c (min (c + m) (rowE b l))) (max c (min (c + m) b)) (partsL c m (i : Int) l)
  | [], i, b, _, _ => rfl
  | x :: l, i, b, hr, ho => by
    obtain ⟨pre, hr, hpl⟩ := hr
    obtain ⟨h1, h2, h3, h4⟩ := ho
    have ih := chain_parts r c m hc hm l (i + 1) (b + x.f1) ⟨pre ++ [x], by rw [hr]; simp only [List.append_assoc, List.singleton_append], by rw [List.length_append, hpl]; rfl⟩ h4
    have h5 := rowOk_in h4
    rw [show ((i + 1 : Nat) : Int) = (i : Int) + 1 by omega] at ih
    have hx : rd_T34 r (i : Int) = x := by
      unfold rd_T34
      rw [Int.toNat_natCast, hr, List.getD_eq_getElem?_getD, List.getElem?_append_right (by omega), hpl, Nat.sub_self]; rfl
    have hlr : i < r.length := by rw [hr, List.length_append, hpl, List.length_cons]; omega
    rw [rowE, partsL, h1]
    unfold In at hc hm h2 h3 h5
    by_cases hme : min (b + x.f1) (c + m) ≤ max b c
    · rw [if_pos hme]
      rw [show max c (min (c + m) b) = max c (min (c + m) (b + x.f1)) by omega]
      exact ih
    · rw [if_neg hme]
      refine ⟨⟨by show 0 ≤ (i : Int); omega, by show (i : Int) < _; omega⟩, ⟨by show In (max b c - b); unfold In; omega, by show In (min (b + x.f1) (c + m) - max b c); unfold In; omega, by show 1 ≤ min (b + x.f1) (c + m) - max b c; omega⟩, ?_, ?_, ?_, ?_⟩
      · show In (rd_T34 r (i : Int)).f0 ∧ In (rd_T34 r (i : Int)).f1
        rw [hx, h1]; exact ⟨h2, h3⟩
      · show (rd_T34 r (i : Int)).f0 + (max b c - b) = _
        rw [hx, h1]; omega
      · show _ ∧ max c (min (c + m) b) + (min (b + x.f1) (c + m) - max b c) ≤ _
        omega
      · show chain r _ (max c (min (c + m) b) + (min (b + x.f1) (c + m) - max b c)) _
        rw [show max c (min (c + m) b) + (min (b + x.f1) (c + m) - max b c) = max c (min (c + m) (b + x.f1)) by omega]
        exact ih
theorem partsL_len (c m : Int) : ∀ (l : List S34) (i : Int), (partsL c m i l).length ≤ l.length
  | [], i => Nat.le_refl _
  | x :: l, i => by
    rw [partsL]
    have := partsL_len c m l (i + 1)
    split
    · rw [List.length_cons]; omega
    · rw [List.length_cons, List.length_cons]; omega
theorem drop_P42 {l : List P42} {i : Nat} (h : i < l.length) : l.drop i = rd_T42 l (i : Int) :: l.drop (i + 1) := by
  rw [List.drop_eq_getElem_cons h]
  congr 1
  unfold rd_T42
  rw [Int.toNat_natCast, List.getD_eq_getElem?_getD, List.getElem?_eq_getElem h]; rfl
/-- what Pick tells of a row -/
def pickP (b c m : Int) (r : List S34) : List P42 × Int := if r.length = 0 then ([], 1) else if c < b ∨ rowE b r < c + m then ([], 6) else (partsL c m 0 r, 0)
theorem pick_calls (A : Option Addr) (cap : Nat) (l : List S34) (b c m : Int) (w : World) (hr : Kd.C kC w A l.length l) (hc : l.length ≤ cap) (hm : l.length ≤ 1000) (ho : rowOk b l) (hcI : In c) (hmI : In m) :
    Calls Try.prog 10 #[.slice A l.length cap, Cx c m] w fun e w' => ∃ V, e = .returned (.tuple #[V, .int .i64 (pickP b c m l).2]) ∧ Kd.R k42 42 w' w.heap.size (fun _ => True) V (pickP b c m l).1 ∧ Below w.heap.size w w' := by
  unfold pickP
  by_cases h1 : l.length = 0
  · rw [if_pos h1, h1]
    refine (pick_none A cap c m w).mono ?_
    rintro e w' ⟨rfl, hb⟩
    exact ⟨_, rfl, Kd.R_nil _ _ _ _ _, hb⟩
  · rw [if_neg h1]
    by_cases h2 : c < b ∨ rowE b l < c + m
    · rw [if_pos h2]
      refine (pick_out A cap l b c m w hr hc hm (Nat.pos_of_ne_zero h1) ho hcI hmI h2).mono ?_
      rintro e w' ⟨rfl, hb⟩
      exact ⟨_, rfl, Kd.R_nil _ _ _ _ _, hb⟩
    · rw [if_neg h2]
      exact pick_in A cap l b c m w hr hc hm (Nat.pos_of_ne_zero h1) ho hcI hmI (by omega) (by omega)
theorem pick_chain {b c m : Int} {r : List S34} (ho : rowOk b r) (hc : In c) (hm : In m) (h : (pickP b c m r).2 = 0) : chain r (c + m) c (pickP b c m r).1 := by
  revert h
  unfold pickP
  by_cases h1 : r.length = 0
  · rw [if_pos h1]; intro h; exact absurd h (by decide)
  · rw [if_neg h1]
    by_cases h2 : c < b ∨ rowE b r < c + m
    · rw [if_pos h2]; intro h; exact absurd h (by decide)
    · rw [if_neg h2]
      intro _
      have h := chain_parts r c m hc hm r 0 b ⟨[], rfl, rfl⟩ ho
      unfold In at hc hm
      rw [show max c (min (c + m) (rowE b r)) = c + m by omega, show max c (min (c + m) b) = c by omega] at h
      exact h
theorem pick_len (b c m : Int) (r : List S34) : (pickP b c m r).1.length ≤ r.length ∧ ((pickP b c m r).2 ≠ 0 → (pickP b c m r).1 = []) := by
  unfold pickP
  by_cases h1 : r.length = 0
  · rw [if_pos h1]; exact ⟨Nat.zero_le _, fun _ => rfl⟩
  · rw [if_neg h1]
    by_cases h2 : c < b ∨ rowE b r < c + m
    · rw [if_pos h2]; exact ⟨Nat.zero_le _, fun _ => rfl⟩
    · rw [if_neg h2]; exact ⟨partsL_len _ _ _ _, fun h => absurd rfl h⟩
/-- what Of tells -/
def ofP (c m : Int) : Value × Int := if In c ∧ In m then (Cx c m, 0) else (.complex .f64 0 0, 6)
theorem of_calls (c m : Int) (w : World) : Calls Try.prog 9 #[.int .i64 c, .int .i64 m] w fun e w' => e = .returned (.tuple #[(ofP c m).1, .int .i64 (ofP c m).2]) ∧ Below w.heap.size w w' := by
  unfold ofP
  by_cases hc : In c
  · by_cases hm : In m
    · rw [if_pos ⟨hc, hm⟩]; exact of_yes hc hm w
    · rw [if_neg (fun h => hm h.2)]; exact of_no2 hc hm w
  · rw [if_neg (fun h => hc h.1)]; exact of_no1 hc w
theorem cov_facts {pi pb pn x0 at_ : Int} {n : Nat} (hpi : 0 ≤ pi ∧ pi < (n : Int)) (hpb : In pb ∧ In pn ∧ 1 ≤ pn) (hx : In x0) (hsum : x0 + pb = at_) (hat : 0 ≤ at_ ∧ at_ + pn ≤ 2199023255552) :
    decide (pi < 0) = false ∧ decide ((n : Int) ≤ pi) = false ∧ decide (pn < 1) = false ∧ wrap64 (x0 + pb) = at_ ∧ wrap64 (at_ + pn) = at_ + pn := by
  obtain ⟨h1, h2, h3⟩ := hpb
  unfold In at h1 h2 hx
  exact ⟨decide_eq_false (by omega), decide_eq_false (by omega), decide_eq_false (by omega), (w64 (by omega) (by omega)).trans hsum, w64 (by omega) (by omega)⟩
theorem less_left {i n : Nat} (h : i < n) (h' : n ≤ 1000) : n - (wrap64 ((i : Int) + 1)).toNat < n - i := by
  rw [wi h h']; omega
theorem run_store_complex {P : Program} {w : World} {a : Addr} {m : Mode} (k : FloatKind) (x y : Nat) : (store a (.complex k x y) m).run P w = stored P w a (.complex k x y) m := run_store P w a _ m rfl
attribute [local go_sem] run_store_complex
set_option maxHeartbeats 4000000 in
set_option maxRecDepth 100000 in
theorem covers_no (A : Option Addr) (c : Nat) (l : List Int) (b f s : Int) (w : World) (hr : Kd.C (Kd.int .i64) w A l.length l) (hc : l.length ≤ c) (hm : l.length ≤ 1000) (h200 : l.length ≤ 200) (r : List S34) (re : Int) (hp : rowP b l = (r, re)) (v : Value) (oe : Int) (ho : ofP f s = (v, oe)) (hne : re ≠ 0 ∨ oe ≠ 0) :
    Calls Try.prog 4 #[.int .i64 b, .slice A l.length c, .int .i64 f, .int .i64 s] w fun e w' => e = .returned (.bool true) ∧ Below w.heap.size w w' := by
  have HR := Aside0.mk hr
  have HP := Aside0.mk hp
  have HV := Aside0.mk ho
  have HB := Aside0.mk (Below.refl w.heap.size w)
  have hgt : decide ((200 : Int) < (l.length : Int)) = false := decide_eq_false (by omega)
  clear hr hp ho h200
  by_cases h : re = 0
  · subst h
    have h2 : (oe != 0) = true := bne_iff_ne.mpr (by omega)
    clear hne
    go_enter Try.func4, Try.ntmps4
    go_wp2_with (first | ((with_reducible refine gate_dst (N := 30) rfl ?_); (try (refine gate_guard (by rfl) ?_; dsimp only)); refine Kd.R_lit (Kd.int .i64) _ 3 ?hg (N := 30) ?hd (xs := ([] : List Int)) (inner := []) (ok := fun _ => True) (okp := fun _ => True) ?hr ?hp (fun _ hk => hk) trivial (Below.refl _ _) (Nat.le_refl _) (by simp) ?_; (case hd => rfl); (case hg => rfl); (case hr => first | (go_simp; done) | (go_simp; rfl)); (case hp => exact (Reps.none _ _)); intro vHO wHO ho hb hg_ hnew_; clear hg_ hnew_; have n0_ := Aside0.mk (Kd.R_lower ho (below_size (by repeat (first | (with_reducible first | exact HB.out | apply below_alloc | apply pw_below_drewN | apply below_drew1) | exact HB.out)))); have n1_ := Aside0.mk (below_step (by repeat (first | (with_reducible first | exact HB.out | apply below_alloc | apply pw_below_drewN | apply below_drew1) | exact HB.out)) hb); clear HB; have HO := n0_; have HB := n1_; clear n0_ n1_; clear hb ho) | ((with_reducible refine gate_builtin (b := .append) (xs := #[.tmp 30, .tmp 31]) rfl ?_); (try (refine gate_guard (by rfl) ?_; dsimp only)); at_builtin; refine Kd.R_append_rows (Kd.int .i64) (w0 := w) w.heap.size rfl (.tmp 30) (.tmp 31) 22 3 (.int .i64 0) 8 rfl Try.underlying22 info3 rfl (by decide) (by omega) vHO [] l _ _ _ (fun _ => True) (fun _ => False) rfl rfl ?aO ?aR (fun _ _ h => h) (fun _ h => h.elim) ?aF ?aB ?aS ?aL ?_; (case aR => repeat (first | exact (Kd.C_below HR.out HB.out) | (with_reducible refine Kd.C_alloc ?_ _) | (with_reducible refine Kd.C_drewN ?_ _) | (with_reducible refine Kd.C_drew ?_))); (case aB => exact (by repeat (first | (with_reducible first | exact HB.out | apply below_alloc | apply pw_below_drewN | apply below_drew1) | exact HB.out))); (case aF => exact (fun _ _ => trivial)); (case aO => exact (by (with_reducible repeat (first | apply Kd.R_alloc | apply Kd.R_drewN | apply Kd.R_drew)); exact HO.out)); (case aS => exact (below_size (by repeat (first | (with_reducible first | exact HB.out | apply below_alloc | apply pw_below_drewN | apply below_drew1) | exact HB.out)))); (case aL => simp only [List.length_nil]; omega); intro vHO wHO ho hb hg hat; (try rw [List.nil_append] at ho); have n0_ := Aside0.mk (hb); have n1_ := Aside0.mk (ho); clear HB; clear HO; have HB := n0_; have HO := n1_; clear n0_ n1_; clear ho hb hg hat; obtain ⟨A5, c5, e5⟩ := Kd.R_slice HO.out; subst e5) | (go_at_call 6; (with_reducible refine (row_calls b (l := l) ?side1 ?side2 hm).mono ?_); (case side1 => repeat (first | exact (Kd.R_reads' HO.out).2.2 | (with_reducible refine Kd.C_alloc ?_ _) | (with_reducible refine Kd.C_drewN ?_ _) | (with_reducible refine Kd.C_drew ?_))); (case side2 => exact (Kd.R_reads' HO.out).2.1); rw [HP.out]; rintro e w6 ⟨V6, rfl, hv, hb⟩; obtain ⟨A6, c6, rfl, hc6, hC6⟩ := Kd.R_reads hv; have R6 := Aside0.mk hC6; clear hC6 hv; have n1_ := Aside0.mk (below_step (by repeat (first | (with_reducible first | exact HB.out | apply below_alloc | apply pw_below_drewN | apply below_drew1) | exact HB.out)) hb); clear HB; have HB := n1_; clear n1_ hb) | (go_at_call 9; (with_reducible refine (of_calls f s _).mono ?_); rw [HV.out]; rintro e w9 ⟨rfl, hb⟩; have n2_ := Aside0.mk (Kd.C_below R6.out hb); clear R6; have R6 := n2_; clear n2_; have n1_ := Aside0.mk (below_step (by repeat (first | (with_reducible first | exact HB.out | apply below_alloc | apply pw_below_drewN | apply below_drew1) | exact HB.out)) hb); clear HB; have HB := n1_; clear n1_ hb) | (go_at_call 5; (with_reducible refine (awake_calls _).mono ?_); rintro e w5 ⟨rfl, hb⟩; have n1_ := Aside0.mk (below_step (by repeat (first | (with_reducible first | exact HB.out | apply below_alloc | apply pw_below_drewN | apply below_drew1) | exact HB.out)) hb); clear HB; have HB := n1_; clear n1_ hb))
    go_ret
    exact ⟨rfl, HB.out⟩
  · have h1 : (re != 0) = true := bne_iff_ne.mpr h
    clear hne
    go_enter Try.func4, Try.ntmps4
    go_wp2_with (first | ((with_reducible refine gate_dst (N := 30) rfl ?_); (try (refine gate_guard (by rfl) ?_; dsimp only)); refine Kd.R_lit (Kd.int .i64) _ 3 ?hg (N := 30) ?hd (xs := ([] : List Int)) (inner := []) (ok := fun _ => True) (okp := fun _ => True) ?hr ?hp (fun _ hk => hk) trivial (Below.refl _ _) (Nat.le_refl _) (by simp) ?_; (case hd => rfl); (case hg => rfl); (case hr => first | (go_simp; done) | (go_simp; rfl)); (case hp => exact (Reps.none _ _)); intro vHO wHO ho hb hg_ hnew_; clear hg_ hnew_; have n0_ := Aside0.mk (Kd.R_lower ho (below_size (by repeat (first | (with_reducible first | exact HB.out | apply below_alloc | apply pw_below_drewN | apply below_drew1) | exact HB.out)))); have n1_ := Aside0.mk (below_step (by repeat (first | (with_reducible first | exact HB.out | apply below_alloc | apply pw_below_drewN | apply below_drew1) | exact HB.out)) hb); clear HB; have HO := n0_; have HB := n1_; clear n0_ n1_; clear hb ho) | ((with_reducible refine gate_builtin (b := .append) (xs := #[.tmp 30, .tmp 31]) rfl ?_); (try (refine gate_guard (by rfl) ?_; dsimp only)); at_builtin; refine Kd.R_append_rows (Kd.int .i64) (w0 := w) w.heap.size rfl (.tmp 30) (.tmp 31) 22 3 (.int .i64 0) 8 rfl Try.underlying22 info3 rfl (by decide) (by omega) vHO [] l _ _ _ (fun _ => True) (fun _ => False) rfl rfl ?aO ?aR (fun _ _ h => h) (fun _ h => h.elim) ?aF ?aB ?aS ?aL ?_; (case aR => repeat (first | exact (Kd.C_below HR.out HB.out) | (with_reducible refine Kd.C_alloc ?_ _) | (with_reducible refine Kd.C_drewN ?_ _) | (with_reducible refine Kd.C_drew ?_))); (case aB => exact (by repeat (first | (with_reducible first | exact HB.out | apply below_alloc | apply pw_below_drewN | apply below_drew1) | exact HB.out))); (case aF => exact (fun _ _ => trivial)); (case aO => exact (by (with_reducible repeat (first | apply Kd.R_alloc | apply Kd.R_drewN | apply Kd.R_drew)); exact HO.out)); (case aS => exact (below_size (by repeat (first | (with_reducible first | exact HB.out | apply below_alloc | apply pw_below_drewN | apply below_drew1) | exact HB.out)))); (case aL => simp only [List.length_nil]; omega); intro vHO wHO ho hb hg hat; (try rw [List.nil_append] at ho); have n0_ := Aside0.mk (hb); have n1_ := Aside0.mk (ho); clear HB; clear HO; have HB := n0_; have HO := n1_; clear n0_ n1_; clear ho hb hg hat; obtain ⟨A5, c5, e5⟩ := Kd.R_slice HO.out; subst e5) | (go_at_call 6; (with_reducible refine (row_calls b (l := l) ?side1 ?side2 hm).mono ?_); (case side1 => repeat (first | exact (Kd.R_reads' HO.out).2.2 | (with_reducible refine Kd.C_alloc ?_ _) | (with_reducible refine Kd.C_drewN ?_ _) | (with_reducible refine Kd.C_drew ?_))); (case side2 => exact (Kd.R_reads' HO.out).2.1); rw [HP.out]; rintro e w6 ⟨V6, rfl, hv, hb⟩; obtain ⟨A6, c6, rfl, hc6, hC6⟩ := Kd.R_reads hv; have R6 := Aside0.mk hC6; clear hC6 hv; have n1_ := Aside0.mk (below_step (by repeat (first | (with_reducible first | exact HB.out | apply below_alloc | apply pw_below_drewN | apply below_drew1) | exact HB.out)) hb); clear HB; have HB := n1_; clear n1_ hb) | (go_at_call 9; (with_reducible refine (of_calls f s _).mono ?_); rw [HV.out]; rintro e w9 ⟨rfl, hb⟩; have n2_ := Aside0.mk (Kd.C_below R6.out hb); clear R6; have R6 := n2_; clear n2_; have n1_ := Aside0.mk (below_step (by repeat (first | (with_reducible first | exact HB.out | apply below_alloc | apply pw_below_drewN | apply below_drew1) | exact HB.out)) hb); clear HB; have HB := n1_; clear n1_ hb) | (go_at_call 5; (with_reducible refine (awake_calls _).mono ?_); rintro e w5 ⟨rfl, hb⟩; have n1_ := Aside0.mk (below_step (by repeat (first | (with_reducible first | exact HB.out | apply below_alloc | apply pw_below_drewN | apply below_drew1) | exact HB.out)) hb); clear HB; have HB := n1_; clear n1_ hb))
    go_ret
    exact ⟨rfl, HB.out⟩
set_option maxHeartbeats 4000000 in
set_option maxRecDepth 100000 in
theorem covers_out (A : Option Addr) (c : Nat) (l : List Int) (b f s : Int) (w : World) (hr : Kd.C (Kd.int .i64) w A l.length l) (hc : l.length ≤ c) (hm : l.length ≤ 1000) (h200 : l.length ≤ 200) (r : List S34) (hp : rowP b l = (r, 0)) (ho : ofP f s = (Cx f s, 0)) (hok : rowOk b r) (hrl : r.length ≤ 1000) (hf : In f) (hs : In s) (pe : Int) (hk : pickP b f s r = ([], pe)) (hpe : pe ≠ 0) :
    Calls Try.prog 4 #[.int .i64 b, .slice A l.length c, .int .i64 f, .int .i64 s] w fun e w' => e = .returned (.bool true) ∧ Below w.heap.size w w' := by
  have HR := Aside0.mk hr
  have HP := Aside0.mk hp
  have HV := Aside0.mk ho
  have HOK := Aside0.mk hok
  have HK := Aside0.mk hk
  have HB := Aside0.mk (Below.refl w.heap.size w)
  have hgt : decide ((200 : Int) < (l.length : Int)) = false := decide_eq_false (by omega)
  have h2 : (pe != 0) = true := bne_iff_ne.mpr hpe
  clear hr hp ho h200 hok hk hpe
  go_enter Try.func4, Try.ntmps4
  go_wp2_with (first | ((with_reducible refine gate_dst (N := 30) rfl ?_); (try (refine gate_guard (by rfl) ?_; dsimp only)); refine Kd.R_lit (Kd.int .i64) _ 3 ?hg (N := 30) ?hd (xs := ([] : List Int)) (inner := []) (ok := fun _ => True) (okp := fun _ => True) ?hr ?hp (fun _ hk => hk) trivial (Below.refl _ _) (Nat.le_refl _) (by simp) ?_; (case hd => rfl); (case hg => rfl); (case hr => first | (go_simp; done) | (go_simp; rfl)); (case hp => exact (Reps.none _ _)); intro vHO wHO ho hb hg_ hnew_; clear hg_ hnew_; have n0_ := Aside0.mk (Kd.R_lower ho (below_size (by repeat (first | (with_reducible first | exact HB.out | apply below_alloc | apply pw_below_drewN | apply below_drew1) | exact HB.out)))); have n1_ := Aside0.mk (below_step (by repeat (first | (with_reducible first | exact HB.out | apply below_alloc | apply pw_below_drewN | apply below_drew1) | exact HB.out)) hb); clear HB; have HO := n0_; have HB := n1_; clear n0_ n1_; clear hb ho) | ((with_reducible refine gate_builtin (b := .append) (xs := #[.tmp 30, .tmp 31]) rfl ?_); (try (refine gate_guard (by rfl) ?_; dsimp only)); at_builtin; refine Kd.R_append_rows (Kd.int .i64) (w0 := w) w.heap.size rfl (.tmp 30) (.tmp 31) 22 3 (.int .i64 0) 8 rfl Try.underlying22 info3 rfl (by decide) (by omega) vHO [] l _ _ _ (fun _ => True) (fun _ => False) rfl rfl ?aO ?aR (fun _ _ h => h) (fun _ h => h.elim) ?aF ?aB ?aS ?aL ?_; (case aR => repeat (first | exact (Kd.C_below HR.out HB.out) | (with_reducible refine Kd.C_alloc ?_ _) | (with_reducible refine Kd.C_drewN ?_ _) | (with_reducible refine Kd.C_drew ?_))); (case aB => exact (by repeat (first | (with_reducible first | exact HB.out | apply below_alloc | apply pw_below_drewN | apply below_drew1) | exact HB.out))); (case aF => exact (fun _ _ => trivial)); (case aO => exact (by (with_reducible repeat (first | apply Kd.R_alloc | apply Kd.R_drewN | apply Kd.R_drew)); exact HO.out)); (case aS => exact (below_size (by repeat (first | (with_reducible first | exact HB.out | apply below_alloc | apply pw_below_drewN | apply below_drew1) | exact HB.out)))); (case aL => simp only [List.length_nil]; omega); intro vHO wHO ho hb hg hat; (try rw [List.nil_append] at ho); have n0_ := Aside0.mk (hb); have n1_ := Aside0.mk (ho); clear HB; clear HO; have HB := n0_; have HO := n1_; clear n0_ n1_; clear ho hb hg hat; obtain ⟨A5, c5, e5⟩ := Kd.R_slice HO.out; subst e5) | (go_at_call 6; (with_reducible refine (row_calls b (l := l) ?side1 ?side2 hm).mono ?_); (case side1 => repeat (first | exact (Kd.R_reads' HO.out).2.2 | (with_reducible refine Kd.C_alloc ?_ _) | (with_reducible refine Kd.C_drewN ?_ _) | (with_reducible refine Kd.C_drew ?_))); (case side2 => exact (Kd.R_reads' HO.out).2.1); rw [HP.out]; rintro e w6 ⟨V6, rfl, hv, hb⟩; obtain ⟨A6, c6, rfl, hc6, hC6⟩ := Kd.R_reads hv; have R6 := Aside0.mk hC6; clear hC6 hv; have n1_ := Aside0.mk (below_step (by repeat (first | (with_reducible first | exact HB.out | apply below_alloc | apply pw_below_drewN | apply below_drew1) | exact HB.out)) hb); clear HB; have HB := n1_; clear n1_ hb) | (go_at_call 9; (with_reducible refine (of_calls f s _).mono ?_); rw [HV.out]; rintro e w9 ⟨rfl, hb⟩; have n2_ := Aside0.mk (Kd.C_below R6.out hb); clear R6; have R6 := n2_; clear n2_; have n1_ := Aside0.mk (below_step (by repeat (first | (with_reducible first | exact HB.out | apply below_alloc | apply pw_below_drewN | apply below_drew1) | exact HB.out)) hb); clear HB; have HB := n1_; clear n1_ hb) | (go_at_call 10; (with_reducible refine (pick_calls A6 c6 r b f s _ R6.out hc6 hrl HOK.out hf hs).mono ?_); rw [HK.out]; rintro e w10 ⟨V10, rfl, hv, hb⟩; obtain ⟨A10, c10, rfl, hc10, hC10⟩ := Kd.R_reads hv; have R10 := Aside0.mk hC10; have n2_ := Aside0.mk (Kd.C_below R6.out hb); clear R6 hC10 hv; have R6 := n2_; clear n2_; have n1_ := Aside0.mk (below_step (by repeat (first | (with_reducible first | exact HB.out | apply below_alloc | apply pw_below_drewN | apply below_drew1) | exact HB.out)) hb); clear HB; have HB := n1_; clear n1_ hb) | (go_at_call 5; (with_reducible refine (awake_calls _).mono ?_); rintro e w5 ⟨rfl, hb⟩; have n1_ := Aside0.mk (below_step (by repeat (first | (with_reducible first | exact HB.out | apply below_alloc | apply pw_below_drewN | apply below_drew1) | exact HB.out)) hb); clear HB; have HB := n1_; clear n1_ hb))
  go_ret
  exact ⟨rfl, HB.out⟩
set_option maxHeartbeats 4000000 in
set_option maxRecDepth 100000 in
theorem covers_in (A : Option Addr) (c : Nat) (l : List Int) (b f s : Int) (w : World) (hr : Kd.C (Kd.int .i64) w A l.length l) (hc : l.length ≤ c) (hm : l.length ≤ 1000) (h200 : l.length ≤ 200) (r : List S34) (hp : rowP b l = (r, 0)) (ho : ofP f s = (Cx f s, 0)) (hok : rowOk b r) (hrl : r.length ≤ 1000) (hf : In f) (hs : In s) (ps : List P42) (hk : pickP b f s r = (ps, 0)) (hpl : ps.length ≤ 1000) (hch : chain r (f + s) f ps) :
    Calls Try.prog 4 #[.int .i64 b, .slice A l.length c, .int .i64 f, .int .i64 s] w fun e w' => e = .returned (.bool true) ∧ Below w.heap.size w w' := by
  have HR := Aside0.mk hr
  have HP := Aside0.mk hp
  have HV := Aside0.mk ho
  have HOK := Aside0.mk hok
  have HK := Aside0.mk hk
  have HCH := Aside0.mk hch
  have HB := Aside0.mk (Below.refl w.heap.size w)
  have hgt : decide ((200 : Int) < (l.length : Int)) = false := decide_eq_false (by omega)
  have HFS := Aside0.mk (show wrap64 (f + s) = f + s from w64 (by unfold In at hf hs; omega) (by unfold In at hf hs; omega))
  clear hr hp ho h200 hok hk hch
  go_enter Try.func4, Try.ntmps4
  go_wp2_with (first | ((with_reducible refine gate_dst (N := 30) rfl ?_); (try (refine gate_guard (by rfl) ?_; dsimp only)); refine Kd.R_lit (Kd.int .i64) _ 3 ?hg (N := 30) ?hd (xs := ([] : List Int)) (inner := []) (ok := fun _ => True) (okp := fun _ => True) ?hr ?hp (fun _ hk => hk) trivial (Below.refl _ _) (Nat.le_refl _) (by simp) ?_; (case hd => rfl); (case hg => rfl); (case hr => first | (go_simp; done) | (go_simp; rfl)); (case hp => exact (Reps.none _ _)); intro vHO wHO ho hb hg_ hnew_; clear hg_ hnew_; have n0_ := Aside0.mk (Kd.R_lower ho (below_size (by repeat (first | (with_reducible first | exact HB.out | apply below_alloc | apply pw_below_drewN | apply below_drew1) | exact HB.out)))); have n1_ := Aside0.mk (below_step (by repeat (first | (with_reducible first | exact HB.out | apply below_alloc | apply pw_below_drewN | apply below_drew1) | exact HB.out)) hb); clear HB; have HO := n0_; have HB := n1_; clear n0_ n1_; clear hb ho) | ((with_reducible refine gate_builtin (b := .append) (xs := #[.tmp 30, .tmp 31]) rfl ?_); (try (refine gate_guard (by rfl) ?_; dsimp only)); at_builtin; refine Kd.R_append_rows (Kd.int .i64) (w0 := w) w.heap.size rfl (.tmp 30) (.tmp 31) 22 3 (.int .i64 0) 8 rfl Try.underlying22 info3 rfl (by decide) (by omega) vHO [] l _ _ _ (fun _ => True) (fun _ => False) rfl rfl ?aO ?aR (fun _ _ h => h) (fun _ h => h.elim) ?aF ?aB ?aS ?aL ?_; (case aR => repeat (first | exact (Kd.C_below HR.out HB.out) | (with_reducible refine Kd.C_alloc ?_ _) | (with_reducible refine Kd.C_drewN ?_ _) | (with_reducible refine Kd.C_drew ?_))); (case aB => exact (by repeat (first | (with_reducible first | exact HB.out | apply below_alloc | apply pw_below_drewN | apply below_drew1) | exact HB.out))); (case aF => exact (fun _ _ => trivial)); (case aO => exact (by (with_reducible repeat (first | apply Kd.R_alloc | apply Kd.R_drewN | apply Kd.R_drew)); exact HO.out)); (case aS => exact (below_size (by repeat (first | (with_reducible first | exact HB.out | apply below_alloc | apply pw_below_drewN | apply below_drew1) | exact HB.out)))); (case aL => simp only [List.length_nil]; omega); intro vHO wHO ho hb hg hat; (try rw [List.nil_append] at ho); have n0_ := Aside0.mk (hb); have n1_ := Aside0.mk (ho); clear HB; clear HO; have HB := n0_; have HO := n1_; clear n0_ n1_; clear ho hb hg hat; obtain ⟨A5, c5, e5⟩ := Kd.R_slice HO.out; subst e5) | (go_at_call 6; (with_reducible refine (row_calls b (l := l) ?side1 ?side2 hm).mono ?_); (case side1 => repeat (first | exact (Kd.R_reads' HO.out).2.2 | (with_reducible refine Kd.C_alloc ?_ _) | (with_reducible refine Kd.C_drewN ?_ _) | (with_reducible refine Kd.C_drew ?_))); (case side2 => exact (Kd.R_reads' HO.out).2.1); rw [HP.out]; rintro e w6 ⟨V6, rfl, hv, hb⟩; obtain ⟨A6, c6, rfl, hc6, hC6⟩ := Kd.R_reads hv; have R6 := Aside0.mk hC6; clear hC6 hv; have n1_ := Aside0.mk (below_step (by repeat (first | (with_reducible first | exact HB.out | apply below_alloc | apply pw_below_drewN | apply below_drew1) | exact HB.out)) hb); clear HB; have HB := n1_; clear n1_ hb) | (go_at_call 9; (with_reducible refine (of_calls f s _).mono ?_); rw [HV.out]; rintro e w9 ⟨rfl, hb⟩; have n2_ := Aside0.mk (Kd.C_below R6.out hb); clear R6; have R6 := n2_; clear n2_; have n1_ := Aside0.mk (below_step (by repeat (first | (with_reducible first | exact HB.out | apply below_alloc | apply pw_below_drewN | apply below_drew1) | exact HB.out)) hb); clear HB; have HB := n1_; clear n1_ hb) | (go_at_call 10; (with_reducible refine (pick_calls A6 c6 r b f s _ R6.out hc6 hrl HOK.out hf hs).mono ?_); rw [HK.out]; rintro e w10 ⟨V10, rfl, hv, hb⟩; obtain ⟨A10, c10, rfl, hc10, hC10⟩ := Kd.R_reads hv; have R10 := Aside0.mk hC10; have n2_ := Aside0.mk (Kd.C_below R6.out hb); clear R6 hC10 hv; have R6 := n2_; clear n2_; have n1_ := Aside0.mk (below_step (by repeat (first | (with_reducible first | exact HB.out | apply below_alloc | apply pw_below_drewN | apply below_drew1) | exact HB.out)) hb); clear HB; have HB := n1_; clear n1_ hb) | (go_at_call 5; (with_reducible refine (awake_calls _).mono ?_); rintro e w5 ⟨rfl, hb⟩; have n1_ := Aside0.mk (below_step (by repeat (first | (with_reducible first | exact HB.out | apply below_alloc | apply pw_below_drewN | apply below_drew1) | exact HB.out)) hb); clear HB; have HB := n1_; clear n1_ hb))
  generalize HW7 : w10 = wq at *
  clear HW7
  go_loopw [15, 66] (fun v15 v66 wr => ∃ (i : Nat) (at_ : Int), i ≤ ps.length ∧ v15 = .int .i64 at_ ∧ v66 = .int .i64 i ∧ Aside0 (chain r (f + s) at_ (ps.drop i)) ∧ Aside0 (Below w.heap.size w wr) ∧ Aside0 (Below wq.heap.size wq wr)) (fun _ v66 _ => ps.length - (intOf v66).toNat)
  case atStart => exact ⟨0, f, Nat.zero_le _, rfl, rfl, ⟨by rw [List.drop_zero]; exact HCH.out⟩, HB, ⟨Below.refl _ _⟩⟩
  case round =>
    obtain ⟨i, at_, hi, rfl, rfl, HC, HBn, HQ⟩ := hrel
    clear HB hf hs
    have HB := HBn
    clear HBn
    by_cases hlt : i < ps.length
    · have hltb : decide ((i : Int) < (ps.length : Int)) = true := decide_eq_true (lt_lt hlt)
      have hst := HC.out
      rw [drop_P42 hlt] at hst
      obtain ⟨ae, rfl, hy0, hz0⟩ := at_T42 R10.out (i : Int) (Int.natCast_nonneg _) (lt_lt hlt)
      rw [Int.toNat_natCast] at hy0 hz0
      have hy := (HQ.out.cell (World.block_lt_of_cell? wq _ hy0)).trans hy0
      have hz := (HQ.out.cell (World.block_lt_of_cell? wq _ hz0)).trans hz0
      have p1 : (0 ≤ (i : Int)) = True := eq_true (Int.natCast_nonneg _)
      have p2 : ((i : Int) < (ps.length : Int)) = True := eq_true (lt_lt hlt)
      clear hy0 hz0 HC
      generalize rd_T42 ps (i : Int) = p at *
      obtain ⟨hpi, hpb, hpx, hsum, hat, hnext⟩ := hst
      have HC := Aside0.mk hnext
      obtain ⟨ad, rfl, hx0⟩ := at_C R6.out p.i hpi.1 hpi.2
      have HX := Aside0.mk hx0
      have j1 : (0 ≤ p.i) = True := eq_true hpi.1
      have j2 : (p.i < (r.length : Int)) = True := eq_true hpi.2
      obtain ⟨j3, j4, j5, hwa, hwn⟩ := cov_facts hpi hpb hpx.1 hsum hat
      clear hnext hx0 hpi
      generalize rd_T34 r p.i = x at *
      have HPX := Aside0.mk hpx
      have HPB := Aside0.mk hpb
      clear hpx hpb hsum hat
      have Ka := heap_alloc_new wr (.cells #[.int .i64 0, .complex .f64 0 0] 42)
      have z0 := (blk_cell Ka 0).trans rfl
      have f0 := blk_frozen Ka 0
      have Kb := heap_alloc_new wr (.cells #[.int .i64 p.i, .complex .f64 0 0] 42)
      have z1 := (blk_cell Kb 1).trans rfl
      have f1 := blk_frozen Kb 1
      have K := Aside0.mk (heap_alloc_new wr (.cells #[.int .i64 p.i, Cx p.b p.n] 42))
      have s0 := (blk_cell K.out 0).trans rfl
      have s1 := (blk_cell K.out 1).trans rfl
      have n0_ := Aside0.mk (below_alloc HB.out (.cells #[.int .i64 p.i, Cx p.b p.n] 42))
      have n1_ := Aside0.mk (below_alloc HQ.out (.cells #[.int .i64 p.i, Cx p.b p.n] 42))
      have hx := (n1_.out.cell (World.block_lt_of_cell? wq _ HX.out)).trans HX.out
      clear HB HQ Ka Kb
      have HB := n0_
      have HQ := n1_
      clear n0_ n1_
      have hwi := wi hlt hpl
      clear hc hm hrl hpl hgt hc6 hc10
      go_wp2_with (first | (go_at_call 11; with_reducible refine (parts_calls HPX.out.1 HPX.out.2 _).mono ?_; rintro e w11 ⟨rfl, hb⟩; have n0_ := Aside0.mk (below_step HB.out hb); have n1_ := Aside0.mk (below_step HQ.out hb); have nK_ := Aside0.mk (blk_below K.out hb); clear HB HQ K hb s0 s1; have HB := n0_; have HQ := n1_; have K := nK_; have s0 := (blk_cell K.out 0).trans rfl; have s1 := (blk_cell K.out 1).trans rfl; clear n0_ n1_ nK_) | (go_at_call 11; with_reducible refine (parts_calls HPB.out.1 HPB.out.2.1 _).mono ?_; rintro e w12 ⟨rfl, hb⟩; have n0_ := Aside0.mk (below_step HB.out hb); have n1_ := Aside0.mk (below_step HQ.out hb); have nK_ := Aside0.mk (blk_below K.out hb); clear HB HQ K hb s0 s1; have HB := n0_; have HQ := n1_; have K := nK_; have s0 := (blk_cell K.out 0).trans rfl; have s1 := (blk_cell K.out 1).trans rfl; clear n0_ n1_ nK_))
      simp only [hwi]
      go_roundw
      case rel => exact ⟨i + 1, at_ + p.n, hlt, by go_num, by go_num, HC, HB, HQ⟩
      case measure => simp [intOf]; exact left_less hlt
    · obtain rfl : i = ps.length := Nat.le_antisymm hi (Nat.le_of_not_lt hlt)
      have hltb : decide ((ps.length : Int) < (ps.length : Int)) = false := decide_eq_false (Int.lt_irrefl _)
      have hst := HC.out
      rw [List.drop_length, chain] at hst
      have hwf := HFS.out
      have heq : (at_ == f + s) = true := beq_iff_eq.mpr hst
      clear hst HC
      go_wp2_with (go_at_call 5; with_reducible refine (awake_calls _).mono ?_; rintro e w9 ⟨rfl, hb⟩; have HB9 := Aside0.mk (below_step HB.out hb); clear hb)
      go_ret
      exact ⟨rfl, HB9.out⟩
set_option maxHeartbeats 4000000 in
set_option maxRecDepth 100000 in
theorem covers_many (A : Option Addr) (c n : Nat) (b f s : Int) (w : World) (hm : ¬ n ≤ 200) : Calls Try.prog 4 #[.int .i64 b, .slice A n c, .int .i64 f, .int .i64 s] w fun e w' => e = .returned (.bool true) ∧ Below w.heap.size w w' := by
  have hgt : decide ((200 : Int) < (n : Int)) = true := decide_eq_true (by omega)
  clear hm
  go_enter Try.func4, Try.ntmps4
  go_wp2_with (go_at_call 5; with_reducible refine (awake_calls _).mono ?_; rintro e w9 ⟨rfl, hb⟩; have HB9 := Aside0.mk hb; clear hb)
  go_ret
  exact ⟨rfl, HB9.out⟩
theorem rowP_ok {b : Int} {l : List Int} {r : List S34} (h : rowP b l = (r, 0)) : rowOk b r := by
  unfold rowP at h
  by_cases hb : In b
  · rw [if_pos hb] at h
    cases h1 : rowL b l with
    | none => rw [h1] at h; exact absurd (show (6 : Int) = 0 from congrArg Prod.snd h) (by decide)
    | some r1 =>
      rw [h1] at h
      obtain rfl : r1 = r := congrArg Prod.fst h
      exact rowL_ok l b r1 hb h1
  · rw [if_neg hb] at h; exact absurd (show (6 : Int) = 0 from congrArg Prod.snd h) (by decide)
theorem covers_walk (a1 : Int) (a2 : Option Addr) (len2 cap2 : Nat) (z2 : List Int) (a3 a4 : Int) (w : World) (_ : (Lit.int .i64 a1).wf = true) (w2 : IsRow .i64 w a2 len2 cap2 z2) (_ : len2 * 8 ≤ 140737488351232) (_ : (Lit.int .i64 a3).wf = true) (_ : (Lit.int .i64 a4).wf = true) :
    Calls Try.prog 4 #[.int .i64 a1, .slice a2 len2 cap2, .int .i64 a3, .int .i64 a4] w fun e w' => e = .returned (.bool true) ∧ Below w.heap.size w w' := by
  obtain ⟨l, rfl, hr, hc⟩ := w2.opened
  by_cases h200 : l.length ≤ 200
  · obtain ⟨⟨r, re⟩, hp⟩ : ∃ q, rowP a1 l = q := ⟨_, rfl⟩
    obtain ⟨⟨v, oe⟩, ho⟩ : ∃ q, ofP a3 a4 = q := ⟨_, rfl⟩
    have hm : l.length ≤ 1000 := by omega
    have hrl : r.length ≤ 1000 := by have := rowP_len a1 l; rw [hp] at this; dsimp only at this; omega
    by_cases hne : re ≠ 0 ∨ oe ≠ 0
    · exact covers_no a2 cap2 l a1 a3 a4 w hr hc hm h200 r re hp v oe ho hne
    · obtain ⟨rfl, rfl⟩ : re = 0 ∧ oe = 0 := by omega
      have hok := rowP_ok hp
      have hin : In a3 ∧ In a4 := by
        unfold ofP at ho
        by_cases h : In a3 ∧ In a4
        · exact h
        · rw [if_neg h] at ho; exact absurd (show (6 : Int) = 0 from congrArg Prod.snd ho) (by decide)
      obtain rfl : v = Cx a3 a4 := by unfold ofP at ho; rw [if_pos hin] at ho; exact (congrArg Prod.fst ho).symm
      obtain ⟨⟨ps, pe⟩, hk⟩ : ∃ q, pickP a1 a3 a4 r = q := ⟨_, rfl⟩
      have hl := pick_len a1 a3 a4 r
      rw [hk] at hl
      by_cases hpe : pe = 0
      · subst hpe
        have hch := pick_chain hok hin.1 hin.2 (show (pickP a1 a3 a4 r).2 = 0 by rw [hk])
        rw [hk] at hch
        exact covers_in a2 cap2 l a1 a3 a4 w hr hc hm h200 r hp ho hok hrl hin.1 hin.2 ps hk (Nat.le_trans hl.1 hrl) hch
      · obtain rfl : ps = [] := hl.2 hpe
        exact covers_out a2 cap2 l a1 a3 a4 w hr hc hm h200 r hp ho hok hrl hin.1 hin.2 pe hk hpe
  · exact covers_many a2 cap2 l.length a1 a3 a4 w h200
end Go.Proofs.Ytghbcnmkbmaloaa.Law
