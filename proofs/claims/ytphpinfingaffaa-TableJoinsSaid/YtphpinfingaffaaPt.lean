/- Pick's closure: it appends one part to the row that it holds. -/
import Derived.Test.YtphpinfingaffaaWh
namespace Go.Proofs.Ytphpinfingaffaa.Law
open Go.RowKit Go.Proofs.Ytphpinfingaffaa Go.Proofs.YtphpinfingaffaaW.PrintWords Go.Proofs.YtphpinfingaffaaW.PrintLast Go.Proofs.YtphpinfingaffaaW.PrintMore Go.Proofs.Ytphpinfingaffaa.D Go.Proofs.Ytphpinfingaffaa.Fl
set_option linter.unusedSimpArgs false
set_option linter.unusedVariables false
/-- a part: which span, and what of it -/
structure P42 where
  i : Int
  b : Int
  n : Int
def z42 : P42 := ⟨0, 0, 0⟩
def k42 : Kd P42 := Kd.iso (Kd.pair (Kd.int .i64) kC) (fun x : P42 => (x.i, (⟨x.b, x.n⟩ : S34)))
theorem k42_open {w : World} {x : P42} {cs : List Value} (h : k42.K w x cs) : cs = [.int .i64 x.i, Cx x.b x.n] := by
  obtain ⟨_, _, rfl, rfl, rfl⟩ := h
  exact rfl
theorem k42_mkM (w : World) (base : Nat) (ok : Nat → Prop) (x : P42) : k42.M w base ok x [.int .i64 x.i, Cx x.b x.n] := ⟨[.int .i64 x.i], [Cx x.b x.n], rfl, rfl, rfl⟩
theorem info42 : (Try.prog.info? 49).map (fun i => (i.zero, i.size, i.bytes)) = some (some (.agg #[(.int .i64 0), (.complex .f64 0 0)]), 2, 24) := by kernel_rfl
def rd_T42 (xs : List P42) (i : Int) : P42 := xs.getD i.toNat z42
theorem at_T42 {w : World} {A : Option Addr} {n : Nat} {xs : List P42} (h : Kd.C k42 w A n xs) (i : Int) (h0 : 0 ≤ i) (h1 : i < n) : ∃ ad , A = some ad ∧ w.cell? (ad.add (i.toNat * 2)) = some (.int .i64 (rd_T42 xs i).i) ∧ w.cell? ⟨(ad.add (i.toNat * 2)).block, (ad.add (i.toNat * 2)).off + 1, none⟩ = some (Cx (rd_T42 xs i).b (rd_T42 xs i).n) := by
  obtain ⟨ad, c, e, _, hK, hc0⟩ := Kd.C_get h z42 i h0 h1
  have hc : ∀ j u, c[j]? = some u → w.cell? (ad.add (i.toNat * 2 + j)) = some u := hc0
  obtain rfl := k42_open hK
  exact ⟨ad, e, hc 0 _ rfl, by rw [← add_field _ _ 1 (by omega)]; exact hc 1 _ rfl⟩
theorem run_csub {n m k : Int} (h : 0 ≤ m) (h' : m ≤ n) (h1 : n < 9007199254740992) (hk : 0 ≤ k) (hk1 : k < 9007199254740992) (t : TypeId) (w : World) : (binOp .sub t (Cx n k) (.complex .f64 (floatOfInt .f64 m) 0)).run Try.prog w = .ok (Cx (n - m) k) w := by
  have e := f_sub (n := k) (m := 0) (by omega) hk hk1
  rw [f_zero, Int.sub_zero] at e
  exact run_complex_sum w .sub (.inr rfl) t .f64 _ _ _ _ _ _ (by unfold cSumBits; rw [f_sub h h' h1, e]; rfl)
set_option maxHeartbeats 4000000 in
set_option maxRecDepth 100000 in
theorem put_calls (A : Option Addr) (c g0 g1 : Nat) (l : List S34) (i : Nat) (x : S34) (mb mn : Int) (ps : List P42) (V : Value) (w0 w : World) (hr : Kd.C kC w0 A l.length l) (hc : l.length ≤ c) (hm : l.length ≤ 1000) (hi : i < l.length) (hx : rd_T34 l (i : Int) = x)
    (h0 : w.heap[g0]? = some (.cells #[.slice A l.length c] 32 (0, 0))) (h1 : w.heap[g1]? = some (.cells #[V] 42 (0, 0))) (hg : g0 ≠ g1) (hB1 : w0.heap.size ≤ g1) (hV : Kd.R k42 49 w w0.heap.size (fun k => k ≠ g0 ∧ k ≠ g1) V ps) (hp : ps.length ≤ 1000) (hb : Below w0.heap.size w0 w)
    (hx0 : 0 ≤ x.f0) (hxm : x.f0 ≤ mb) (hmb : mb < 9007199254740992) (hn0 : 0 ≤ mn) (hn1 : mn < 9007199254740992) :
    Calls Try.prog 36 #[.int .i64 i, Cx mb mn, .pointer (some ⟨g1, 0, none⟩), .pointer (some ⟨g0, 0, none⟩)] w fun e w' => e = .returned (.tuple #[]) ∧ ∃ V', w'.heap[g0]? = some (.cells #[.slice A l.length c] 32 (0, 0)) ∧ w'.heap[g1]? = some (.cells #[V'] 42 (0, 0)) ∧ Kd.R k42 49 w' w0.heap.size (fun k => k ≠ g0 ∧ k ≠ g1) V' (ps ++ [⟨i, mb - x.f0, mn⟩]) ∧ Below w0.heap.size w0 w' := by
  obtain ⟨ad, rfl, hc0⟩ := at_C hr (i : Int) (by omega) (by omega)
  rw [Int.toNat_natCast, hx] at hc0
  have HC := Aside0.mk hc0
  have hc1 := (hb.cell (World.block_lt_of_cell? w0 _ hc0)).trans hc0
  have q := run_csub (n := mb) (m := x.f0) (k := mn) hx0 hxm hmb hn0 hn1
  have z0 := (blk_cell h0 0).trans rfl
  have z1 := (blk_cell h1 0).trans rfl
  have p1 : (0 ≤ (i : Int)) = True := eq_true (by omega)
  have p2 : ((i : Int) < (l.length : Int)) = True := eq_true (by omega)
  have hlt0 := blk_lt h0
  have hlt1 := blk_lt h1
  have HLT := Aside0.mk (And.intro hlt0 hlt1)
  have K0 := Aside0.mk h0
  have K1 := Aside0.mk h1
  have HB := Aside0.mk hb
  have HO := Aside0.mk hV
  clear hr h0 h1 hb hV hx hc0 hlt0 hlt1
  go_enter Try.func36, Try.ntmps36
  go_wp2
  refine start_ (n := 14) (S := fun w' => w'.cell? ⟨g1, 0, none⟩ = some V ∧ w'.cell? ⟨g0, 0, none⟩ = some (.slice (some ad) l.length c) ∧ w'.cell? (ad.add i) = some (Cx x.f0 x.f1)) (ds := [13]) #[false, false, false, false, false, false, false, false, false, false, false, false, false, false] (by kernel_rfl) rfl rfl ⟨z1, z0, hc1⟩ (fun hHeld => ?_)
  refine pure_ (i := 1) (N := some 7) (v := ?_) (a' := ?_) #[false, true, false, false, false, false, false, false, false, false, false, false, false, false] rfl rfl (by kernel_rfl) (fun _ _ _ h => h) (Or.inl ⟨by rfl, ?_⟩) ?_ ?_
  rotate_left
  · intro w'
    go_simp
    with_reducible rfl
  rotate_left
  · simp only [Act.put, List.setIfInBounds_toArray, List.set_cons_zero, List.set_cons_succ, i64_w, i32_w]
    rfl
  refine pure_ (i := 2) (N := some 8) (v := ?_) (a' := ?_) #[false, true, true, false, false, false, false, false, false, false, false, false, false, false] rfl rfl (by kernel_rfl) (fun _ _ _ h => h) (Or.inl ⟨by rfl, ?_⟩) ?_ ?_
  rotate_left
  · intro w'
    go_simp
    with_reducible rfl
  rotate_left
  · simp only [Act.put, List.setIfInBounds_toArray, List.set_cons_zero, List.set_cons_succ, i64_w, i32_w]
    rfl
  refine pure_ (i := 4) (N := some 10) (v := ?_) (a' := ?_) #[false, true, true, false, true, false, false, false, false, false, false, false, false, false] rfl rfl (by kernel_rfl) (fun _ _ _ h => h) (Or.inl ⟨by rfl, ?_⟩) ?_ ?_
  rotate_left
  · intro w'
    go_simp
    with_reducible rfl
  rotate_left
  · simp only [Act.put, List.setIfInBounds_toArray, List.set_cons_zero, List.set_cons_succ, i64_w, i32_w]
    rfl
  refine take_ (i := 0) (N := some 6) (v := ?_) (a' := ?_) #[true, true, true, false, true, false, false, false, false, false, false, false, false, false] rfl rfl (by kernel_rfl) (fun _ _ _ h => h) (Or.inl ⟨by rfl, ?_⟩) hHeld ?_ ?_
  rotate_left
  · rintro w' ⟨s0, s1, s2⟩
    go_simp
    with_reducible rfl
  rotate_left
  · simp only [Act.put, List.setIfInBounds_toArray, List.set_cons_zero, List.set_cons_succ, i64_w, i32_w]
    rfl
  refine take_ (i := 3) (N := some 9) (v := ?_) (a' := ?_) #[true, true, true, true, true, false, false, false, false, false, false, false, false, false] rfl rfl (by kernel_rfl) (fun _ _ _ h => h) (Or.inl ⟨by rfl, ?_⟩) hHeld ?_ ?_
  rotate_left
  · rintro w' ⟨s0, s1, s2⟩
    go_simp
    with_reducible rfl
  rotate_left
  · simp only [Act.put, List.setIfInBounds_toArray, List.set_cons_zero, List.set_cons_succ, i64_w, i32_w]
    rfl
  refine pure_ (i := 5) (N := some 11) (v := ?_) (a' := ?_) #[true, true, true, true, true, true, false, false, false, false, false, false, false, false] rfl rfl (by kernel_rfl) (fun _ _ _ h => h) (Or.inl ⟨by rfl, ?_⟩) ?_ ?_
  rotate_left
  · intro w'
    go_simp
    with_reducible rfl
  rotate_left
  · simp only [Act.put, List.setIfInBounds_toArray, List.set_cons_zero, List.set_cons_succ, i64_w, i32_w]
    rfl
  refine take_ (i := 6) (N := some 12) (v := ?_) (a' := ?_) #[true, true, true, true, true, true, true, false, false, false, false, false, false, false] rfl rfl (by kernel_rfl) (fun _ _ _ h => h) (Or.inl ⟨by rfl, ?_⟩) hHeld ?_ ?_
  rotate_left
  · rintro w' ⟨s0, s1, s2⟩
    go_simp
    with_reducible rfl
  rotate_left
  · simp only [Act.put, List.setIfInBounds_toArray, List.set_cons_zero, List.set_cons_succ, i64_w, i32_w]
    rfl
  refine pure_ (i := 7) (N := some 13) (v := ?_) (a' := ?_) #[true, true, true, true, true, true, true, true, false, false, false, false, false, false] rfl rfl (by kernel_rfl) (fun _ _ _ h => h) (Or.inl ⟨by rfl, ?_⟩) ?_ ?_
  rotate_left
  · intro w'
    go_simp
    with_reducible rfl
  rotate_left
  · simp only [Act.put, List.setIfInBounds_toArray, List.set_cons_zero, List.set_cons_succ, i64_w, i32_w]
    rfl
  refine pure_ (i := 8) (N := some 14) (v := ?_) (a' := ?_) #[true, true, true, true, true, true, true, true, true, false, false, false, false, false] rfl rfl (by kernel_rfl) (fun _ _ _ h => h) (Or.inl ⟨by rfl, ?_⟩) ?_ ?_
  rotate_left
  · intro w'
    go_simp
    with_reducible rfl
  rotate_left
  · simp only [Act.put, List.setIfInBounds_toArray, List.set_cons_zero, List.set_cons_succ, i64_w, i32_w]
    rfl
  refine pure_ (i := 9) (N := some 15) (v := ?_) (a' := ?_) #[true, true, true, true, true, true, true, true, true, true, false, false, false, false] rfl rfl (by kernel_rfl) (fun _ _ _ h => h) (Or.inl ⟨by rfl, ?_⟩) ?_ ?_
  rotate_left
  · intro w'
    go_simp
    with_reducible rfl
  rotate_left
  · simp only [Act.put, List.setIfInBounds_toArray, List.set_cons_zero, List.set_cons_succ, i64_w, i32_w]
    rfl
  refine pure_ (i := 10) (N := some 16) (v := ?_) (a' := ?_) #[true, true, true, true, true, true, true, true, true, true, true, false, false, false] rfl rfl (by kernel_rfl) (fun _ _ _ h => h) (Or.inl ⟨by rfl, ?_⟩) ?_ ?_
  rotate_left
  · intro w'
    go_simp
    with_reducible rfl
  rotate_left
  · simp only [Act.put, List.setIfInBounds_toArray, List.set_cons_zero, List.set_cons_succ, i64_w, i32_w]
    rfl
  refine one_ (i := 11) (N := some 17) #[true, true, true, true, true, true, true, true, true, true, true, true, false, false] rfl rfl (by kernel_rfl) (by decide) (fun K hK => ?_)
  refine value_ (w1 := ?_) (v := ?_) (by rfl) rfl ?_ ?_
  rotate_left 2
  · go_simp
    constructor
    · rfl
    · rfl
  refine hK.out _ _ ⟨(blk_cell (blk_below K1.out (show Below w.heap.size w (w.alloc (.cells #[.int .i64 i, Cx (mb - x.f0) mn] 49)).drew from below_drew1 (below_alloc (Below.refl _ _) (.cells #[.int .i64 i, Cx (mb - x.f0) mn] 49)))) 0).trans rfl, (blk_cell (blk_below K0.out (show Below w.heap.size w (w.alloc (.cells #[.int .i64 i, Cx (mb - x.f0) mn] 49)).drew from below_drew1 (below_alloc (Below.refl _ _) (.cells #[.int .i64 i, Cx (mb - x.f0) mn] 49)))) 0).trans rfl, (Below.cell (below_drew1 (below_alloc HB.out (.cells #[.int .i64 i, Cx (mb - x.f0) mn] 49))) (World.block_lt_of_cell? w0 _ HC.out)).trans HC.out⟩ (fun hHeld => ?_)
  clear hK K
  refine norm_ (a' := ?_) ?_ ?_
  rotate_left
  · show Act.put _ (some 17) _ = _
    simp only [Act.put, List.setIfInBounds_toArray, List.set_cons_zero, List.set_cons_succ, i64_w, i32_w]
    rfl
  refine one_ (i := 12) (N := some 18) #[true, true, true, true, true, true, true, true, true, true, true, true, true, false] rfl rfl (by kernel_rfl) (by decide) (fun K hK => ?_)
  refine Kd.R_append_step k42 (w0 := w0) (W := w.drew) w0.heap.size (by rfl) (.tmp 6) (.tmp 17) 42 49 (.agg #[(.int .i64 0), (.complex .f64 0 0)]) 24 rfl Try.underlying42 info42 rfl (by decide) (by omega) V ps (⟨i, mb - x.f0, mn⟩ : P42) [.int .i64 i, Cx (mb - x.f0) mn] (fun k => k ≠ g0 ∧ k ≠ g1) (fun _ => False) rfl rfl (k42_mkM _ _ _ _) (fun _ hk => hk.elim) (fun k hk => (show k ≠ g0 ∧ k ≠ g1 by have := HLT.out; have hk' : w.heap.size ≤ k := hk; omega)) (Kd.R_drew HO.out) (below_drew1 HB.out) (show w0.heap.size ≤ w.heap.size from HB.out.size) (by omega) ?_
  intro v1 w1 ho hb hg_ hat
  have n0_ := Aside0.mk (blk_grown (w := w.drew) K0.out hg_ (fun h => (HO.out.1 _ h.symm).1 rfl))
  have n1_ := Aside0.mk (blk_grown (w := w.drew) K1.out hg_ (fun h => (HO.out.1 _ h.symm).2 rfl))
  clear K0 K1 HB HO hat hg_
  have K0 := n0_
  have K1 := n1_
  have HO := Aside0.mk ho
  have HB := Aside0.mk hb
  clear n0_ n1_ ho hb
  obtain ⟨A1, c1, e1⟩ := Kd.R_slice HO.out
  generalize (ps ++ [(⟨i, mb - x.f0, mn⟩ : P42)]).length = m1 at e1
  subst e1
  refine hK.out _ _ ⟨(blk_cell K1.out 0).trans rfl, (blk_cell K0.out 0).trans rfl, (Below.cell HB.out (World.block_lt_of_cell? w0 _ HC.out)).trans HC.out⟩ (fun hHeld => ?_)
  clear hK K
  refine norm_ (a' := ?_) ?_ ?_
  rotate_left
  · show Act.put _ (some 18) _ = _
    simp only [Act.put, List.setIfInBounds_toArray, List.set_cons_zero, List.set_cons_succ, i64_w, i32_w]
    rfl
  refine last_ (i := 13) (N := none) #[true, true, true, true, true, true, true, true, true, true, true, true, true, true] rfl rfl (by kernel_rfl) (by decide) (fun K hK => ?_)
  have r1 := (blk_cell K1.out 0).trans rfl
  have r2 := blk_frozen K1.out 0
  refine skip_ (w1 := ?_) (by rfl) rfl ?_ ?_
  rotate_left
  · go_simp
    rfl
  have n0_ := Aside0.mk (blk_far K0.out (p := ⟨g1, 0, none⟩) (by show _ ≠ g1; omega) (.slice A1 m1 c1))
  have n1_ := Aside0.mk (show (w1.setCell ⟨g1, 0, none⟩ (.slice A1 m1 c1)).heap[g1]? = some (.cells #[(.slice A1 m1 c1)] 42 (0, 0)) from blk_put K1.out 0 _ rfl)
  have n2_ := Aside0.mk (Kd.R_far (p := ⟨g1, 0, none⟩) HO.out (fun k hk => hk.2) (.slice A1 m1 c1))
  have n3_ := Aside0.mk (below_set (j := 0) (v := (.slice A1 m1 c1)) HB.out hB1)
  clear K0 K1 HO HB r1 r2
  have K0 := n0_
  have K1 := n1_
  have HO := n2_
  have HB := n3_
  clear n0_ n1_ n2_ n3_
  generalize w1.setCell ⟨g1, 0, none⟩ (.slice A1 m1 c1) = w2 at *
  refine hK.out _ _ ?_
  clear hK K
  refine done_ (by kernel_rfl) ?_
  go_wp2
  go_end0
  exact ⟨rfl, _, K0.out, K1.out, HO.out, HB.out⟩
end Go.Proofs.Ytphpinfingaffaa.Law
