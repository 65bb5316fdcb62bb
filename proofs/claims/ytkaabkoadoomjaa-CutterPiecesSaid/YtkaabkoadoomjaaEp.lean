/- CutterPieces' inner closure: what it does to its boxes and to the row that is handed in. -/
import Derived.Test.YtkaabkoadoomjaaPd
namespace Go.Proofs.Ytkaabkoadoomjaa.Law
open Go.RowKit Go.Proofs.Ytkaabkoadoomjaa Go.Proofs.Ytkaabkoadoomjaa.D Go.Proofs.Ytkaabkoadoomjaa.Roll Go.Proofs.YtkaabkoadoomjaaW.PrintWords Go.Proofs.YtkaabkoadoomjaaW.PrintLast Go.Proofs.YtkaabkoadoomjaaW.PrintMore
set_option linter.unusedSimpArgs false
set_option linter.unusedVariables false
/-- what the six boxes hold, and the rows behind them -/
structure Boxes (s gw gb gl : Nat) (AL : Option Addr) (cL : Nat) (L : List Int) (A : Option Addr) (c : Nat) (b : List Int) (lv n at_ : Int) (W : World) : Prop where
  ok : W.heap[s + 2]? = some (.cells #[.bool true] 4 (0, 0))
  nx : W.heap[s]? = some (.cells #[.int .i64 n] 3 (0, 0))
  at_ : W.heap[s + 1]? = some (.cells #[.int .i64 at_] 3 (0, 0))
  want : W.heap[gw]? = some (.cells #[.slice AL L.length cL] 28 (0, 0))
  bx : W.heap[gb]? = some (.cells #[.slice A b.length c] 25 (0, 0))
  lx : W.heap[gl]? = some (.cells #[.int .u8 lv] 5 (0, 0))
  rl : Kd.C (Kd.int .i64) W AL L.length L
  rb : Kd.C (Kd.int .u8) W A b.length b
/-- four blocks may have turned, no other -/
structure Only4 (s g : Nat) (w w' : World) : Prop where
  os : w'.os = w.os
  tape : w'.tape = w.tape
  output : w'.output = w.output
  size : w'.heap.size = w.heap.size
  block : ∀ k, k ≠ s → k ≠ s + 1 → k ≠ s + 2 → k ≠ g → w'.heap[k]? = w.heap[k]?
theorem Only4.trans {a b : Nat} {x y z : World} (h : Only4 a b x y) (k : Only4 a b y z) : Only4 a b x z :=
  ⟨k.os.trans h.os, k.tape.trans h.tape, k.output.trans h.output, k.size.trans h.size, fun i h1 h2 h3 h4 => (k.block i h1 h2 h3 h4).trans (h.block i h1 h2 h3 h4)⟩
theorem Only4.of {s g q : Nat} {w w' : World} (h : Only q w w') (hq : q = s ∨ q = s + 1 ∨ q = s + 2 ∨ q = g) : Only4 s g w w' :=
  ⟨h.os, h.tape, h.output, h.size, fun k h1 h2 h3 h4 => h.block k (by omega)⟩
theorem Only4.drew (s g : Nat) (w : World) : Only4 s g w w.drew := ⟨rfl, rfl, rfl, rfl, fun _ _ _ _ _ => rfl⟩
def Row9 (w : World) (g n : Nat) : Prop := ∃ cs : Array Value, w.heap[g]? = some (.cells cs 5 (0, 0)) ∧ ∀ j, j < n → ∃ x : Int, cs[j]? = some (.int .u8 x)
theorem Row9.set {w : World} {g n i : Nat} (h : Row9 w g n) (y : Int) : Row9 (w.setCell ⟨g, i, none⟩ (.int .u8 y)) g n := by
  obtain ⟨cs, h1, h2⟩ := h
  refine ⟨cs.setIfInBounds i (.int .u8 y), blk_put h1 i _ rfl, fun j hj => ?_⟩
  obtain ⟨x, hx⟩ := h2 j hj
  rw [Array.getElem?_setIfInBounds]
  by_cases e : i = j
  · subst e; rw [if_pos rfl, if_pos (Array.getElem?_eq_some_iff.1 hx).1]; exact ⟨y, rfl⟩
  · rw [if_neg e]; exact ⟨x, hx⟩
theorem Row9.far {w w' : World} {g n : Nat} (h : Row9 w g n) (e : w'.heap[g]? = w.heap[g]?) : Row9 w' g n := by
  obtain ⟨cs, h1, h2⟩ := h
  exact ⟨cs, e.trans h1, h2⟩
theorem Row9.of {w : World} {g n : Nat} {cells : Array Value} {l : List Int} (h : w.heap[g]? = some (.cells cells 5 (0, 0))) (hp : Kd.C (Kd.int .u8) w (some ⟨g, 0, none⟩) n l) : Row9 w g n := by
  refine ⟨cells, h, fun j hj => ?_⟩
  obtain ⟨ad, e, hx⟩ := Kd.at_int hp (j : Int) (Int.natCast_nonneg _) (by omega)
  cases e
  rw [Int.toNat_natCast, addr_add, Nat.zero_add, blk_cell h] at hx
  exact ⟨_, hx⟩
theorem Row9.at_ {w : World} {g n j : Nat} (h : Row9 w g n) (hj : j < n) : ∃ x : Int, w.cell? ⟨g, j, none⟩ = some (.int .u8 x) ∧ w.frozen? ⟨g, j, none⟩ = false := by
  obtain ⟨cs, h1, h2⟩ := h
  obtain ⟨x, hx⟩ := h2 j hj
  exact ⟨x, by rw [blk_cell h1, hx], blk_frozen h1 j⟩
theorem lv_w {n : Nat} (h : n < 256) : wrap64 (n : Int) = (n : Int) := w64 (by omega) (by omega)
theorem small_j {n : Nat} (h : n < 1000000) : wrap64 ((n : Int) + 1) = (n : Int) + 1 := w64 (by omega) (by omega)
theorem at_sum {fr n len cap : Nat} (h : fr + n ≤ len) (h1 : 0 < n) (hc : len ≤ cap) (hl : len ≤ 140737488351232) : wrap64 ((fr : Int) + (n : Int)) = (fr : Int) + (n : Int) := w64 (by omega) (by omega)
theorem cut_ok {fr n len cap : Nat} (h : fr + n ≤ len) (h1 : 0 < n) (h2 : len ≤ cap) : ((fr : Int) ≤ (fr : Int) + (n : Int)) = True ∧ ((fr : Int) + (n : Int) ≤ (cap : Int)) = True ∧ (cap ≤ fr) = False ∧ (cap - fr = 0) = False ∧ (cap - fr == 0) = false ∧ (cap = fr) = False ∧ (fr = cap) = False ∧ ((cap : Int) = (fr : Int)) = False ∧ ((fr : Int) = (cap : Int)) = False ∧ (0 ≤ (fr : Int)) = True ∧ ((fr : Int) + (n : Int) - (fr : Int)) = (n : Int) ∧ ((fr : Int) + (n : Int)).toNat = fr + n ∧ fr + n - fr = n := ⟨eq_true (by omega), eq_true (by omega), eq_false (by omega), eq_false (by omega), beq_eq_false_iff_ne.mpr (by omega), eq_false (by omega), eq_false (by omega), eq_false (by omega), eq_false (by omega), eq_true (by omega), by omega, by omega, by omega⟩
set_option maxHeartbeats 4000000 in
set_option maxRecDepth 100000 in
theorem each_calls (s gw gb gl : Nat) (al ad : Addr) (cL c : Nat) (L b : List Int) (lv k fr n g9 : Nat) (cells : Array Value) (W : World) (hB : Boxes s gw gb gl (some al) cL L (some ad) c b (lv : Int) (k : Int) (fr : Int) W)
    (hkL : (k : Int) < (L.length : Int)) (hrd : rd L (k : Int) = (n : Int)) (hn : 0 < n) (hfn : fr + n ≤ b.length) (hc : b.length ≤ c) (hlen : b.length ≤ 140737488351232) (hk6 : k < 1000000)
    (h9 : W.heap[g9]? = some (.cells cells 5 (0, 0))) (hp : Kd.C (Kd.int .u8) W (some ⟨g9, 0, none⟩) n ((b.drop fr).take n)) (d9 : g9 ≠ s ∧ g9 ≠ s + 1 ∧ g9 ≠ s + 2 ∧ g9 ≠ gl) (dl : gl < s) (hlv : lv < 256) :
    Calls Try.prog 16 #[.int .i64 (fr : Int), .slice (some ⟨g9, 0, none⟩) n n, .pointer (some ⟨s + 2, 0, none⟩), .pointer (some ⟨s, 0, none⟩), .pointer (some ⟨gw, 0, none⟩), .pointer (some ⟨s + 1, 0, none⟩), .pointer (some ⟨gb, 0, none⟩), .pointer (some ⟨gl, 0, none⟩)] W fun e W' =>
      e = .returned (.bool (decide (k + 1 ≤ lv))) ∧ W'.heap[s + 2]? = some (.cells #[.bool true] 4 (0, 0)) ∧ W'.heap[s]? = some (.cells #[.int .i64 ((k + 1 : Nat) : Int)] 3 (0, 0)) ∧ W'.heap[s + 1]? = some (.cells #[.int .i64 ((fr + n : Nat) : Int)] 3 (0, 0)) ∧ Only4 s g9 W W' := by
  have pl : ((b.drop fr).take n).length = n := by rw [List.length_take, List.length_drop]; omega
  have hcp : (convert 25 9 (.slice (some ⟨g9, 0, none⟩) n n)).run Try.prog W.drew = .ok (.string (strOfNums ((b.drop fr).take n))) W.drew := by
    have := conv_u8 (c := n) (A := some ⟨g9, 0, none⟩) (l := (b.drop fr).take n) (w := W.drew) (by rw [pl]; exact Kd.C_below hp (below_drew1 (Below.refl _ _)))
    rwa [pl] at this
  have hcb : (convert 25 9 (.slice (some (ad.add fr)) n (c - fr))).run Try.prog W.drew = .ok (.string (strOfNums ((b.drop fr).take n))) W.drew := by
    have := conv_u8 (c := c - fr) (A := some (ad.add fr)) (l := (b.drop fr).take n) (w := W.drew) (by rw [pl]; exact Kd.C_below (C_sub hB.rb hfn) (below_drew1 (Below.refl _ _)))
    rwa [pl] at this
  obtain ⟨al', e', hx0⟩ := Kd.at_int hB.rl (k : Int) (Int.natCast_nonneg _) hkL
  cases e'
  rw [Int.toNat_natCast, hrd] at hx0
  have HB := Aside0.mk hB
  have H9 := Aside0.mk h9
  have HP := Aside0.mk hp
  have D9 := Aside0.mk d9
  have DL := Aside0.mk dl
  have hkb : decide ((k : Int) < (L.length : Int)) = true := decide_eq_true hkL
  have p1 : (0 ≤ (k : Int)) = True := eq_true (Int.natCast_nonneg _)
  have p2 : ((k : Int) < (L.length : Int)) = True := eq_true hkL
  obtain ⟨s1, s2, s3, s4, s5, s6, s7, s8, s9, s10, s11, s12, s13⟩ := cut_ok hfn hn hc
  have hw := at_sum (cap := c) hfn hn hc hlen
  have hw1 := small_j hk6
  have HFN := Aside0.mk hfn
  have HLEN := Aside0.mk hlen
  have HLV := Aside0.mk hlv
  clear hlv hB h9 hp d9 dl hkL hrd hn hfn hlen hk6 hc pl
  go_enter Try.func16, Try.ntmps16
  go_wp2_with fail
  refine start_ (n := 35) (S := fun w' => w'.cell? ⟨s + 2, 0, none⟩ = some (.bool true) ∧ w'.cell? ⟨s, 0, none⟩ = some (.int .i64 (k : Int)) ∧ w'.cell? ⟨gw, 0, none⟩ = some (.slice (some al) L.length cL) ∧ w'.cell? ⟨s + 1, 0, none⟩ = some (.int .i64 (fr : Int)) ∧ w'.cell? ⟨gb, 0, none⟩ = some (.slice (some ad) b.length c) ∧ w'.cell? (al.add k) = some (.int .i64 (n : Int)) ∧ (convert 25 9 (.slice (some ⟨g9, 0, none⟩) n n)).run Try.prog w' = .ok (.string (strOfNums ((b.drop fr).take n))) w' ∧ (convert 25 9 (.slice (some (ad.add fr)) n (c - fr))).run Try.prog w' = .ok (.string (strOfNums ((b.drop fr).take n))) w' ∧ w'.frozen? ⟨s + 2, 0, none⟩ = false) (ds := [34]) #[false, false, false, false, false, false, false, false, false, false, false, false, false, false, false, false, false, false, false, false, false, false, false, false, false, false, false, false, false, false, false, false, false, false, false] (by kernel_rfl) rfl rfl ⟨(blk_cell (w := W.drew) HB.out.ok 0).trans rfl, (blk_cell (w := W.drew) HB.out.nx 0).trans rfl, (blk_cell (w := W.drew) HB.out.want 0).trans rfl, (blk_cell (w := W.drew) HB.out.at_ 0).trans rfl, (blk_cell (w := W.drew) HB.out.bx 0).trans rfl, hx0, hcp, hcb, blk_frozen (w := W.drew) HB.out.ok 0⟩ (fun hHeld => ?_)
  refine take_ (i := 0) (N := some 12) (v := ?_) (a' := ?_) #[true, false, false, false, false, false, false, false, false, false, false, false, false, false, false, false, false, false, false, false, false, false, false, false, false, false, false, false, false, false, false, false, false, false, false] rfl rfl (by kernel_rfl) (fun _ _ _ h => h) (Or.inl ⟨by rfl, ?_⟩) hHeld ?_ ?_
  rotate_left
  · rintro w' ⟨s0, s1, s2, s3, s4, s5, s6, s7, s8⟩
    go_simp
    with_reducible rfl
  rotate_left
  · simp only [Act.put, List.setIfInBounds_toArray, List.set_cons_zero, List.set_cons_succ, i64_w, i32_w]
    rfl
  refine pure_ (i := 1) (N := some 13) (v := ?_) (a' := ?_) #[true, true, false, false, false, false, false, false, false, false, false, false, false, false, false, false, false, false, false, false, false, false, false, false, false, false, false, false, false, false, false, false, false, false, false] rfl rfl (by kernel_rfl) (fun _ _ _ h => h) (Or.inl ⟨by rfl, ?_⟩) ?_ ?_
  rotate_left
  · intro w'
    go_simp
    with_reducible rfl
  rotate_left
  · simp only [Act.put, List.setIfInBounds_toArray, List.set_cons_zero, List.set_cons_succ, i64_w, i32_w]
    rfl
  refine take_ (i := 2) (N := some 14) (v := ?_) (a' := ?_) #[true, true, true, false, false, false, false, false, false, false, false, false, false, false, false, false, false, false, false, false, false, false, false, false, false, false, false, false, false, false, false, false, false, false, false] rfl rfl (by kernel_rfl) (fun _ _ _ h => h) (Or.inl ⟨by rfl, ?_⟩) hHeld ?_ ?_
  rotate_left
  · rintro w' ⟨s0, s1, s2, s3, s4, s5, s6, s7, s8⟩
    go_simp
    with_reducible rfl
  rotate_left
  · simp only [Act.put, List.setIfInBounds_toArray, List.set_cons_zero, List.set_cons_succ, i64_w, i32_w]
    rfl
  refine take_ (i := 3) (N := some 15) (v := ?_) (a' := ?_) #[true, true, true, true, false, false, false, false, false, false, false, false, false, false, false, false, false, false, false, false, false, false, false, false, false, false, false, false, false, false, false, false, false, false, false] rfl rfl (by kernel_rfl) (fun _ _ _ h => h) (Or.inl ⟨by rfl, ?_⟩) hHeld ?_ ?_
  rotate_left
  · rintro w' ⟨s0, s1, s2, s3, s4, s5, s6, s7, s8⟩
    go_simp
    with_reducible rfl
  rotate_left
  · simp only [Act.put, List.setIfInBounds_toArray, List.set_cons_zero, List.set_cons_succ, i64_w, i32_w]
    rfl
  refine pure_ (i := 4) (N := some 16) (v := ?_) (a' := ?_) #[true, true, true, true, true, false, false, false, false, false, false, false, false, false, false, false, false, false, false, false, false, false, false, false, false, false, false, false, false, false, false, false, false, false, false] rfl rfl (by kernel_rfl) (fun _ _ _ h => h) (Or.inl ⟨by rfl, ?_⟩) ?_ ?_
  rotate_left
  · intro w'
    go_simp
    with_reducible rfl
  rotate_left
  · simp only [Act.put, List.setIfInBounds_toArray, List.set_cons_zero, List.set_cons_succ, i64_w, i32_w]
    rfl
  refine pure_ (i := 5) (N := some 17) (v := ?_) (a' := ?_) #[true, true, true, true, true, true, false, false, false, false, false, false, false, false, false, false, false, false, false, false, false, false, false, false, false, false, false, false, false, false, false, false, false, false, false] rfl rfl (by kernel_rfl) (fun _ _ _ h => h) (Or.inl ⟨by rfl, ?_⟩) ?_ ?_
  rotate_left
  · intro w'
    go_simp
    with_reducible rfl
  rotate_left
  · simp only [Act.put, List.setIfInBounds_toArray, List.set_cons_zero, List.set_cons_succ, i64_w, i32_w]
    rfl
  refine pure_ (i := 6) (N := some 18) (v := ?_) (a' := ?_) #[true, true, true, true, true, true, true, false, false, false, false, false, false, false, false, false, false, false, false, false, false, false, false, false, false, false, false, false, false, false, false, false, false, false, false] rfl rfl (by kernel_rfl) (fun _ _ _ h => h) (Or.inl ⟨by rfl, ?_⟩) ?_ ?_
  rotate_left
  · intro w'
    go_simp
    with_reducible rfl
  rotate_left
  · simp only [Act.put, List.setIfInBounds_toArray, List.set_cons_zero, List.set_cons_succ, i64_w, i32_w]
    rfl
  refine pure_ (i := 7) (N := some 19) (v := ?_) (a' := ?_) #[true, true, true, true, true, true, true, true, false, false, false, false, false, false, false, false, false, false, false, false, false, false, false, false, false, false, false, false, false, false, false, false, false, false, false] rfl rfl (by kernel_rfl) (fun _ _ _ h => h) (Or.inl ⟨by rfl, ?_⟩) ?_ ?_
  rotate_left
  · intro w'
    go_simp
    with_reducible rfl
  rotate_left
  · simp only [Act.put, List.setIfInBounds_toArray, List.set_cons_zero, List.set_cons_succ, i64_w, i32_w]
    rfl
  refine pure_ (i := 8) (N := some 20) (v := ?_) (a' := ?_) #[true, true, true, true, true, true, true, true, true, false, false, false, false, false, false, false, false, false, false, false, false, false, false, false, false, false, false, false, false, false, false, false, false, false, false] rfl rfl (by kernel_rfl) (fun _ _ _ h => h) (Or.inl ⟨by rfl, ?_⟩) ?_ ?_
  rotate_left
  · intro w'
    go_simp
    with_reducible rfl
  rotate_left
  · simp only [Act.put, List.setIfInBounds_toArray, List.set_cons_zero, List.set_cons_succ, i64_w, i32_w]
    rfl
  refine take_ (i := 9) (N := some 21) (v := ?_) (a' := ?_) #[true, true, true, true, true, true, true, true, true, true, false, false, false, false, false, false, false, false, false, false, false, false, false, false, false, false, false, false, false, false, false, false, false, false, false] rfl rfl (by kernel_rfl) (fun _ _ _ h => h) (Or.inl ⟨by rfl, ?_⟩) hHeld ?_ ?_
  rotate_left
  · rintro w' ⟨s0, s1, s2, s3, s4, s5, s6, s7, s8⟩
    go_simp
    with_reducible rfl
  rotate_left
  · simp only [Act.put, List.setIfInBounds_toArray, List.set_cons_zero, List.set_cons_succ, i64_w, i32_w]
    rfl
  refine pure_ (i := 10) (N := some 22) (v := ?_) (a' := ?_) #[true, true, true, true, true, true, true, true, true, true, true, false, false, false, false, false, false, false, false, false, false, false, false, false, false, false, false, false, false, false, false, false, false, false, false] rfl rfl (by kernel_rfl) (fun _ _ _ h => h) (Or.inl ⟨by rfl, ?_⟩) ?_ ?_
  rotate_left
  · intro w'
    go_simp
    with_reducible rfl
  rotate_left
  · simp only [Act.put, List.setIfInBounds_toArray, List.set_cons_zero, List.set_cons_succ, i64_w, i32_w]
    rfl
  refine pure_ (i := 11) (N := some 23) (v := ?_) (a' := ?_) #[true, true, true, true, true, true, true, true, true, true, true, true, false, false, false, false, false, false, false, false, false, false, false, false, false, false, false, false, false, false, false, false, false, false, false] rfl rfl (by kernel_rfl) (fun _ _ _ h => h) (Or.inl ⟨by rfl, ?_⟩) ?_ ?_
  rotate_left
  · intro w'
    go_simp
    with_reducible rfl
  rotate_left
  · simp only [Act.put, List.setIfInBounds_toArray, List.set_cons_zero, List.set_cons_succ, i64_w, i32_w]
    rfl
  refine pure_ (i := 12) (N := some 24) (v := ?_) (a' := ?_) #[true, true, true, true, true, true, true, true, true, true, true, true, true, false, false, false, false, false, false, false, false, false, false, false, false, false, false, false, false, false, false, false, false, false, false] rfl rfl (by kernel_rfl) (fun _ _ _ h => h) (Or.inl ⟨by rfl, ?_⟩) ?_ ?_
  rotate_left
  · intro w'
    go_simp
    with_reducible rfl
  rotate_left
  · simp only [Act.put, List.setIfInBounds_toArray, List.set_cons_zero, List.set_cons_succ, i64_w, i32_w]
    rfl
  refine pure_ (i := 13) (N := some 25) (v := ?_) (a' := ?_) #[true, true, true, true, true, true, true, true, true, true, true, true, true, true, false, false, false, false, false, false, false, false, false, false, false, false, false, false, false, false, false, false, false, false, false] rfl rfl (by kernel_rfl) (fun _ _ _ h => h) (Or.inl ⟨by rfl, ?_⟩) ?_ ?_
  rotate_left
  · intro w'
    go_simp
    with_reducible rfl
  rotate_left
  · simp only [Act.put, List.setIfInBounds_toArray, List.set_cons_zero, List.set_cons_succ, i64_w, i32_w]
    rfl
  refine pure_ (i := 14) (N := some 26) (v := ?_) (a' := ?_) #[true, true, true, true, true, true, true, true, true, true, true, true, true, true, true, false, false, false, false, false, false, false, false, false, false, false, false, false, false, false, false, false, false, false, false] rfl rfl (by kernel_rfl) (fun _ _ _ h => h) (Or.inl ⟨by rfl, ?_⟩) ?_ ?_
  rotate_left
  · intro w'
    go_simp
    with_reducible rfl
  rotate_left
  · simp only [Act.put, List.setIfInBounds_toArray, List.set_cons_zero, List.set_cons_succ, i64_w, i32_w]
    rfl
  refine take_ (i := 15) (N := some 27) (v := ?_) (a' := ?_) #[true, true, true, true, true, true, true, true, true, true, true, true, true, true, true, true, false, false, false, false, false, false, false, false, false, false, false, false, false, false, false, false, false, false, false] rfl rfl (by kernel_rfl) (fun _ _ _ h => h) (Or.inl ⟨by rfl, ?_⟩) hHeld ?_ ?_
  rotate_left
  · rintro w' ⟨s0, s1, s2, s3, s4, s5, s6, s7, s8⟩
    go_simp
    with_reducible rfl
  rotate_left
  · simp only [Act.put, List.setIfInBounds_toArray, List.set_cons_zero, List.set_cons_succ, i64_w, i32_w]
    rfl
  refine take_ (i := 16) (N := some 28) (v := ?_) (a' := ?_) #[true, true, true, true, true, true, true, true, true, true, true, true, true, true, true, true, true, false, false, false, false, false, false, false, false, false, false, false, false, false, false, false, false, false, false] rfl rfl (by kernel_rfl) (fun _ _ _ h => h) (Or.inl ⟨by rfl, ?_⟩) hHeld ?_ ?_
  rotate_left
  · rintro w' ⟨s0, s1, s2, s3, s4, s5, s6, s7, s8⟩
    go_simp
    with_reducible rfl
  rotate_left
  · simp only [Act.put, List.setIfInBounds_toArray, List.set_cons_zero, List.set_cons_succ, i64_w, i32_w]
    rfl
  refine pure_ (i := 17) (N := some 29) (v := ?_) (a' := ?_) #[true, true, true, true, true, true, true, true, true, true, true, true, true, true, true, true, true, true, false, false, false, false, false, false, false, false, false, false, false, false, false, false, false, false, false] rfl rfl (by kernel_rfl) (fun _ _ _ h => h) (Or.inl ⟨by rfl, ?_⟩) ?_ ?_
  rotate_left
  · intro w'
    go_simp
    with_reducible rfl
  rotate_left
  · simp only [Act.put, List.setIfInBounds_toArray, List.set_cons_zero, List.set_cons_succ, i64_w, i32_w]
    rfl
  refine take_ (i := 18) (N := some 30) (v := ?_) (a' := ?_) #[true, true, true, true, true, true, true, true, true, true, true, true, true, true, true, true, true, true, true, false, false, false, false, false, false, false, false, false, false, false, false, false, false, false, false] rfl rfl (by kernel_rfl) (fun _ _ _ h => h) (Or.inl ⟨by rfl, ?_⟩) hHeld ?_ ?_
  rotate_left
  · rintro w' ⟨s0, s1, s2, s3, s4, s5, s6, s7, s8⟩
    go_simp
    with_reducible rfl
  rotate_left
  · simp only [Act.put, List.setIfInBounds_toArray, List.set_cons_zero, List.set_cons_succ, i64_w, i32_w]
    rfl
  refine pure_ (i := 19) (N := some 31) (v := ?_) (a' := ?_) #[true, true, true, true, true, true, true, true, true, true, true, true, true, true, true, true, true, true, true, true, false, false, false, false, false, false, false, false, false, false, false, false, false, false, false] rfl rfl (by kernel_rfl) (fun _ _ _ h => h) (Or.inl ⟨by rfl, ?_⟩) ?_ ?_
  rotate_left
  · intro w'
    go_simp
    with_reducible rfl
  rotate_left
  · simp only [Act.put, List.setIfInBounds_toArray, List.set_cons_zero, List.set_cons_succ, i64_w, i32_w]
    rfl
  refine pure_ (i := 20) (N := some 32) (v := ?_) (a' := ?_) #[true, true, true, true, true, true, true, true, true, true, true, true, true, true, true, true, true, true, true, true, true, false, false, false, false, false, false, false, false, false, false, false, false, false, false] rfl rfl (by kernel_rfl) (fun _ _ _ h => h) (Or.inl ⟨by rfl, ?_⟩) ?_ ?_
  rotate_left
  · intro w'
    go_simp
    with_reducible rfl
  rotate_left
  · simp only [Act.put, List.setIfInBounds_toArray, List.set_cons_zero, List.set_cons_succ, i64_w, i32_w]
    rfl
  refine pure_ (i := 21) (N := some 33) (v := ?_) (a' := ?_) #[true, true, true, true, true, true, true, true, true, true, true, true, true, true, true, true, true, true, true, true, true, true, false, false, false, false, false, false, false, false, false, false, false, false, false] rfl rfl (by kernel_rfl) (fun _ _ _ h => h) (Or.inl ⟨by rfl, ?_⟩) ?_ ?_
  rotate_left
  · intro w'
    go_simp
    with_reducible rfl
  rotate_left
  · simp only [Act.put, List.setIfInBounds_toArray, List.set_cons_zero, List.set_cons_succ, i64_w, i32_w]
    rfl
  refine pure_ (i := 22) (N := some 34) (v := ?_) (a' := ?_) #[true, true, true, true, true, true, true, true, true, true, true, true, true, true, true, true, true, true, true, true, true, true, true, false, false, false, false, false, false, false, false, false, false, false, false] rfl rfl (by kernel_rfl) (fun _ _ _ h => h) (Or.inl ⟨by rfl, ?_⟩) ?_ ?_
  rotate_left
  · intro w'
    go_simp
    with_reducible rfl
  rotate_left
  · simp only [Act.put, List.setIfInBounds_toArray, List.set_cons_zero, List.set_cons_succ, i64_w, i32_w]
    rfl
  refine pure_ (i := 27) (N := some 39) (v := ?_) (a' := ?_) #[true, true, true, true, true, true, true, true, true, true, true, true, true, true, true, true, true, true, true, true, true, true, true, false, false, false, false, true, false, false, false, false, false, false, false] rfl rfl (by kernel_rfl) (fun _ _ _ h => h) (Or.inl ⟨by rfl, ?_⟩) ?_ ?_
  rotate_left
  · intro w'
    go_simp
    with_reducible rfl
  rotate_left
  · simp only [Act.put, List.setIfInBounds_toArray, List.set_cons_zero, List.set_cons_succ, i64_w, i32_w]
    rfl
  refine pure_ (i := 28) (N := some 40) (v := ?_) (a' := ?_) #[true, true, true, true, true, true, true, true, true, true, true, true, true, true, true, true, true, true, true, true, true, true, true, false, false, false, false, true, true, false, false, false, false, false, false] rfl rfl (by kernel_rfl) (fun _ _ _ h => h) (Or.inl ⟨by rfl, ?_⟩) ?_ ?_
  rotate_left
  · intro w'
    go_simp
    with_reducible rfl
  rotate_left
  · simp only [Act.put, List.setIfInBounds_toArray, List.set_cons_zero, List.set_cons_succ, i64_w, i32_w]
    rfl
  refine take_ (i := 23) (N := some 35) (v := ?_) (a' := ?_) #[true, true, true, true, true, true, true, true, true, true, true, true, true, true, true, true, true, true, true, true, true, true, true, true, false, false, false, true, true, false, false, false, false, false, false] rfl rfl (by kernel_rfl) (fun _ _ _ h => h) (Or.inl ⟨by rfl, ?_⟩) hHeld ?_ ?_
  rotate_left
  · rintro w' ⟨s0, s1, s2, s3, s4, s5, s6, s7, s8⟩
    go_simp
    with_reducible rfl
  rotate_left
  · simp only [Act.put, List.setIfInBounds_toArray, List.set_cons_zero, List.set_cons_succ, i64_w, i32_w]
    rfl
  refine take_ (i := 24) (N := some 36) (v := ?_) (a' := ?_) #[true, true, true, true, true, true, true, true, true, true, true, true, true, true, true, true, true, true, true, true, true, true, true, true, true, false, false, true, true, false, false, false, false, false, false] rfl rfl (by kernel_rfl) (fun _ _ _ h => h) (Or.inl ⟨by rfl, ?_⟩) hHeld ?_ ?_
  rotate_left
  · rintro w' ⟨s0, s1, s2, s3, s4, s5, s6, s7, s8⟩
    go_simp
    with_reducible rfl
  rotate_left
  · simp only [Act.put, List.setIfInBounds_toArray, List.set_cons_zero, List.set_cons_succ, i64_w, i32_w]
    rfl
  refine take_ (i := 25) (N := some 37) (v := ?_) (a' := ?_) #[true, true, true, true, true, true, true, true, true, true, true, true, true, true, true, true, true, true, true, true, true, true, true, true, true, true, false, true, true, false, false, false, false, false, false] rfl rfl (by kernel_rfl) (fun _ _ _ h => h) (Or.inl ⟨by rfl, ?_⟩) hHeld ?_ ?_
  rotate_left
  · rintro w' ⟨s0, s1, s2, s3, s4, s5, s6, s7, s8⟩
    go_simp
    with_reducible rfl
  rotate_left
  · simp only [Act.put, List.setIfInBounds_toArray, List.set_cons_zero, List.set_cons_succ, i64_w, i32_w]
    rfl
  refine take_ (i := 26) (N := some 38) (v := ?_) (a' := ?_) #[true, true, true, true, true, true, true, true, true, true, true, true, true, true, true, true, true, true, true, true, true, true, true, true, true, true, true, true, true, false, false, false, false, false, false] rfl rfl (by kernel_rfl) (fun _ _ _ h => h) (Or.inl ⟨by rfl, ?_⟩) hHeld ?_ ?_
  rotate_left
  · rintro w' ⟨s0, s1, s2, s3, s4, s5, s6, s7, s8⟩
    go_simp
    with_reducible rfl
  rotate_left
  · simp only [Act.put, List.setIfInBounds_toArray, List.set_cons_zero, List.set_cons_succ, i64_w, i32_w]
    rfl
  refine pure_ (i := 29) (N := some 41) (v := ?_) (a' := ?_) #[true, true, true, true, true, true, true, true, true, true, true, true, true, true, true, true, true, true, true, true, true, true, true, true, true, true, true, true, true, true, false, false, false, false, false] rfl rfl (by kernel_rfl) (fun _ _ _ h => h) (Or.inl ⟨by rfl, ?_⟩) ?_ ?_
  rotate_left
  · intro w'
    go_simp
    with_reducible rfl
  rotate_left
  · simp only [Act.put, List.setIfInBounds_toArray, List.set_cons_zero, List.set_cons_succ, i64_w, i32_w]
    rfl
  refine pure_ (i := 30) (N := some 42) (v := ?_) (a' := ?_) #[true, true, true, true, true, true, true, true, true, true, true, true, true, true, true, true, true, true, true, true, true, true, true, true, true, true, true, true, true, true, true, false, false, false, false] rfl rfl (by kernel_rfl) (fun _ _ _ h => h) (Or.inl ⟨by rfl, ?_⟩) ?_ ?_
  rotate_left
  · intro w'
    go_simp
    with_reducible rfl
  rotate_left
  · simp only [Act.put, List.setIfInBounds_toArray, List.set_cons_zero, List.set_cons_succ, i64_w, i32_w]
    rfl
  refine take_ (i := 31) (N := some 43) (v := ?_) (a' := ?_) #[true, true, true, true, true, true, true, true, true, true, true, true, true, true, true, true, true, true, true, true, true, true, true, true, true, true, true, true, true, true, true, true, false, false, false] rfl rfl (by kernel_rfl) (fun _ _ _ h => h) (Or.inl ⟨by rfl, ?_⟩) hHeld ?_ ?_
  rotate_left
  · rintro w' ⟨s0, s1, s2, s3, s4, s5, s6, s7, s8⟩
    go_simp
    with_reducible rfl
  rotate_left
  · simp only [Act.put, List.setIfInBounds_toArray, List.set_cons_zero, List.set_cons_succ, i64_w, i32_w]
    rfl
  refine pure_ (i := 32) (N := some 44) (v := ?_) (a' := ?_) #[true, true, true, true, true, true, true, true, true, true, true, true, true, true, true, true, true, true, true, true, true, true, true, true, true, true, true, true, true, true, true, true, true, false, false] rfl rfl (by kernel_rfl) (fun _ _ _ h => h) (Or.inl ⟨by rfl, ?_⟩) ?_ ?_
  rotate_left
  · intro w'
    go_simp
    with_reducible rfl
  rotate_left
  · simp only [Act.put, List.setIfInBounds_toArray, List.set_cons_zero, List.set_cons_succ, i64_w, i32_w]
    rfl
  refine pure_ (i := 33) (N := some 45) (v := ?_) (a' := ?_) #[true, true, true, true, true, true, true, true, true, true, true, true, true, true, true, true, true, true, true, true, true, true, true, true, true, true, true, true, true, true, true, true, true, true, false] rfl rfl (by kernel_rfl) (fun _ _ _ h => h) (Or.inl ⟨by rfl, ?_⟩) ?_ ?_
  rotate_left
  · intro w'
    go_simp
    with_reducible rfl
  rotate_left
  · simp only [Act.put, List.setIfInBounds_toArray, List.set_cons_zero, List.set_cons_succ, i64_w, i32_w]
    rfl
  refine last_ (i := 34) (N := none) #[true, true, true, true, true, true, true, true, true, true, true, true, true, true, true, true, true, true, true, true, true, true, true, true, true, true, true, true, true, true, true, true, true, true, true] rfl rfl (by kernel_rfl) (by decide) (fun K hK => ?_)
  skip
  refine skip_ (w1 := ?_) (by rfl) rfl ?_ ?_
  rotate_left
  · go_simp
    rfl
  refine hK.out _ _ ?_
  clear hK K
  refine done_ (by kernel_rfl) ?_
  have HO1 := Aside0.mk (show Only4 s g9 W (W.setCell ⟨s + 2, 0, none⟩ (.bool true)).drew from (Only4.of ((Only.refl (s + 2) W).set 0 (.bool true)) (by omega)).trans (Only4.drew _ _ _))
  have K1 := Aside0.mk (show (W.setCell ⟨s + 2, 0, none⟩ (.bool true)).drew.heap[s + 2]? = _ from blk_put HB.out.ok 0 (.bool true) rfl)
  have K2 := Aside0.mk (show (W.setCell ⟨s + 2, 0, none⟩ (.bool true)).drew.heap[s]? = _ from (Below.heap_setCell W ⟨s + 2, 0, none⟩ _ s (by show s ≠ s + 2; omega)).trans HB.out.nx)
  have K3 := Aside0.mk (show (W.setCell ⟨s + 2, 0, none⟩ (.bool true)).drew.heap[s + 1]? = _ from (Below.heap_setCell W ⟨s + 2, 0, none⟩ _ (s + 1) (by show s + 1 ≠ s + 2; omega)).trans HB.out.at_)
  have K4 := Aside0.mk (show (W.setCell ⟨s + 2, 0, none⟩ (.bool true)).drew.heap[gl]? = _ from (Below.heap_setCell W ⟨s + 2, 0, none⟩ _ gl (by show gl ≠ s + 2; have := DL.out; omega)).trans HB.out.lx)
  have K5 := Aside0.mk (show Row9 (W.setCell ⟨s + 2, 0, none⟩ (.bool true)).drew g9 n from (Row9.of H9.out HP.out).far (Below.heap_setCell W ⟨s + 2, 0, none⟩ _ g9 D9.out.2.2.1))
  clear hHeld HB H9 HP hcp hcb hx0
  generalize (W.setCell ⟨s + 2, 0, none⟩ (.bool true)).drew = W1 at *
  have y3 := (blk_cell K3.out 0).trans rfl
  have f3 := blk_frozen K3.out 0
  have y2 := (blk_cell K2.out 0).trans rfl
  have f2 := blk_frozen K2.out 0
  go_wp2
  (try rw [hw])
  (try rw [hw1])
  have M1 := Aside0.mk ((Below.heap_setCell W1 ⟨s + 1, 0, none⟩ (.int .i64 ((fr : Int) + (n : Int))) (s + 2) (by show s + 2 ≠ s + 1; omega)).trans K1.out)
  have M2 := Aside0.mk ((Below.heap_setCell W1 ⟨s + 1, 0, none⟩ (.int .i64 ((fr : Int) + (n : Int))) s (by show s ≠ s + 1; omega)).trans K2.out)
  have M3 := Aside0.mk (blk_put K3.out 0 (.int .i64 ((fr : Int) + (n : Int))) rfl)
  have M4 := Aside0.mk ((Below.heap_setCell W1 ⟨s + 1, 0, none⟩ (.int .i64 ((fr : Int) + (n : Int))) gl (by show gl ≠ s + 1; have := DL.out; omega)).trans K4.out)
  have M5 := Aside0.mk (K5.out.far (Below.heap_setCell W1 ⟨s + 1, 0, none⟩ (.int .i64 ((fr : Int) + (n : Int))) g9 D9.out.2.1))
  have HO2 := Aside0.mk (HO1.out.trans (Only4.of ((Only.refl (s + 1) W1).set 0 (.int .i64 ((fr : Int) + (n : Int)))) (by omega)))
  clear K1 K2 K3 K4 K5 HO1 y3 f3 y2 f2
  generalize W1.setCell ⟨s + 1, 0, none⟩ (.int .i64 ((fr : Int) + (n : Int))) = W2 at *
  have K1 := Aside0.mk ((Below.heap_setCell W2 ⟨s, 0, none⟩ (.int .i64 ((k : Int) + 1)) (s + 2) (by show s + 2 ≠ s; omega)).trans M1.out)
  have K2 := Aside0.mk (blk_put M2.out 0 (.int .i64 ((k : Int) + 1)) rfl)
  have K3 := Aside0.mk ((Below.heap_setCell W2 ⟨s, 0, none⟩ (.int .i64 ((k : Int) + 1)) (s + 1) (by show s + 1 ≠ s; omega)).trans M3.out)
  have K4 := Aside0.mk ((Below.heap_setCell W2 ⟨s, 0, none⟩ (.int .i64 ((k : Int) + 1)) gl (by show gl ≠ s; have := DL.out; omega)).trans M4.out)
  have K5 := Aside0.mk (M5.out.far (Below.heap_setCell W2 ⟨s, 0, none⟩ (.int .i64 ((k : Int) + 1)) g9 D9.out.1))
  have HO1 := Aside0.mk (HO2.out.trans (Only4.of ((Only.refl s W2).set 0 (.int .i64 ((k : Int) + 1))) (by omega)))
  clear M1 M2 M3 M4 M5 HO2
  generalize W2.setCell ⟨s, 0, none⟩ (.int .i64 ((k : Int) + 1)) = W3 at *
  clear hw hw1 s1 s2 s3 s4 s5 s6 s7 s8 s9 s10 s11 s12 s13 p1 p2 hkb
  go_loopw [54] (fun v54 wr => ∃ i : Nat, i ≤ n ∧ v54 = .int .i64 i ∧ Aside0 (Only g9 W3 wr) ∧ Aside0 (Row9 wr g9 n)) (fun v54 _ => n - (intOf v54).toNat)
  case atStart => exact ⟨0, Nat.zero_le _, rfl, ⟨Only.refl _ _⟩, K5⟩
  case round =>
    obtain ⟨i, hi, rfl, HO, HR⟩ := hrel
    clear K5
    by_cases hlt : i < n
    · have hltb : decide ((i : Int) < (n : Int)) = true := decide_eq_true (lt_lt hlt)
      obtain ⟨x, hx, fx⟩ := HR.out.at_ hlt
      have p1 : (0 ≤ (i : Int)) = True := eq_true (Int.natCast_nonneg _)
      have p2 : ((i : Int) < (n : Int)) = True := eq_true (lt_lt hlt)
      have hwi := wi hlt (by have := HFN.out; have := HLEN.out; omega)
      have HLT := Aside0.mk hlt
      clear hlt hi
      go_wp2
      (try simp only [hwi])
      go_roundw
      case rel => exact ⟨i + 1, HLT.out, by go_num, ⟨HO.out.set _ _⟩, ⟨HR.out.set _⟩⟩
      case measure => simp [intOf]; exact left_less HLT.out
    · obtain rfl : i = n := Nat.le_antisymm hi (Nat.le_of_not_lt hlt)
      have hltb : decide ((i : Int) < (i : Int)) = false := decide_eq_false (Int.lt_irrefl _)
      have L1 := Aside0.mk ((HO.out.block (s + 2) D9.out.2.2.1.symm).trans K1.out)
      have L2 := Aside0.mk ((HO.out.block s D9.out.1.symm).trans K2.out)
      have L3 := Aside0.mk ((HO.out.block (s + 1) D9.out.2.1.symm).trans K3.out)
      have L4 := Aside0.mk ((HO.out.block gl D9.out.2.2.2.symm).trans K4.out)
      have HO2 := Aside0.mk (HO1.out.trans (Only4.of HO.out (by omega)))
      have y1 := (blk_cell L1.out 0).trans rfl
      have y2 := (blk_cell L2.out 0).trans rfl
      have y4 := (blk_cell L4.out 0).trans rfl
      have hwl := lv_w HLV.out
      have hle : decide ((k : Int) + 1 ≤ (lv : Int)) = decide (k + 1 ≤ lv) := decide_eq_decide.mpr (by omega)
      clear hlt hi
      go_wp2
      go_ret
      exact ⟨by simp only [hle]; rfl, L1.out, by have := L2.out; rwa [show ((k + 1 : Nat) : Int) = (k : Int) + 1 by omega], by have := L3.out; rwa [show ((fr + i : Nat) : Int) = (fr : Int) + (i : Int) by omega], HO2.out⟩
end Go.Proofs.Ytkaabkoadoomjaa.Law
