/- CutterSums: the plain law and the walk. -/
import Derived.Test.YtkaabkoadoomjaaOp
namespace Go.Proofs.Ytkaabkoadoomjaa.Law
open Go.RowKit Go.Proofs.Ytkaabkoadoomjaa Go.Proofs.Ytkaabkoadoomjaa.D Go.Proofs.Ytkaabkoadoomjaa.Roll Go.Proofs.YtkaabkoadoomjaaW.PrintWords Go.Proofs.YtkaabkoadoomjaaW.PrintLast Go.Proofs.YtkaabkoadoomjaaW.PrintMore
set_option linter.unusedSimpArgs false
set_option linter.unusedVariables false
theorem ends_most {m k : Nat} {mn mx : Int} {os : List Int} (h : (os.length : Int) = mx) : ends m k mn mx os = true := by
  unfold ends endsAt
  rw [decide_eq_true h, Bool.true_or]
theorem ends_least {m k : Nat} {mn mx : Int} {os : List Int} (hm : mn ≤ mx) (h : ends m k mn mx os = true) : mn ≤ (os.length : Int) := by
  unfold ends endsAt at h
  by_cases h1 : (os.length : Int) = mx
  · omega
  · rw [decide_eq_false h1, Bool.false_or, Bool.and_eq_true] at h
    exact of_decide_eq_true h.1
theorem firstN_facts (m k : Nat) (mn mx : Int) (hm : mn ≤ mx) (b : List Int) : ∀ j n, n ≤ b.length → (n : Int) ≤ mx → b.length ≤ j + n → (firstN m k mn mx b j n : Int) ≤ mx ∧ (firstN m k mn mx b j n < b.length → mn ≤ (firstN m k mn mx b j n : Int))
  | j, n, h, h1, h2 => by
    by_cases hn : n < b.length
    · obtain ⟨j, rfl⟩ : ∃ i, j = i + 1 := ⟨j - 1, by omega⟩
      unfold firstN
      rw [if_pos hn]
      have hl : (b.take n).length = n := by rw [List.length_take]; omega
      by_cases he : ends m k mn mx (b.take n) = true
      · rw [if_pos he]
        have := ends_least hm he
        rw [hl] at this
        exact ⟨h1, fun _ => this⟩
      · rw [if_neg he]
        have hne : (n : Int) ≠ mx := fun e => he (ends_most (by rw [hl]; exact e))
        exact firstN_facts m k mn mx hm b j (n + 1) hn (by omega) (by omega)
    · have e : firstN m k mn mx b j n = b.length := by
        cases j with
        | zero => rfl
        | succ j => unfold firstN; rw [if_neg hn]
      rw [e]
      exact ⟨by omega, fun h => absurd h (Nat.lt_irrefl _)⟩
/-- lengths that may be, and their sum -/
def sumsOk (mn mx en : Int) : Int → List Int → Prop
  | acc, [] => acc = en
  | acc, n :: l => (1 ≤ n ∧ n ≤ mx) ∧ (l ≠ [] → mn ≤ n) ∧ (0 ≤ acc ∧ acc + n ≤ en) ∧ sumsOk mn mx en (acc + n) l
theorem sums_lens {m k : Nat} {mn mx : Int} (ok : OkC m mn mx) : ∀ (n : Nat) (b : List Int) (acc : Int), b.length ≤ n → 0 ≤ acc → sumsOk mn mx (acc + b.length) acc (lens m k mn mx [] b)
  | n, b, acc, hn, ha => by
    by_cases h0 : 0 < b.length
    · obtain ⟨n, rfl⟩ : ∃ i, n = i + 1 := ⟨n - 1, by omega⟩
      obtain ⟨f1, f2⟩ := first_le m k mn mx b h0
      have hlo := ok.lo
      have hmid := ok.mid
      obtain ⟨f3, f4⟩ := firstN_facts m k mn mx ok.mid b b.length 1 h0 (by omega) (by omega)
      have hd : (b.drop (first m k mn mx b)).length = b.length - first m k mn mx b := List.length_drop
      have ih := sums_lens (k := k) ok n (b.drop (first m k mn mx b)) (acc + (first m k mn mx b : Int)) (by omega) (by omega)
      rw [lens_cons m k mn mx b h0]
      have e : acc + (first m k mn mx b : Int) + ((b.drop (first m k mn mx b)).length : Int) = acc + (b.length : Int) := by rw [hd]; omega
      rw [e] at ih
      refine ⟨⟨by omega, f3⟩, fun hne => f4 ?_, ⟨ha, by omega⟩, ih⟩
      rcases Nat.lt_or_ge (first m k mn mx b) b.length with h | h
      · exact h
      · rw [List.drop_eq_nil_of_le h, lens, if_pos rfl] at hne
        exact absurd rfl hne
    · have e : b = [] := List.eq_nil_of_length_eq_zero (by omega)
      subst e
      rw [lens, if_pos rfl]
      show acc = acc + (([] : List Int).length : Int)
      simp
theorem sum_facts {n mn mx s en : Int} (h1 : 1 ≤ n ∧ n ≤ mx) (h3 : 0 ≤ s ∧ s + n ≤ en) (he : en ≤ 1099511627776) : decide (n < 1) = false ∧ decide (mx < n) = false ∧ wrap64 (s + n) = s + n :=
  ⟨decide_eq_false (by omega), decide_eq_false (by omega), w64 (by omega) (by omega)⟩
theorem not_lt {n mn : Int} (h : mn ≤ n) : decide (n < mn) = false := decide_eq_false (by omega)
theorem ge_one {n : Int} (h : decide (n < 1) = false) : (1 ≤ n) = True := eq_true (by have := of_decide_eq_false h; omega)
set_option maxHeartbeats 4000000 in
set_option maxRecDepth 100000 in
theorem cs_no (m k : Nat) (mn mx : Int) (hu : U m) (no : ¬ OkC m mn mx) (hk : U k) (A : Option Addr) (c : Nat) (b : List Int) (w : World) (hb : Bytes b) (hr : Kd.C (Kd.int .u8) w A b.length b) (hc : b.length ≤ c) (hl : b.length ≤ 1048576) :
    Calls Try.prog 5 #[.agg #[.int .u64 (m : Int), .int .u64 (k : Int), .int .i64 mn, .int .i64 mx], .slice A b.length c] w fun e w' => e = .returned (.bool true) ∧ Below w.heap.size w w' := by
  have HU := Aside0.mk hk
  have HBY := Aside0.mk hb
  have HUM := Aside0.mk hu
  have HNO := Aside0.mk no
  have HLO := Aside0.mk (show b.length < 140737488355328 by omega)
  have HB := Aside0.mk (below_alloc (Below.refl w.heap.size w) (.cells #[.int .u64 (m : Int), .int .u64 (k : Int), .int .i64 mn, .int .i64 mx] 24))
  have KC := Aside0.mk (heap_alloc_new w (.cells #[.int .u64 (m : Int), .int .u64 (k : Int), .int .i64 mn, .int .i64 mx] 24))
  have RB := Aside0.mk (Kd.C_below hr (below_alloc (Below.refl w.heap.size w) (.cells #[.int .u64 (m : Int), .int .u64 (k : Int), .int .i64 mn, .int .i64 mx] 24)))
  clear hk hb hr hu no
  go_enter Try.func5, Try.ntmps5
  go_wp2
  refine start_ (n := 9) (S := fun w' => w'.cell? ⟨w.heap.size, 0, none⟩ = some (.int .u64 (m : Int)) ∧ w'.cell? ⟨w.heap.size, 1, none⟩ = some (.int .u64 (k : Int)) ∧ w'.cell? ⟨w.heap.size, 2, none⟩ = some (.int .i64 mn) ∧ w'.cell? ⟨w.heap.size, 3, none⟩ = some (.int .i64 mx)) (ds := []) #[false, false, false, false, false, false, false, false, false] (by kernel_rfl) rfl rfl ⟨(blk_cell (w := (w.alloc (.cells #[.int .u64 (m : Int), .int .u64 (k : Int), .int .i64 mn, .int .i64 mx] 24)).drew) KC.out 0).trans rfl, (blk_cell (w := (w.alloc (.cells #[.int .u64 (m : Int), .int .u64 (k : Int), .int .i64 mn, .int .i64 mx] 24)).drew) KC.out 1).trans rfl, (blk_cell (w := (w.alloc (.cells #[.int .u64 (m : Int), .int .u64 (k : Int), .int .i64 mn, .int .i64 mx] 24)).drew) KC.out 2).trans rfl, (blk_cell (w := (w.alloc (.cells #[.int .u64 (m : Int), .int .u64 (k : Int), .int .i64 mn, .int .i64 mx] 24)).drew) KC.out 3).trans rfl⟩ (fun hHeld => ?_)
  refine pure_ (i := 1) (N := some 12) (v := ?_) (a' := ?_) #[false, true, false, false, false, false, false, false, false] rfl rfl (by kernel_rfl) (fun _ _ _ h => h) (Or.inl ⟨by rfl, ?_⟩) ?_ ?_
  rotate_left
  · intro w'
    go_simp
    with_reducible rfl
  rotate_left
  · simp only [Act.put, List.setIfInBounds_toArray, List.set_cons_zero, List.set_cons_succ, i64_w, i32_w]
    rfl
  refine take_ (i := 0) (N := some 11) (v := ?_) (a' := ?_) #[true, true, false, false, false, false, false, false, false] rfl rfl (by kernel_rfl) (fun _ _ _ h => h) (Or.inl ⟨by rfl, ?_⟩) hHeld ?_ ?_
  rotate_left
  · rintro w' ⟨s0, s1, s2, s3⟩
    go_simp
    with_reducible rfl
  rotate_left
  · simp only [Act.put, List.setIfInBounds_toArray, List.set_cons_zero, List.set_cons_succ, i64_w, i32_w]
    rfl
  refine one_ (i := 2) (N := some 13) #[true, true, true, false, false, false, false, false, false] rfl rfl (by kernel_rfl) (by decide) (fun K hK => ?_)
  refine goes_ Try.func9 (by kernel_rfl) rfl #[.slice A b.length c] (by rfl) rfl rfl (by simp only [List.map_toArray, List.map_cons, List.map_nil]; rfl) ?_
  with_reducible refine (own_calls (Kd.C_below RB.out (below_drew1 (Below.refl _ _))) hc HLO.out).mono ?_
  rintro e w1 ⟨V1, rfl, hv, hb⟩
  refine ⟨_, rfl, ?_⟩
  obtain ⟨A1, c1, rfl, hc1, hC1⟩ := Kd.R_reads hv
  have RX := Aside0.mk hC1
  clear hv hC1
  have n0_ := Aside0.mk (below_step (below_drew1 HB.out) hb)
  have n1_ := Aside0.mk (blk_below KC.out (below_step (below_drew1 (Below.refl (w.alloc (.cells #[.int .u64 (m : Int), .int .u64 (k : Int), .int .i64 mn, .int .i64 mx] 24)).heap.size (w.alloc (.cells #[.int .u64 (m : Int), .int .u64 (k : Int), .int .i64 mn, .int .i64 mx] 24)))) hb))
  have n2_ := Aside0.mk (Kd.C_below RB.out (below_step (below_drew1 (Below.refl (w.alloc (.cells #[.int .u64 (m : Int), .int .u64 (k : Int), .int .i64 mn, .int .i64 mx] 24)).heap.size (w.alloc (.cells #[.int .u64 (m : Int), .int .u64 (k : Int), .int .i64 mn, .int .i64 mx] 24)))) hb))
  clear hb HB KC RB
  have HB := n0_
  have KC := n1_
  have RB := n2_
  clear n0_ n1_ n2_
  refine hK.out _ _ ⟨(blk_cell KC.out 0).trans rfl, (blk_cell KC.out 1).trans rfl, (blk_cell KC.out 2).trans rfl, (blk_cell KC.out 3).trans rfl⟩ (fun hHeld => ?_)
  clear hK K
  refine norm_ (a' := ?_) ?_ ?_
  rotate_left
  · show Act.put _ (some 13) _ = _
    simp only [Act.put, List.setIfInBounds_toArray, List.set_cons_zero, List.set_cons_succ, i64_w, i32_w]
    rfl
  refine one_ (i := 3) (N := some 14) #[true, true, true, true, false, false, false, false, false] rfl rfl (by kernel_rfl) (by decide) (fun K hK => ?_)
  refine goes_ Try.func10 (by kernel_rfl) rfl #[.agg #[.int .u64 (m : Int), .int .u64 (k : Int), .int .i64 mn, .int .i64 mx], .slice A1 b.length c1] (by rfl) rfl rfl (by simp only [List.map_toArray, List.map_cons, List.map_nil]; rfl) ?_
  with_reducible refine (lengths_no m k mn mx HUM.out HNO.out A1 b.length c1 _).mono ?_
  rintro e w2 ⟨rfl, hb⟩
  refine ⟨_, rfl, ?_⟩
  have n0_ := Aside0.mk (below_step HB.out hb)
  have n1_ := Aside0.mk (blk_below KC.out hb)
  have n2_ := Aside0.mk (Kd.C_below RB.out hb)
  have n3_ := Aside0.mk (Kd.C_below RX.out hb)
  clear hb HB KC RB RX
  have HB := n0_
  have KC := n1_
  have RB := n2_
  have RX := n3_
  clear n0_ n1_ n2_ n3_
  refine hK.out _ _ ⟨(blk_cell KC.out 0).trans rfl, (blk_cell KC.out 1).trans rfl, (blk_cell KC.out 2).trans rfl, (blk_cell KC.out 3).trans rfl⟩ (fun hHeld => ?_)
  clear hK K
  refine norm_ (a' := ?_) ?_ ?_
  rotate_left
  · show Act.put _ (some 14) _ = _
    simp only [Act.put, List.setIfInBounds_toArray, List.set_cons_zero, List.set_cons_succ, i64_w, i32_w]
    rfl
  refine pure_ (i := 4) (N := some 10) (v := ?_) (a' := ?_) #[true, true, true, true, true, false, false, false, false] rfl rfl (by kernel_rfl) (fun _ _ _ h => h) (Or.inl ⟨by rfl, ?_⟩) ?_ ?_
  rotate_left
  · intro w'
    go_simp
    with_reducible rfl
  rotate_left
  · simp only [Act.put, List.setIfInBounds_toArray, List.set_cons_zero, List.set_cons_succ, i64_w, i32_w]
    rfl
  refine pure_ (i := 5) (N := some 15) (v := ?_) (a' := ?_) #[true, true, true, true, true, true, false, false, false] rfl rfl (by kernel_rfl) (fun _ _ _ h => h) (Or.inl ⟨by rfl, ?_⟩) ?_ ?_
  rotate_left
  · intro w'
    go_simp
    with_reducible rfl
  rotate_left
  · simp only [Act.put, List.setIfInBounds_toArray, List.set_cons_zero, List.set_cons_succ, i64_w, i32_w]
    rfl
  refine pure_ (i := 6) (N := some 16) (v := ?_) (a' := ?_) #[true, true, true, true, true, true, true, false, false] rfl rfl (by kernel_rfl) (fun _ _ _ h => h) (Or.inl ⟨by rfl, ?_⟩) ?_ ?_
  rotate_left
  · intro w'
    go_simp
    with_reducible rfl
  rotate_left
  · simp only [Act.put, List.setIfInBounds_toArray, List.set_cons_zero, List.set_cons_succ, i64_w, i32_w]
    rfl
  refine pure_ (i := 7) (N := some 5) (v := ?_) (a' := ?_) #[true, true, true, true, true, true, true, true, false] rfl rfl (by kernel_rfl) (fun _ _ _ h => h) (Or.inl ⟨by rfl, ?_⟩) ?_ ?_
  rotate_left
  · intro w'
    go_simp
    with_reducible rfl
  rotate_left
  · simp only [Act.put, List.setIfInBounds_toArray, List.set_cons_zero, List.set_cons_succ, i64_w, i32_w]
    rfl
  refine pure_ (i := 8) (N := some 6) (v := ?_) (a' := ?_) #[true, true, true, true, true, true, true, true, true] rfl rfl (by kernel_rfl) (fun _ _ _ h => h) (Or.inl ⟨by rfl, ?_⟩) ?_ ?_
  rotate_left
  · intro w'
    go_simp
    with_reducible rfl
  rotate_left
  · simp only [Act.put, List.setIfInBounds_toArray, List.set_cons_zero, List.set_cons_succ, i64_w, i32_w]
    rfl
  refine done_ (by kernel_rfl) ?_
  go_wp2_with (go_at_call 8; with_reducible refine (awake_calls _).mono ?_; rintro e w9 ⟨rfl, hb⟩; have n0_ := Aside0.mk (below_step HB.out hb); clear HB hb; have HB := n0_; clear n0_)
  go_ret
  exact ⟨rfl, HB.out⟩
set_option maxHeartbeats 4000000 in
set_option maxRecDepth 100000 in
theorem cs_ok (m k : Nat) (mn mx : Int) (ok : OkC m mn mx) (hk : U k) (A : Option Addr) (c : Nat) (b : List Int) (w : World) (hb : Bytes b) (hr : Kd.C (Kd.int .u8) w A b.length b) (hc : b.length ≤ c) (hl : b.length ≤ 1048576) :
    Calls Try.prog 5 #[.agg #[.int .u64 (m : Int), .int .u64 (k : Int), .int .i64 mn, .int .i64 mx], .slice A b.length c] w fun e w' => e = .returned (.bool true) ∧ Below w.heap.size w w' := by
  have HU := Aside0.mk hk
  have HBY := Aside0.mk hb
  have HOK := Aside0.mk ok
  have hln := lens_len m k mn mx b.length b (Nat.le_refl _)
  have HLN := Aside0.mk (show (lens m k mn mx [] b).length ≤ 17592186044415 by omega)
  have HLB := Aside0.mk (show b.length ≤ 140737488351232 by omega)
  have HLO := Aside0.mk (show b.length < 140737488355328 by omega)
  have HB := Aside0.mk (below_alloc (Below.refl w.heap.size w) (.cells #[.int .u64 (m : Int), .int .u64 (k : Int), .int .i64 mn, .int .i64 mx] 24))
  have KC := Aside0.mk (heap_alloc_new w (.cells #[.int .u64 (m : Int), .int .u64 (k : Int), .int .i64 mn, .int .i64 mx] 24))
  have RB := Aside0.mk (Kd.C_below hr (below_alloc (Below.refl w.heap.size w) (.cells #[.int .u64 (m : Int), .int .u64 (k : Int), .int .i64 mn, .int .i64 mx] 24)))
  have hso := sums_lens (k := k) ok b.length b 0 (Nat.le_refl _) (Int.le_refl _)
  rw [Int.zero_add] at hso
  have HSO := Aside0.mk hso
  have HEN := Aside0.mk (show (b.length : Int) ≤ 1099511627776 by omega)
  have HLL := Aside0.mk (show (lens m k mn mx [] b).length ≤ 140737488351232 by omega)
  clear hk hb hr ok hln hso hl
  go_enter Try.func5, Try.ntmps5
  go_wp2
  refine start_ (n := 9) (S := fun w' => w'.cell? ⟨w.heap.size, 0, none⟩ = some (.int .u64 (m : Int)) ∧ w'.cell? ⟨w.heap.size, 1, none⟩ = some (.int .u64 (k : Int)) ∧ w'.cell? ⟨w.heap.size, 2, none⟩ = some (.int .i64 mn) ∧ w'.cell? ⟨w.heap.size, 3, none⟩ = some (.int .i64 mx)) (ds := []) #[false, false, false, false, false, false, false, false, false] (by kernel_rfl) rfl rfl ⟨(blk_cell (w := (w.alloc (.cells #[.int .u64 (m : Int), .int .u64 (k : Int), .int .i64 mn, .int .i64 mx] 24)).drew) KC.out 0).trans rfl, (blk_cell (w := (w.alloc (.cells #[.int .u64 (m : Int), .int .u64 (k : Int), .int .i64 mn, .int .i64 mx] 24)).drew) KC.out 1).trans rfl, (blk_cell (w := (w.alloc (.cells #[.int .u64 (m : Int), .int .u64 (k : Int), .int .i64 mn, .int .i64 mx] 24)).drew) KC.out 2).trans rfl, (blk_cell (w := (w.alloc (.cells #[.int .u64 (m : Int), .int .u64 (k : Int), .int .i64 mn, .int .i64 mx] 24)).drew) KC.out 3).trans rfl⟩ (fun hHeld => ?_)
  refine pure_ (i := 1) (N := some 12) (v := ?_) (a' := ?_) #[false, true, false, false, false, false, false, false, false] rfl rfl (by kernel_rfl) (fun _ _ _ h => h) (Or.inl ⟨by rfl, ?_⟩) ?_ ?_
  rotate_left
  · intro w'
    go_simp
    with_reducible rfl
  rotate_left
  · simp only [Act.put, List.setIfInBounds_toArray, List.set_cons_zero, List.set_cons_succ, i64_w, i32_w]
    rfl
  refine take_ (i := 0) (N := some 11) (v := ?_) (a' := ?_) #[true, true, false, false, false, false, false, false, false] rfl rfl (by kernel_rfl) (fun _ _ _ h => h) (Or.inl ⟨by rfl, ?_⟩) hHeld ?_ ?_
  rotate_left
  · rintro w' ⟨s0, s1, s2, s3⟩
    go_simp
    with_reducible rfl
  rotate_left
  · simp only [Act.put, List.setIfInBounds_toArray, List.set_cons_zero, List.set_cons_succ, i64_w, i32_w]
    rfl
  refine one_ (i := 2) (N := some 13) #[true, true, true, false, false, false, false, false, false] rfl rfl (by kernel_rfl) (by decide) (fun K hK => ?_)
  refine goes_ Try.func9 (by kernel_rfl) rfl #[.slice A b.length c] (by rfl) rfl rfl (by simp only [List.map_toArray, List.map_cons, List.map_nil]; rfl) ?_
  with_reducible refine (own_calls (Kd.C_below RB.out (below_drew1 (Below.refl _ _))) hc HLO.out).mono ?_
  rintro e w1 ⟨V1, rfl, hv, hb⟩
  refine ⟨_, rfl, ?_⟩
  obtain ⟨A1, c1, rfl, hc1, hC1⟩ := Kd.R_reads hv
  have RX := Aside0.mk hC1
  clear hv hC1
  have n0_ := Aside0.mk (below_step (below_drew1 HB.out) hb)
  have n1_ := Aside0.mk (blk_below KC.out (below_step (below_drew1 (Below.refl (w.alloc (.cells #[.int .u64 (m : Int), .int .u64 (k : Int), .int .i64 mn, .int .i64 mx] 24)).heap.size (w.alloc (.cells #[.int .u64 (m : Int), .int .u64 (k : Int), .int .i64 mn, .int .i64 mx] 24)))) hb))
  have n2_ := Aside0.mk (Kd.C_below RB.out (below_step (below_drew1 (Below.refl (w.alloc (.cells #[.int .u64 (m : Int), .int .u64 (k : Int), .int .i64 mn, .int .i64 mx] 24)).heap.size (w.alloc (.cells #[.int .u64 (m : Int), .int .u64 (k : Int), .int .i64 mn, .int .i64 mx] 24)))) hb))
  clear hb HB KC RB
  have HB := n0_
  have KC := n1_
  have RB := n2_
  clear n0_ n1_ n2_
  refine hK.out _ _ ⟨(blk_cell KC.out 0).trans rfl, (blk_cell KC.out 1).trans rfl, (blk_cell KC.out 2).trans rfl, (blk_cell KC.out 3).trans rfl⟩ (fun hHeld => ?_)
  clear hK K
  refine norm_ (a' := ?_) ?_ ?_
  rotate_left
  · show Act.put _ (some 13) _ = _
    simp only [Act.put, List.setIfInBounds_toArray, List.set_cons_zero, List.set_cons_succ, i64_w, i32_w]
    rfl
  refine one_ (i := 3) (N := some 14) #[true, true, true, true, false, false, false, false, false] rfl rfl (by kernel_rfl) (by decide) (fun K hK => ?_)
  refine goes_ Try.func10 (by kernel_rfl) rfl #[.agg #[.int .u64 (m : Int), .int .u64 (k : Int), .int .i64 mn, .int .i64 mx], .slice A1 b.length c1] (by rfl) rfl rfl (by simp only [List.map_toArray, List.map_cons, List.map_nil]; rfl) ?_
  with_reducible refine (lengths_ok m k mn mx HOK.out HU.out A1 c1 b _ HBY.out RX.out hc1 HLN.out HLB.out).mono ?_
  rintro e w2 ⟨V2, rfl, hv, hb⟩
  refine ⟨_, rfl, ?_⟩
  obtain ⟨A2, c2, rfl, hc2, hC2⟩ := Kd.R_reads hv
  have RL := Aside0.mk hC2
  clear hv hC2
  have n0_ := Aside0.mk (below_step HB.out hb)
  have n1_ := Aside0.mk (blk_below KC.out hb)
  have n2_ := Aside0.mk (Kd.C_below RB.out hb)
  have n3_ := Aside0.mk (Kd.C_below RX.out hb)
  clear hb HB KC RB RX
  have HB := n0_
  have KC := n1_
  have RB := n2_
  have RX := n3_
  clear n0_ n1_ n2_ n3_
  refine hK.out _ _ ⟨(blk_cell KC.out 0).trans rfl, (blk_cell KC.out 1).trans rfl, (blk_cell KC.out 2).trans rfl, (blk_cell KC.out 3).trans rfl⟩ (fun hHeld => ?_)
  clear hK K
  refine norm_ (a' := ?_) ?_ ?_
  rotate_left
  · show Act.put _ (some 14) _ = _
    simp only [Act.put, List.setIfInBounds_toArray, List.set_cons_zero, List.set_cons_succ, i64_w, i32_w]
    rfl
  refine pure_ (i := 4) (N := some 10) (v := ?_) (a' := ?_) #[true, true, true, true, true, false, false, false, false] rfl rfl (by kernel_rfl) (fun _ _ _ h => h) (Or.inl ⟨by rfl, ?_⟩) ?_ ?_
  rotate_left
  · intro w'
    go_simp
    with_reducible rfl
  rotate_left
  · simp only [Act.put, List.setIfInBounds_toArray, List.set_cons_zero, List.set_cons_succ, i64_w, i32_w]
    rfl
  refine pure_ (i := 5) (N := some 15) (v := ?_) (a' := ?_) #[true, true, true, true, true, true, false, false, false] rfl rfl (by kernel_rfl) (fun _ _ _ h => h) (Or.inl ⟨by rfl, ?_⟩) ?_ ?_
  rotate_left
  · intro w'
    go_simp
    with_reducible rfl
  rotate_left
  · simp only [Act.put, List.setIfInBounds_toArray, List.set_cons_zero, List.set_cons_succ, i64_w, i32_w]
    rfl
  refine pure_ (i := 6) (N := some 16) (v := ?_) (a' := ?_) #[true, true, true, true, true, true, true, false, false] rfl rfl (by kernel_rfl) (fun _ _ _ h => h) (Or.inl ⟨by rfl, ?_⟩) ?_ ?_
  rotate_left
  · intro w'
    go_simp
    with_reducible rfl
  rotate_left
  · simp only [Act.put, List.setIfInBounds_toArray, List.set_cons_zero, List.set_cons_succ, i64_w, i32_w]
    rfl
  refine pure_ (i := 7) (N := some 5) (v := ?_) (a' := ?_) #[true, true, true, true, true, true, true, true, false] rfl rfl (by kernel_rfl) (fun _ _ _ h => h) (Or.inl ⟨by rfl, ?_⟩) ?_ ?_
  rotate_left
  · intro w'
    go_simp
    with_reducible rfl
  rotate_left
  · simp only [Act.put, List.setIfInBounds_toArray, List.set_cons_zero, List.set_cons_succ, i64_w, i32_w]
    rfl
  refine pure_ (i := 8) (N := some 6) (v := ?_) (a' := ?_) #[true, true, true, true, true, true, true, true, true] rfl rfl (by kernel_rfl) (fun _ _ _ h => h) (Or.inl ⟨by rfl, ?_⟩) ?_ ?_
  rotate_left
  · intro w'
    go_simp
    with_reducible rfl
  rotate_left
  · simp only [Act.put, List.setIfInBounds_toArray, List.set_cons_zero, List.set_cons_succ, i64_w, i32_w]
    rfl
  refine done_ (by kernel_rfl) ?_
  generalize hL : lens m k mn mx [] b = L at *
  clear HLN hL
  go_wp2
  go_loopw [7, 27] (fun v7 v27 wr => ∃ (i : Nat) (s : Int), i ≤ L.length ∧ v7 = .int .i64 s ∧ v27 = .int .i64 i ∧ Aside0 (sumsOk mn mx (b.length : Int) s (L.drop i)) ∧ wr = w2) (fun _ v27 _ => L.length - (intOf v27).toNat)
  case atStart => exact ⟨0, 0, Nat.zero_le _, rfl, rfl, ⟨by rw [List.drop_zero]; exact HSO.out⟩, rfl⟩
  case round =>
    obtain ⟨i, s, hi, rfl, rfl, HS, rfl⟩ := hrel
    by_cases hlt : i < L.length
    · have hltb : decide ((i : Int) < (L.length : Int)) = true := decide_eq_true (lt_lt hlt)
      have hst := HS.out
      rw [drop_rd hlt] at hst
      obtain ⟨h1, h2, h3, h4⟩ := hst
      obtain ⟨ad, rfl, hx⟩ := Kd.at_int RL.out (i : Int) (Int.natCast_nonneg _) (lt_lt hlt)
      rw [Int.toNat_natCast] at hx
      have p1 : (0 ≤ (i : Int)) = True := eq_true (Int.natCast_nonneg _)
      have p2 : ((i : Int) < (L.length : Int)) = True := eq_true (lt_lt hlt)
      have z2 := (blk_cell KC.out 2).trans rfl
      have z3 := (blk_cell KC.out 3).trans rfl
      generalize rd L (i : Int) = n at *
      obtain ⟨d1, d2, hws⟩ := sum_facts (mn := mn) h1 h3 HEN.out
      have H4 := Aside0.mk h4
      have hwi := wi hlt HLL.out
      clear HS h4 h1 h3
      by_cases hnx : i + 1 < L.length
      · have hnb := nx_true hnx
        have hne : L.drop (i + 1) ≠ [] := fun e => by have := congrArg List.length e; rw [List.length_drop, List.length_nil] at this; omega
        have d3 := not_lt (h2 hne)
        clear h2 hne hi hnx hc hc1 hc2
        go_wp2
        (try simp only [hwi])
        go_roundw
        case rel => exact ⟨i + 1, s + n, hlt, by go_num, by go_num, H4, by first | rfl | trivial⟩
        case measure => simp [intOf]; exact left_less hlt
      · have hnb := nx_false hnx
        clear h2 hi hnx hc hc1 hc2
        go_wp2
        (try simp only [hwi])
        go_roundw
        case rel => exact ⟨i + 1, s + n, hlt, by go_num, by go_num, H4, by first | rfl | trivial⟩
        case measure => simp [intOf]; exact left_less hlt
    · obtain rfl : i = L.length := Nat.le_antisymm hi (Nat.le_of_not_lt hlt)
      have hltb : decide ((L.length : Int) < (L.length : Int)) = false := decide_eq_false (Int.lt_irrefl _)
      have hst := HS.out
      rw [List.drop_length] at hst
      have heq : (s == (b.length : Int)) = true := beq_iff_eq.mpr hst
      clear hst HS
      go_wp2_with (go_at_call 8; with_reducible refine (awake_calls _).mono ?_; rintro e w9 ⟨rfl, hb⟩; have n0_ := Aside0.mk (below_step HB.out hb); clear HB hb; have HB := n0_; clear n0_)
      go_ret
      exact ⟨rfl, HB.out⟩
theorem sums_walk (p k mn mx : Int) (a2 : Option Addr) (len2 cap2 : Nat) (z2 : List Int) (w : World) (wc : WfC p k mn mx) (w2 : IsRow .u8 w a2 len2 cap2 z2) (y2 : len2 ≤ 1048576) :
    Calls Try.prog 5 #[.agg #[.int .u64 p, .int .u64 k, .int .i64 mn, .int .i64 mx], .slice a2 len2 cap2] w fun e w' => e = .returned (.bool true) ∧ Below w.heap.size w w' := by
  obtain ⟨l, rfl, hr, hb, hc⟩ := w2.opened
  obtain ⟨m, rfl, hu⟩ := of_wf wc.1
  obtain ⟨q, rfl, hk⟩ := of_wf wc.2.1
  by_cases ok : OkC m mn mx
  · exact cs_ok m q mn mx ok hk a2 cap2 l w hb hr hc y2
  · exact cs_no m q mn mx hu ok hk a2 cap2 l w hb hr hc y2
end Go.Proofs.Ytkaabkoadoomjaa.Law
