/- CutterLocal: the plain law and the walk. -/
import Derived.Test.YtkaabkoadoomjaaPu
namespace Go.Proofs.Ytkaabkoadoomjaa.Law
open Go.RowKit Go.Proofs.Ytkaabkoadoomjaa Go.Proofs.Ytkaabkoadoomjaa.D Go.Proofs.Ytkaabkoadoomjaa.Roll Go.Proofs.YtkaabkoadoomjaaW.PrintWords Go.Proofs.YtkaabkoadoomjaaW.PrintLast Go.Proofs.YtkaabkoadoomjaaW.PrintMore
set_option linter.unusedSimpArgs false
set_option linter.unusedVariables false
theorem lens_ne {m k : Nat} {mn mx : Int} {os l : List Int} (h : os ≠ [] ∨ l ≠ []) : lens m k mn mx os l ≠ [] := by
  cases l with
  | nil =>
    rw [lens, if_neg (by rcases h with h | h; exact h; exact absurd rfl h)]; simp
  | cons y l =>
    obtain ⟨c, t, e, _⟩ := lens_head m k mn mx l os y
    rw [e]; simp
theorem lens_local (m k : Nat) (mn mx : Int) (b : List Int) : ∀ (l os : List Int), os ≠ [] ∨ l ≠ [] →
    ∃ pre last tail, lens m k mn mx os l = pre ++ [last] ∧ lens m k mn mx os (l ++ b) = pre ++ tail ∧ tail ≠ []
  | [], os, h => by
    have ho : os ≠ [] := by rcases h with h | h; exact h; exact absurd rfl h
    refine ⟨[], (os.length : Int), _, by rw [lens, if_neg ho]; rfl, rfl, lens_ne (.inl ho)⟩
  | x :: l, os, h => by
    rw [List.cons_append, lens, lens]
    by_cases he : ends m k mn mx (os ++ [x]) = true
    · rw [if_pos he, if_pos he]
      by_cases hl : l = []
      · subst hl
        exact ⟨[], _, _, by rw [lens, if_pos rfl]; rfl, rfl, by simp⟩
      · obtain ⟨pre, last, tail, h1, h2, h3⟩ := lens_local m k mn mx b l [] (.inr hl)
        exact ⟨_ :: pre, last, tail, by rw [h1]; rfl, by rw [h2]; rfl, h3⟩
    · rw [if_neg he, if_neg he]
      exact lens_local m k mn mx b l (os ++ [x]) (.inl (by simp))
theorem C_nil (w : World) (A : Option Addr) : Kd.C (Kd.int .i64) w A 0 [] := Kd.C_of_reads (enc := Value.int .i64) (d := (0 : Int)) (h1 := fun _ => rfl) ⟨rfl, by omega, fun hn => by omega⟩
theorem C_pre {w : World} {A : Option Addr} {pre t : List Int} {n : Nat} (h : Kd.C (Kd.int .i64) w A n (pre ++ t)) : Kd.C (Kd.int .i64) w A pre.length pre := by
  obtain rfl : (pre ++ t).length = n := h.1
  have := Kd.C_take h (m := pre.length) (by rw [List.length_append]; omega)
  rwa [List.take_left] at this
theorem C8_nil (w : World) (A : Option Addr) : Kd.C (Kd.int .u8) w A 0 [] := Kd.C_of_reads (enc := Value.int .u8) (d := (0 : Int)) (h1 := fun _ => rfl) ⟨rfl, by omega, fun hn => by omega⟩
theorem C_tail {w : World} {ad : Addr} {n f : Nat} {l : List Int} (h : Kd.C (Kd.int .u8) w (some ad) n l) (hf : f ≤ n) : Kd.C (Kd.int .u8) w (some (ad.add f)) (n - f) (l.drop f) := by
  have := C_sub h (fr := f) (m := n - f) (by omega)
  have hl : l.length = n := h.1
  rwa [List.take_of_length_le (by rw [List.length_drop]; omega)] at this
theorem own_n {A : Option Addr} {c n : Nat} {l : List Int} {w : World} (hn : l.length = n) (hr : Kd.C (Kd.int .u8) w A n l) (hc : n ≤ c) (hl : n < 140737488355328) :
    Calls Try.prog 9 #[.slice A n c] w fun e w' => ∃ V, e = .returned V ∧ Kd.R (Kd.int .u8) 5 w' w.heap.size (fun _ => True) V l ∧ Below w.heap.size w w' := by
  subst hn
  exact own_calls hr hc hl
theorem q_nine {p tl n2 n5 c2 c5 : Nat} (h2 : p + 1 = n2) (h5 : p + tl = n5) (ht : 0 < tl) (hc2 : n2 ≤ c2) (hc5 : n5 ≤ c5) (hp : p ≤ 4000) :
    decide ((n5 : Int) < (n2 : Int)) = false ∧ wrap64 ((n2 : Int) - 1) = (p : Int) ∧ ((p : Int) ≤ (c2 : Int)) = True ∧ ((p : Int) ≤ (c5 : Int)) = True ∧ (0 < (n2 : Int)) = True ∧ (n5 < n2) = False ∧ (n2 ≤ n5) = True ∧ ((n5 : Int) < (n2 : Int)) = False :=
  ⟨decide_eq_false (by omega), (w64 (by omega) (by omega)).trans (by omega), eq_true (by omega), eq_true (by omega), eq_true (by omega), eq_false (by omega), eq_true (by omega), eq_false (by omega)⟩
theorem n_ne {p n : Nat} (h : p + 1 = n) : ((n : Int) == 0) = false := beq_eq_false_iff_ne.mpr (by omega)
theorem q_eleven {f n : Nat} (h : f ≤ n) : decide ((n : Int) < (f : Int)) = false ∧ decide ((f : Int) < 0) = false ∧ ((f : Int) ≤ (n : Int)) = True ∧ (n < f) = False ∧ (f ≤ n) = True ∧ ((n : Int) < (f : Int)) = False := ⟨decide_eq_false (by omega), decide_eq_false (by omega), eq_true (by omega), eq_false (by omega), eq_true (by omega), eq_false (by omega)⟩
theorem q_slice {f n : Nat} (h : f < n) : ((f : Int) ≤ (n : Int)) = True ∧ (n ≤ f) = False ∧ (n - f = 0) = False ∧ (n - f == 0) = false ∧ (n = f) = False ∧ (f = n) = False ∧ ((n : Int) = (f : Int)) = False ∧ ((f : Int) = (n : Int)) = False :=
  ⟨eq_true (by omega), eq_false (by omega), eq_false (by omega), beq_eq_false_iff_ne.mpr (by omega), eq_false (by omega), eq_false (by omega), eq_false (by omega), eq_false (by omega)⟩
theorem C_rest {w : World} {g : Nat} {f : Int} {t : List Int} (h : Kd.C (Kd.int .i64) w (some ⟨g, 0, none⟩) (f :: t).length (f :: t)) : Kd.C (Kd.int .i64) w (some ⟨g, 1, none⟩) t.length t := by
  have hr := Kd.reads_of_C (enc := Value.int .i64) (d := (0 : Int)) (h1 := fun _ => rfl) h
  refine Kd.C_of_reads (enc := Value.int .i64) (d := (0 : Int)) (h1 := fun _ => rfl) ⟨rfl, by have := hr.2.1; rw [List.length_cons] at this; omega, fun hn => ⟨_, rfl, fun j hj => ?_⟩⟩
  obtain ⟨ad, e, hc⟩ := hr.2.2 (by rw [List.length_cons]; omega)
  cases e
  have := hc (j + 1) (by rw [List.length_cons]; omega)
  have hadd : (⟨g, 0, none⟩ : Addr).add (j + 1) = (⟨g, 1, none⟩ : Addr).add j := by
    unfold Addr.add
    by_cases h0 : j = 0 <;> simp [h0, Nat.add_comm]
  rw [← hadd, this]
  rfl
theorem bytes_app {a b : List Int} (ha : Bytes a) (hb : Bytes b) : Bytes (a ++ b) := fun x hx => by
  rcases List.mem_append.mp hx with h | h
  · exact ha x h
  · exact hb x h
set_option maxHeartbeats 4000000 in
set_option maxRecDepth 100000 in
theorem lo_no (m k : Nat) (mn mx : Int) (hu : U m) (no : ¬ OkC m mn mx) (hk : U k) (A B : Option Addr) (c d : Nat) (a b : List Int) (w : World) (ha : Bytes a) (hb : Bytes b) (hra : Kd.C (Kd.int .u8) w A a.length a) (hrb : Kd.C (Kd.int .u8) w B b.length b) (hc : a.length ≤ c) (hd : b.length ≤ d) (hla : a.length ≤ 4000) (hlb : b.length ≤ 4000) :
    Calls Try.prog 6 #[.agg #[.int .u64 (m : Int), .int .u64 (k : Int), .int .i64 mn, .int .i64 mx], .slice A a.length c, .slice B b.length d] w fun e w' => e = .returned (.bool true) ∧ Below w.heap.size w w' := by
  have hgt1 : decide ((4000 : Int) < (a.length : Int)) = false := decide_eq_false (by omega)
  have hgt2 : decide ((4000 : Int) < (b.length : Int)) = false := decide_eq_false (by omega)
  have HU := Aside0.mk hk
  have HBY := Aside0.mk ha
  have HLA := Aside0.mk (show a.length < 140737488355328 by omega)
  have HAB := Aside0.mk (show (a.length + b.length) * 1 ≤ 140737488355328 by omega)
  obtain ⟨az, haz⟩ : ∃ l : List Int, l = a ++ b := ⟨_, rfl⟩
  have HAZ := Aside0.mk haz
  have hzl : az.length ≤ 8000 := by rw [haz, List.length_append]; omega
  have HUM := Aside0.mk hu
  have HNO := Aside0.mk no
  have HB := Aside0.mk (below_alloc (Below.refl w.heap.size w) (.cells #[.int .u64 (m : Int), .int .u64 (k : Int), .int .i64 mn, .int .i64 mx] 24))
  have KC := Aside0.mk (heap_alloc_new w (.cells #[.int .u64 (m : Int), .int .u64 (k : Int), .int .i64 mn, .int .i64 mx] 24))
  have RA := Aside0.mk (Kd.C_below hra (below_alloc (Below.refl w.heap.size w) (.cells #[.int .u64 (m : Int), .int .u64 (k : Int), .int .i64 mn, .int .i64 mx] 24)))
  have RB := Aside0.mk (Kd.C_below hrb (below_alloc (Below.refl w.heap.size w) (.cells #[.int .u64 (m : Int), .int .u64 (k : Int), .int .i64 mn, .int .i64 mx] 24)))
  clear hk ha hb hra hrb hla hlb haz hzl hu no
  go_enter Try.func6, Try.ntmps6
  go_wp2
  refine start_ (n := 9) (S := fun w' => w'.cell? ⟨w.heap.size, 0, none⟩ = some (.int .u64 (m : Int)) ∧ w'.cell? ⟨w.heap.size, 1, none⟩ = some (.int .u64 (k : Int)) ∧ w'.cell? ⟨w.heap.size, 2, none⟩ = some (.int .i64 mn) ∧ w'.cell? ⟨w.heap.size, 3, none⟩ = some (.int .i64 mx)) (ds := []) #[false, false, false, false, false, false, false, false, false] (by kernel_rfl) rfl rfl ⟨(blk_cell (w := (w.alloc (.cells #[.int .u64 (m : Int), .int .u64 (k : Int), .int .i64 mn, .int .i64 mx] 24)).drew) KC.out 0).trans rfl, (blk_cell (w := (w.alloc (.cells #[.int .u64 (m : Int), .int .u64 (k : Int), .int .i64 mn, .int .i64 mx] 24)).drew) KC.out 1).trans rfl, (blk_cell (w := (w.alloc (.cells #[.int .u64 (m : Int), .int .u64 (k : Int), .int .i64 mn, .int .i64 mx] 24)).drew) KC.out 2).trans rfl, (blk_cell (w := (w.alloc (.cells #[.int .u64 (m : Int), .int .u64 (k : Int), .int .i64 mn, .int .i64 mx] 24)).drew) KC.out 3).trans rfl⟩ (fun hHeld => ?_)
  refine pure_ (i := 1) (N := some 24) (v := ?_) (a' := ?_) #[false, true, false, false, false, false, false, false, false] rfl rfl (by kernel_rfl) (fun _ _ _ h => h) (Or.inl ⟨by rfl, ?_⟩) ?_ ?_
  rotate_left
  · intro w'
    go_simp
    with_reducible rfl
  rotate_left
  · simp only [Act.put, List.setIfInBounds_toArray, List.set_cons_zero, List.set_cons_succ, i64_w, i32_w]
    rfl
  refine take_ (i := 0) (N := some 23) (v := ?_) (a' := ?_) #[true, true, false, false, false, false, false, false, false] rfl rfl (by kernel_rfl) (fun _ _ _ h => h) (Or.inl ⟨by rfl, ?_⟩) hHeld ?_ ?_
  rotate_left
  · rintro w' ⟨s0, s1, s2, s3⟩
    go_simp
    with_reducible rfl
  rotate_left
  · simp only [Act.put, List.setIfInBounds_toArray, List.set_cons_zero, List.set_cons_succ, i64_w, i32_w]
    rfl
  refine one_ (i := 2) (N := some 25) #[true, true, true, false, false, false, false, false, false] rfl rfl (by kernel_rfl) (by decide) (fun K hK => ?_)
  refine goes_ Try.func9 (by kernel_rfl) rfl #[.slice A a.length c] (by rfl) rfl rfl (by simp only [List.map_toArray, List.map_cons, List.map_nil]; rfl) ?_
  with_reducible refine (own_calls (Kd.C_below RA.out (below_drew1 (Below.refl _ _))) hc HLA.out).mono ?_
  rintro e w1 ⟨V1, rfl, hv, hb⟩
  refine ⟨_, rfl, ?_⟩
  obtain ⟨A1, c1, rfl, hc1, hC1⟩ := Kd.R_reads hv
  have RX := Aside0.mk hC1
  clear hv hC1
  have n0_ := Aside0.mk (HB.out.trans ((below_step (below_drew1 (Below.refl (w.alloc (.cells #[.int .u64 (m : Int), .int .u64 (k : Int), .int .i64 mn, .int .i64 mx] 24)).heap.size (w.alloc (.cells #[.int .u64 (m : Int), .int .u64 (k : Int), .int .i64 mn, .int .i64 mx] 24)))) hb).mono HB.out.size))
  have n1_ := Aside0.mk (blk_below KC.out (below_step (below_drew1 (Below.refl (w.alloc (.cells #[.int .u64 (m : Int), .int .u64 (k : Int), .int .i64 mn, .int .i64 mx] 24)).heap.size (w.alloc (.cells #[.int .u64 (m : Int), .int .u64 (k : Int), .int .i64 mn, .int .i64 mx] 24)))) hb))
  have n2_ := Aside0.mk (Kd.C_below RA.out (below_step (below_drew1 (Below.refl (w.alloc (.cells #[.int .u64 (m : Int), .int .u64 (k : Int), .int .i64 mn, .int .i64 mx] 24)).heap.size (w.alloc (.cells #[.int .u64 (m : Int), .int .u64 (k : Int), .int .i64 mn, .int .i64 mx] 24)))) hb))
  have n3_ := Aside0.mk (Kd.C_below RB.out (below_step (below_drew1 (Below.refl (w.alloc (.cells #[.int .u64 (m : Int), .int .u64 (k : Int), .int .i64 mn, .int .i64 mx] 24)).heap.size (w.alloc (.cells #[.int .u64 (m : Int), .int .u64 (k : Int), .int .i64 mn, .int .i64 mx] 24)))) hb))
  clear hb HB KC RA RB
  have HB := n0_
  have KC := n1_
  have RA := n2_
  have RB := n3_
  clear n0_ n1_ n2_ n3_
  refine hK.out _ _ ⟨(blk_cell KC.out 0).trans rfl, (blk_cell KC.out 1).trans rfl, (blk_cell KC.out 2).trans rfl, (blk_cell KC.out 3).trans rfl⟩ (fun hHeld => ?_)
  clear hK K
  refine norm_ (a' := ?_) ?_ ?_
  rotate_left
  · show Act.put _ (some 25) _ = _
    simp only [Act.put, List.setIfInBounds_toArray, List.set_cons_zero, List.set_cons_succ, i64_w, i32_w]
    rfl
  refine one_ (i := 3) (N := some 26) #[true, true, true, true, false, false, false, false, false] rfl rfl (by kernel_rfl) (by decide) (fun K hK => ?_)
  refine goes_ Try.func10 (by kernel_rfl) rfl #[.agg #[.int .u64 (m : Int), .int .u64 (k : Int), .int .i64 mn, .int .i64 mx], .slice A1 a.length c1] (by rfl) rfl rfl (by simp only [List.map_toArray, List.map_cons, List.map_nil]; rfl) ?_
  with_reducible refine (lengths_no m k mn mx HUM.out HNO.out A1 a.length c1 _).mono ?_
  rintro e w2 ⟨rfl, hb⟩
  refine ⟨_, rfl, ?_⟩
  have n0_ := Aside0.mk (HB.out.trans ((hb).mono HB.out.size))
  have n1_ := Aside0.mk (blk_below KC.out (hb))
  have n2_ := Aside0.mk (Kd.C_below RA.out (hb))
  have n3_ := Aside0.mk (Kd.C_below RB.out (hb))
  clear hb HB KC RA RB
  have HB := n0_
  have KC := n1_
  have RA := n2_
  have RB := n3_
  clear n0_ n1_ n2_ n3_
  refine hK.out _ _ ⟨(blk_cell KC.out 0).trans rfl, (blk_cell KC.out 1).trans rfl, (blk_cell KC.out 2).trans rfl, (blk_cell KC.out 3).trans rfl⟩ (fun hHeld => ?_)
  clear hK K
  refine norm_ (a' := ?_) ?_ ?_
  rotate_left
  · show Act.put _ (some 26) _ = _
    simp only [Act.put, List.setIfInBounds_toArray, List.set_cons_zero, List.set_cons_succ, i64_w, i32_w]
    rfl
  refine pure_ (i := 4) (N := some 22) (v := ?_) (a' := ?_) #[true, true, true, true, true, false, false, false, false] rfl rfl (by kernel_rfl) (fun _ _ _ h => h) (Or.inl ⟨by rfl, ?_⟩) ?_ ?_
  rotate_left
  · intro w'
    go_simp
    with_reducible rfl
  rotate_left
  · simp only [Act.put, List.setIfInBounds_toArray, List.set_cons_zero, List.set_cons_succ, i64_w, i32_w]
    rfl
  refine pure_ (i := 5) (N := some 27) (v := ?_) (a' := ?_) #[true, true, true, true, true, true, false, false, false] rfl rfl (by kernel_rfl) (fun _ _ _ h => h) (Or.inl ⟨by rfl, ?_⟩) ?_ ?_
  rotate_left
  · intro w'
    go_simp
    with_reducible rfl
  rotate_left
  · simp only [Act.put, List.setIfInBounds_toArray, List.set_cons_zero, List.set_cons_succ, i64_w, i32_w]
    rfl
  refine pure_ (i := 6) (N := some 28) (v := ?_) (a' := ?_) #[true, true, true, true, true, true, true, false, false] rfl rfl (by kernel_rfl) (fun _ _ _ h => h) (Or.inl ⟨by rfl, ?_⟩) ?_ ?_
  rotate_left
  · intro w'
    go_simp
    with_reducible rfl
  rotate_left
  · simp only [Act.put, List.setIfInBounds_toArray, List.set_cons_zero, List.set_cons_succ, i64_w, i32_w]
    rfl
  refine pure_ (i := 7) (N := some 7) (v := ?_) (a' := ?_) #[true, true, true, true, true, true, true, true, false] rfl rfl (by kernel_rfl) (fun _ _ _ h => h) (Or.inl ⟨by rfl, ?_⟩) ?_ ?_
  rotate_left
  · intro w'
    go_simp
    with_reducible rfl
  rotate_left
  · simp only [Act.put, List.setIfInBounds_toArray, List.set_cons_zero, List.set_cons_succ, i64_w, i32_w]
    rfl
  refine pure_ (i := 8) (N := some 8) (v := ?_) (a' := ?_) #[true, true, true, true, true, true, true, true, true] rfl rfl (by kernel_rfl) (fun _ _ _ h => h) (Or.inl ⟨by rfl, ?_⟩) ?_ ?_
  rotate_left
  · intro w'
    go_simp
    with_reducible rfl
  rotate_left
  · simp only [Act.put, List.setIfInBounds_toArray, List.set_cons_zero, List.set_cons_succ, i64_w, i32_w]
    rfl
  refine done_ (by kernel_rfl) ?_
  go_wp2
  refine start_ (n := 11) (S := fun w' => w'.cell? ⟨w.heap.size, 0, none⟩ = some (.int .u64 (m : Int)) ∧ w'.cell? ⟨w.heap.size, 1, none⟩ = some (.int .u64 (k : Int)) ∧ w'.cell? ⟨w.heap.size, 2, none⟩ = some (.int .i64 mn) ∧ w'.cell? ⟨w.heap.size, 3, none⟩ = some (.int .i64 mx)) (ds := []) #[false, false, false, false, false, false, false, false, false, false, false] (by kernel_rfl) rfl rfl ⟨(blk_cell (w := (w2).drew) KC.out 0).trans rfl, (blk_cell (w := (w2).drew) KC.out 1).trans rfl, (blk_cell (w := (w2).drew) KC.out 2).trans rfl, (blk_cell (w := (w2).drew) KC.out 3).trans rfl⟩ (fun hHeld => ?_)
  refine pure_ (i := 1) (N := some 31) (v := ?_) (a' := ?_) #[false, true, false, false, false, false, false, false, false, false, false] rfl rfl (by kernel_rfl) (fun _ _ _ h => h) (Or.inl ⟨by rfl, ?_⟩) ?_ ?_
  rotate_left
  · intro w'
    go_simp
    with_reducible rfl
  rotate_left
  · simp only [Act.put, List.setIfInBounds_toArray, List.set_cons_zero, List.set_cons_succ, i64_w, i32_w]
    rfl
  refine pure_ (i := 3) (N := some 33) (v := ?_) (a' := ?_) #[false, true, false, true, false, false, false, false, false, false, false] rfl rfl (by kernel_rfl) (fun _ _ _ h => h) (Or.inl ⟨by rfl, ?_⟩) ?_ ?_
  rotate_left
  · intro w'
    go_simp
    with_reducible rfl
  rotate_left
  · simp only [Act.put, List.setIfInBounds_toArray, List.set_cons_zero, List.set_cons_succ, i64_w, i32_w]
    rfl
  refine take_ (i := 0) (N := some 30) (v := ?_) (a' := ?_) #[true, true, false, true, false, false, false, false, false, false, false] rfl rfl (by kernel_rfl) (fun _ _ _ h => h) (Or.inl ⟨by rfl, ?_⟩) hHeld ?_ ?_
  rotate_left
  · rintro w' ⟨s0, s1, s2, s3⟩
    go_simp
    with_reducible rfl
  rotate_left
  · simp only [Act.put, List.setIfInBounds_toArray, List.set_cons_zero, List.set_cons_succ, i64_w, i32_w]
    rfl
  refine one_ (i := 2) (N := some 32) #[true, true, true, true, false, false, false, false, false, false, false] rfl rfl (by kernel_rfl) (by decide) (fun K hK => ?_)
  refine goes_ Try.func9 (by kernel_rfl) rfl #[.slice A a.length c] (by rfl) rfl rfl (by simp only [List.map_toArray, List.map_cons, List.map_nil]; rfl) ?_
  with_reducible refine (own_calls (Kd.C_below RA.out (below_drew1 (Below.refl _ _))) hc HLA.out).mono ?_
  rintro e w3 ⟨V3, rfl, hv, hb⟩
  refine ⟨_, rfl, ?_⟩
  have HBw2 := Aside0.mk (below_step (below_drew1 (Below.refl w2.heap.size w2)) hb)
  have HBo := HB
  have KCo := KC
  have RAo := RA
  have RBo := RB
  have ORX := Aside0.mk hv
  have HBx := Aside0.mk (Below.refl w3.heap.size w3)
  clear hv
  have n0_ := Aside0.mk (HB.out.trans ((below_step (below_drew1 (Below.refl (w2).heap.size (w2))) hb).mono HB.out.size))
  have n1_ := Aside0.mk (blk_below KC.out (below_step (below_drew1 (Below.refl (w2).heap.size (w2))) hb))
  have n2_ := Aside0.mk (Kd.C_below RA.out (below_step (below_drew1 (Below.refl (w2).heap.size (w2))) hb))
  have n3_ := Aside0.mk (Kd.C_below RB.out (below_step (below_drew1 (Below.refl (w2).heap.size (w2))) hb))
  clear hb HB KC RA RB
  have HB := n0_
  have KC := n1_
  have RA := n2_
  have RB := n3_
  clear n0_ n1_ n2_ n3_
  refine hK.out _ _ ⟨(blk_cell KC.out 0).trans rfl, (blk_cell KC.out 1).trans rfl, (blk_cell KC.out 2).trans rfl, (blk_cell KC.out 3).trans rfl⟩ (fun hHeld => ?_)
  clear hK K
  refine norm_ (a' := ?_) ?_ ?_
  rotate_left
  · show Act.put _ (some 32) _ = _
    simp only [Act.put, List.setIfInBounds_toArray, List.set_cons_zero, List.set_cons_succ, i64_w, i32_w]
    rfl
  refine one_ (i := 4) (N := some 34) #[true, true, true, true, true, false, false, false, false, false, false] rfl rfl (by kernel_rfl) (by decide) (fun K hK => ?_)
  refine Kd.R_append_rows_step (Kd.int .u8) (w0 := w2) (W := w3) w2.heap.size (by rfl) (.tmp 32) (.tmp 33) 25 5 (.int .u8 0) 1 rfl Try.underlying25 info5 rfl (by decide) (by omega) V3 a b B b.length d (fun _ => True) (fun _ => False) rfl rfl ORX.out RB.out (fun _ _ h => h) (fun _ hk => hk.elim) (fun _ _ => trivial) HBw2.out HBw2.out.size (by have := HAB.out; omega) ?_
  intro v4 w4 ho hb4 hg hat
  rw [← HAZ.out] at ho
  obtain ⟨A4, c4, rfl, hc4, hC4⟩ := Kd.R_reads ho
  have RZ := Aside0.mk hC4
  have hb := Aside0.mk hb4
  have n0_ := Aside0.mk (HBo.out.trans (hb4.mono HBo.out.size))
  have n1_ := Aside0.mk (blk_below KCo.out hb4)
  have n2_ := Aside0.mk (Kd.C_below RAo.out hb4)
  have n3_ := Aside0.mk (Kd.C_below RBo.out hb4)
  clear ORX ho hg hat hC4 hb hb4 HBx HB KC RA RB
  have HB := n0_
  have KC := n1_
  have RA := n2_
  have RB := n3_
  clear n0_ n1_ n2_ n3_
  refine hK.out _ _ ⟨(blk_cell KC.out 0).trans rfl, (blk_cell KC.out 1).trans rfl, (blk_cell KC.out 2).trans rfl, (blk_cell KC.out 3).trans rfl⟩ (fun hHeld => ?_)
  clear hK K
  refine norm_ (a' := ?_) ?_ ?_
  rotate_left
  · show Act.put _ (some 34) _ = _
    simp only [Act.put, List.setIfInBounds_toArray, List.set_cons_zero, List.set_cons_succ, i64_w, i32_w]
    rfl
  refine one_ (i := 5) (N := some 35) #[true, true, true, true, true, true, false, false, false, false, false] rfl rfl (by kernel_rfl) (by decide) (fun K hK => ?_)
  refine goes_ Try.func10 (by kernel_rfl) rfl #[.agg #[.int .u64 (m : Int), .int .u64 (k : Int), .int .i64 mn, .int .i64 mx], .slice A4 az.length c4] (by rfl) rfl rfl (by simp only [List.map_toArray, List.map_cons, List.map_nil]; rfl) ?_
  with_reducible refine (lengths_no m k mn mx HUM.out HNO.out A4 az.length c4 _).mono ?_
  rintro e w5 ⟨rfl, hb⟩
  refine ⟨_, rfl, ?_⟩
  have n0_ := Aside0.mk (HB.out.trans ((hb).mono HB.out.size))
  have n1_ := Aside0.mk (blk_below KC.out (hb))
  have n2_ := Aside0.mk (Kd.C_below RA.out (hb))
  have n3_ := Aside0.mk (Kd.C_below RB.out (hb))
  clear hb HB KC RA RB
  have HB := n0_
  have KC := n1_
  have RA := n2_
  have RB := n3_
  clear n0_ n1_ n2_ n3_
  refine hK.out _ _ ⟨(blk_cell KC.out 0).trans rfl, (blk_cell KC.out 1).trans rfl, (blk_cell KC.out 2).trans rfl, (blk_cell KC.out 3).trans rfl⟩ (fun hHeld => ?_)
  clear hK K
  refine norm_ (a' := ?_) ?_ ?_
  rotate_left
  · show Act.put _ (some 35) _ = _
    simp only [Act.put, List.setIfInBounds_toArray, List.set_cons_zero, List.set_cons_succ, i64_w, i32_w]
    rfl
  refine pure_ (i := 6) (N := some 29) (v := ?_) (a' := ?_) #[true, true, true, true, true, true, true, false, false, false, false] rfl rfl (by kernel_rfl) (fun _ _ _ h => h) (Or.inl ⟨by rfl, ?_⟩) ?_ ?_
  rotate_left
  · intro w'
    go_simp
    with_reducible rfl
  rotate_left
  · simp only [Act.put, List.setIfInBounds_toArray, List.set_cons_zero, List.set_cons_succ, i64_w, i32_w]
    rfl
  refine pure_ (i := 7) (N := some 36) (v := ?_) (a' := ?_) #[true, true, true, true, true, true, true, true, false, false, false] rfl rfl (by kernel_rfl) (fun _ _ _ h => h) (Or.inl ⟨by rfl, ?_⟩) ?_ ?_
  rotate_left
  · intro w'
    go_simp
    with_reducible rfl
  rotate_left
  · simp only [Act.put, List.setIfInBounds_toArray, List.set_cons_zero, List.set_cons_succ, i64_w, i32_w]
    rfl
  refine pure_ (i := 8) (N := some 37) (v := ?_) (a' := ?_) #[true, true, true, true, true, true, true, true, true, false, false] rfl rfl (by kernel_rfl) (fun _ _ _ h => h) (Or.inl ⟨by rfl, ?_⟩) ?_ ?_
  rotate_left
  · intro w'
    go_simp
    with_reducible rfl
  rotate_left
  · simp only [Act.put, List.setIfInBounds_toArray, List.set_cons_zero, List.set_cons_succ, i64_w, i32_w]
    rfl
  refine pure_ (i := 9) (N := some 9) (v := ?_) (a' := ?_) #[true, true, true, true, true, true, true, true, true, true, false] rfl rfl (by kernel_rfl) (fun _ _ _ h => h) (Or.inl ⟨by rfl, ?_⟩) ?_ ?_
  rotate_left
  · intro w'
    go_simp
    with_reducible rfl
  rotate_left
  · simp only [Act.put, List.setIfInBounds_toArray, List.set_cons_zero, List.set_cons_succ, i64_w, i32_w]
    rfl
  refine pure_ (i := 10) (N := some 10) (v := ?_) (a' := ?_) #[true, true, true, true, true, true, true, true, true, true, true] rfl rfl (by kernel_rfl) (fun _ _ _ h => h) (Or.inl ⟨by rfl, ?_⟩) ?_ ?_
  rotate_left
  · intro w'
    go_simp
    with_reducible rfl
  rotate_left
  · simp only [Act.put, List.setIfInBounds_toArray, List.set_cons_zero, List.set_cons_succ, i64_w, i32_w]
    rfl
  refine done_ (by kernel_rfl) ?_
  go_wp2_with (go_at_call 8; with_reducible refine (awake_calls _).mono ?_; rintro e w9 ⟨rfl, hb⟩; have HB9 := Aside0.mk (below_step HB.out hb); clear hb)
  go_ret
  exact ⟨rfl, HB9.out⟩
set_option maxHeartbeats 4000000 in
set_option maxRecDepth 100000 in
theorem lo_nil (m k : Nat) (mn mx : Int) (ok : OkC m mn mx) (hk : U k) (A B : Option Addr) (c d : Nat) (a b : List Int) (w : World) (ha : Bytes a) (hb : Bytes b) (hra : Kd.C (Kd.int .u8) w A a.length a) (hrb : Kd.C (Kd.int .u8) w B b.length b) (hc : a.length ≤ c) (hd : b.length ≤ d) (hla : a.length ≤ 4000) (hlb : b.length ≤ 4000) (hnil : a = []) :
    Calls Try.prog 6 #[.agg #[.int .u64 (m : Int), .int .u64 (k : Int), .int .i64 mn, .int .i64 mx], .slice A a.length c, .slice B b.length d] w fun e w' => e = .returned (.bool true) ∧ Below w.heap.size w w' := by
  have hgt1 : decide ((4000 : Int) < (a.length : Int)) = false := decide_eq_false (by omega)
  have hgt2 : decide ((4000 : Int) < (b.length : Int)) = false := decide_eq_false (by omega)
  have HU := Aside0.mk hk
  have HBY := Aside0.mk ha
  have HLA := Aside0.mk (show a.length < 140737488355328 by omega)
  have HAB := Aside0.mk (show (a.length + b.length) * 1 ≤ 140737488355328 by omega)
  obtain ⟨az, haz⟩ : ∃ l : List Int, l = a ++ b := ⟨_, rfl⟩
  have HAZ := Aside0.mk haz
  have hzl : az.length ≤ 8000 := by rw [haz, List.length_append]; omega
  have HOK := Aside0.mk ok
  have hln := lens_len m k mn mx a.length a (Nat.le_refl _)
  have hlz := lens_len m k mn mx az.length az (Nat.le_refl _)
  have HLN := Aside0.mk (show (lens m k mn mx [] a).length ≤ 17592186044415 by omega)
  have HLZ := Aside0.mk (show (lens m k mn mx [] az).length ≤ 17592186044415 by omega)
  have HLB := Aside0.mk (show a.length ≤ 140737488351232 by omega)
  have HLBZ := Aside0.mk (show az.length ≤ 140737488351232 by omega)
  have HBYZ := Aside0.mk (show Bytes az from haz ▸ bytes_app ha hb)
  have HL0 := Aside0.mk (show lens m k mn mx [] a = [] by rw [hnil, lens, if_pos rfl])
  clear hnil
  have HB := Aside0.mk (below_alloc (Below.refl w.heap.size w) (.cells #[.int .u64 (m : Int), .int .u64 (k : Int), .int .i64 mn, .int .i64 mx] 24))
  have KC := Aside0.mk (heap_alloc_new w (.cells #[.int .u64 (m : Int), .int .u64 (k : Int), .int .i64 mn, .int .i64 mx] 24))
  have RA := Aside0.mk (Kd.C_below hra (below_alloc (Below.refl w.heap.size w) (.cells #[.int .u64 (m : Int), .int .u64 (k : Int), .int .i64 mn, .int .i64 mx] 24)))
  have RB := Aside0.mk (Kd.C_below hrb (below_alloc (Below.refl w.heap.size w) (.cells #[.int .u64 (m : Int), .int .u64 (k : Int), .int .i64 mn, .int .i64 mx] 24)))
  clear hk ha hb hra hrb hla hlb haz hzl ok hln hlz
  go_enter Try.func6, Try.ntmps6
  go_wp2
  refine start_ (n := 9) (S := fun w' => w'.cell? ⟨w.heap.size, 0, none⟩ = some (.int .u64 (m : Int)) ∧ w'.cell? ⟨w.heap.size, 1, none⟩ = some (.int .u64 (k : Int)) ∧ w'.cell? ⟨w.heap.size, 2, none⟩ = some (.int .i64 mn) ∧ w'.cell? ⟨w.heap.size, 3, none⟩ = some (.int .i64 mx)) (ds := []) #[false, false, false, false, false, false, false, false, false] (by kernel_rfl) rfl rfl ⟨(blk_cell (w := (w.alloc (.cells #[.int .u64 (m : Int), .int .u64 (k : Int), .int .i64 mn, .int .i64 mx] 24)).drew) KC.out 0).trans rfl, (blk_cell (w := (w.alloc (.cells #[.int .u64 (m : Int), .int .u64 (k : Int), .int .i64 mn, .int .i64 mx] 24)).drew) KC.out 1).trans rfl, (blk_cell (w := (w.alloc (.cells #[.int .u64 (m : Int), .int .u64 (k : Int), .int .i64 mn, .int .i64 mx] 24)).drew) KC.out 2).trans rfl, (blk_cell (w := (w.alloc (.cells #[.int .u64 (m : Int), .int .u64 (k : Int), .int .i64 mn, .int .i64 mx] 24)).drew) KC.out 3).trans rfl⟩ (fun hHeld => ?_)
  refine pure_ (i := 1) (N := some 24) (v := ?_) (a' := ?_) #[false, true, false, false, false, false, false, false, false] rfl rfl (by kernel_rfl) (fun _ _ _ h => h) (Or.inl ⟨by rfl, ?_⟩) ?_ ?_
  rotate_left
  · intro w'
    go_simp
    with_reducible rfl
  rotate_left
  · simp only [Act.put, List.setIfInBounds_toArray, List.set_cons_zero, List.set_cons_succ, i64_w, i32_w]
    rfl
  refine take_ (i := 0) (N := some 23) (v := ?_) (a' := ?_) #[true, true, false, false, false, false, false, false, false] rfl rfl (by kernel_rfl) (fun _ _ _ h => h) (Or.inl ⟨by rfl, ?_⟩) hHeld ?_ ?_
  rotate_left
  · rintro w' ⟨s0, s1, s2, s3⟩
    go_simp
    with_reducible rfl
  rotate_left
  · simp only [Act.put, List.setIfInBounds_toArray, List.set_cons_zero, List.set_cons_succ, i64_w, i32_w]
    rfl
  refine one_ (i := 2) (N := some 25) #[true, true, true, false, false, false, false, false, false] rfl rfl (by kernel_rfl) (by decide) (fun K hK => ?_)
  refine goes_ Try.func9 (by kernel_rfl) rfl #[.slice A a.length c] (by rfl) rfl rfl (by simp only [List.map_toArray, List.map_cons, List.map_nil]; rfl) ?_
  with_reducible refine (own_calls (Kd.C_below RA.out (below_drew1 (Below.refl _ _))) hc HLA.out).mono ?_
  rintro e w1 ⟨V1, rfl, hv, hb⟩
  refine ⟨_, rfl, ?_⟩
  obtain ⟨A1, c1, rfl, hc1, hC1⟩ := Kd.R_reads hv
  have RX := Aside0.mk hC1
  clear hv hC1
  have n0_ := Aside0.mk (HB.out.trans ((below_step (below_drew1 (Below.refl (w.alloc (.cells #[.int .u64 (m : Int), .int .u64 (k : Int), .int .i64 mn, .int .i64 mx] 24)).heap.size (w.alloc (.cells #[.int .u64 (m : Int), .int .u64 (k : Int), .int .i64 mn, .int .i64 mx] 24)))) hb).mono HB.out.size))
  have n1_ := Aside0.mk (blk_below KC.out (below_step (below_drew1 (Below.refl (w.alloc (.cells #[.int .u64 (m : Int), .int .u64 (k : Int), .int .i64 mn, .int .i64 mx] 24)).heap.size (w.alloc (.cells #[.int .u64 (m : Int), .int .u64 (k : Int), .int .i64 mn, .int .i64 mx] 24)))) hb))
  have n2_ := Aside0.mk (Kd.C_below RA.out (below_step (below_drew1 (Below.refl (w.alloc (.cells #[.int .u64 (m : Int), .int .u64 (k : Int), .int .i64 mn, .int .i64 mx] 24)).heap.size (w.alloc (.cells #[.int .u64 (m : Int), .int .u64 (k : Int), .int .i64 mn, .int .i64 mx] 24)))) hb))
  have n3_ := Aside0.mk (Kd.C_below RB.out (below_step (below_drew1 (Below.refl (w.alloc (.cells #[.int .u64 (m : Int), .int .u64 (k : Int), .int .i64 mn, .int .i64 mx] 24)).heap.size (w.alloc (.cells #[.int .u64 (m : Int), .int .u64 (k : Int), .int .i64 mn, .int .i64 mx] 24)))) hb))
  clear hb HB KC RA RB
  have HB := n0_
  have KC := n1_
  have RA := n2_
  have RB := n3_
  clear n0_ n1_ n2_ n3_
  refine hK.out _ _ ⟨(blk_cell KC.out 0).trans rfl, (blk_cell KC.out 1).trans rfl, (blk_cell KC.out 2).trans rfl, (blk_cell KC.out 3).trans rfl⟩ (fun hHeld => ?_)
  clear hK K
  refine norm_ (a' := ?_) ?_ ?_
  rotate_left
  · show Act.put _ (some 25) _ = _
    simp only [Act.put, List.setIfInBounds_toArray, List.set_cons_zero, List.set_cons_succ, i64_w, i32_w]
    rfl
  refine one_ (i := 3) (N := some 26) #[true, true, true, true, false, false, false, false, false] rfl rfl (by kernel_rfl) (by decide) (fun K hK => ?_)
  refine goes_ Try.func10 (by kernel_rfl) rfl #[.agg #[.int .u64 (m : Int), .int .u64 (k : Int), .int .i64 mn, .int .i64 mx], .slice A1 a.length c1] (by rfl) rfl rfl (by simp only [List.map_toArray, List.map_cons, List.map_nil]; rfl) ?_
  with_reducible refine (lengths_ok m k mn mx HOK.out HU.out A1 c1 a _ HBY.out RX.out hc1 HLN.out HLB.out).mono ?_
  rintro e w2 ⟨V2, rfl, hv, hb⟩
  refine ⟨_, rfl, ?_⟩
  obtain ⟨A2, c2, rfl⟩ := Kd.R_slice hv
  clear hv
  have n0_ := Aside0.mk (HB.out.trans ((hb).mono HB.out.size))
  have n1_ := Aside0.mk (blk_below KC.out (hb))
  have n2_ := Aside0.mk (Kd.C_below RA.out (hb))
  have n3_ := Aside0.mk (Kd.C_below RB.out (hb))
  clear hb HB KC RA RB
  have HB := n0_
  have KC := n1_
  have RA := n2_
  have RB := n3_
  clear n0_ n1_ n2_ n3_
  refine hK.out _ _ ⟨(blk_cell KC.out 0).trans rfl, (blk_cell KC.out 1).trans rfl, (blk_cell KC.out 2).trans rfl, (blk_cell KC.out 3).trans rfl⟩ (fun hHeld => ?_)
  clear hK K
  refine norm_ (a' := ?_) ?_ ?_
  rotate_left
  · show Act.put _ (some 26) _ = _
    simp only [Act.put, List.setIfInBounds_toArray, List.set_cons_zero, List.set_cons_succ, i64_w, i32_w]
    rfl
  refine pure_ (i := 4) (N := some 22) (v := ?_) (a' := ?_) #[true, true, true, true, true, false, false, false, false] rfl rfl (by kernel_rfl) (fun _ _ _ h => h) (Or.inl ⟨by rfl, ?_⟩) ?_ ?_
  rotate_left
  · intro w'
    go_simp
    with_reducible rfl
  rotate_left
  · simp only [Act.put, List.setIfInBounds_toArray, List.set_cons_zero, List.set_cons_succ, i64_w, i32_w]
    rfl
  refine pure_ (i := 5) (N := some 27) (v := ?_) (a' := ?_) #[true, true, true, true, true, true, false, false, false] rfl rfl (by kernel_rfl) (fun _ _ _ h => h) (Or.inl ⟨by rfl, ?_⟩) ?_ ?_
  rotate_left
  · intro w'
    go_simp
    with_reducible rfl
  rotate_left
  · simp only [Act.put, List.setIfInBounds_toArray, List.set_cons_zero, List.set_cons_succ, i64_w, i32_w]
    rfl
  refine pure_ (i := 6) (N := some 28) (v := ?_) (a' := ?_) #[true, true, true, true, true, true, true, false, false] rfl rfl (by kernel_rfl) (fun _ _ _ h => h) (Or.inl ⟨by rfl, ?_⟩) ?_ ?_
  rotate_left
  · intro w'
    go_simp
    with_reducible rfl
  rotate_left
  · simp only [Act.put, List.setIfInBounds_toArray, List.set_cons_zero, List.set_cons_succ, i64_w, i32_w]
    rfl
  refine pure_ (i := 7) (N := some 7) (v := ?_) (a' := ?_) #[true, true, true, true, true, true, true, true, false] rfl rfl (by kernel_rfl) (fun _ _ _ h => h) (Or.inl ⟨by rfl, ?_⟩) ?_ ?_
  rotate_left
  · intro w'
    go_simp
    with_reducible rfl
  rotate_left
  · simp only [Act.put, List.setIfInBounds_toArray, List.set_cons_zero, List.set_cons_succ, i64_w, i32_w]
    rfl
  refine pure_ (i := 8) (N := some 8) (v := ?_) (a' := ?_) #[true, true, true, true, true, true, true, true, true] rfl rfl (by kernel_rfl) (fun _ _ _ h => h) (Or.inl ⟨by rfl, ?_⟩) ?_ ?_
  rotate_left
  · intro w'
    go_simp
    with_reducible rfl
  rotate_left
  · simp only [Act.put, List.setIfInBounds_toArray, List.set_cons_zero, List.set_cons_succ, i64_w, i32_w]
    rfl
  refine done_ (by kernel_rfl) ?_
  go_wp2
  refine start_ (n := 11) (S := fun w' => w'.cell? ⟨w.heap.size, 0, none⟩ = some (.int .u64 (m : Int)) ∧ w'.cell? ⟨w.heap.size, 1, none⟩ = some (.int .u64 (k : Int)) ∧ w'.cell? ⟨w.heap.size, 2, none⟩ = some (.int .i64 mn) ∧ w'.cell? ⟨w.heap.size, 3, none⟩ = some (.int .i64 mx)) (ds := []) #[false, false, false, false, false, false, false, false, false, false, false] (by kernel_rfl) rfl rfl ⟨(blk_cell (w := (w2).drew) KC.out 0).trans rfl, (blk_cell (w := (w2).drew) KC.out 1).trans rfl, (blk_cell (w := (w2).drew) KC.out 2).trans rfl, (blk_cell (w := (w2).drew) KC.out 3).trans rfl⟩ (fun hHeld => ?_)
  refine pure_ (i := 1) (N := some 31) (v := ?_) (a' := ?_) #[false, true, false, false, false, false, false, false, false, false, false] rfl rfl (by kernel_rfl) (fun _ _ _ h => h) (Or.inl ⟨by rfl, ?_⟩) ?_ ?_
  rotate_left
  · intro w'
    go_simp
    with_reducible rfl
  rotate_left
  · simp only [Act.put, List.setIfInBounds_toArray, List.set_cons_zero, List.set_cons_succ, i64_w, i32_w]
    rfl
  refine pure_ (i := 3) (N := some 33) (v := ?_) (a' := ?_) #[false, true, false, true, false, false, false, false, false, false, false] rfl rfl (by kernel_rfl) (fun _ _ _ h => h) (Or.inl ⟨by rfl, ?_⟩) ?_ ?_
  rotate_left
  · intro w'
    go_simp
    with_reducible rfl
  rotate_left
  · simp only [Act.put, List.setIfInBounds_toArray, List.set_cons_zero, List.set_cons_succ, i64_w, i32_w]
    rfl
  refine take_ (i := 0) (N := some 30) (v := ?_) (a' := ?_) #[true, true, false, true, false, false, false, false, false, false, false] rfl rfl (by kernel_rfl) (fun _ _ _ h => h) (Or.inl ⟨by rfl, ?_⟩) hHeld ?_ ?_
  rotate_left
  · rintro w' ⟨s0, s1, s2, s3⟩
    go_simp
    with_reducible rfl
  rotate_left
  · simp only [Act.put, List.setIfInBounds_toArray, List.set_cons_zero, List.set_cons_succ, i64_w, i32_w]
    rfl
  refine one_ (i := 2) (N := some 32) #[true, true, true, true, false, false, false, false, false, false, false] rfl rfl (by kernel_rfl) (by decide) (fun K hK => ?_)
  refine goes_ Try.func9 (by kernel_rfl) rfl #[.slice A a.length c] (by rfl) rfl rfl (by simp only [List.map_toArray, List.map_cons, List.map_nil]; rfl) ?_
  with_reducible refine (own_calls (Kd.C_below RA.out (below_drew1 (Below.refl _ _))) hc HLA.out).mono ?_
  rintro e w3 ⟨V3, rfl, hv, hb⟩
  refine ⟨_, rfl, ?_⟩
  have HBw2 := Aside0.mk (below_step (below_drew1 (Below.refl w2.heap.size w2)) hb)
  have HBo := HB
  have KCo := KC
  have RAo := RA
  have RBo := RB
  have ORX := Aside0.mk hv
  have HBx := Aside0.mk (Below.refl w3.heap.size w3)
  clear hv
  have n0_ := Aside0.mk (HB.out.trans ((below_step (below_drew1 (Below.refl (w2).heap.size (w2))) hb).mono HB.out.size))
  have n1_ := Aside0.mk (blk_below KC.out (below_step (below_drew1 (Below.refl (w2).heap.size (w2))) hb))
  have n2_ := Aside0.mk (Kd.C_below RA.out (below_step (below_drew1 (Below.refl (w2).heap.size (w2))) hb))
  have n3_ := Aside0.mk (Kd.C_below RB.out (below_step (below_drew1 (Below.refl (w2).heap.size (w2))) hb))
  clear hb HB KC RA RB
  have HB := n0_
  have KC := n1_
  have RA := n2_
  have RB := n3_
  clear n0_ n1_ n2_ n3_
  refine hK.out _ _ ⟨(blk_cell KC.out 0).trans rfl, (blk_cell KC.out 1).trans rfl, (blk_cell KC.out 2).trans rfl, (blk_cell KC.out 3).trans rfl⟩ (fun hHeld => ?_)
  clear hK K
  refine norm_ (a' := ?_) ?_ ?_
  rotate_left
  · show Act.put _ (some 32) _ = _
    simp only [Act.put, List.setIfInBounds_toArray, List.set_cons_zero, List.set_cons_succ, i64_w, i32_w]
    rfl
  refine one_ (i := 4) (N := some 34) #[true, true, true, true, true, false, false, false, false, false, false] rfl rfl (by kernel_rfl) (by decide) (fun K hK => ?_)
  refine Kd.R_append_rows_step (Kd.int .u8) (w0 := w2) (W := w3) w2.heap.size (by rfl) (.tmp 32) (.tmp 33) 25 5 (.int .u8 0) 1 rfl Try.underlying25 info5 rfl (by decide) (by omega) V3 a b B b.length d (fun _ => True) (fun _ => False) rfl rfl ORX.out RB.out (fun _ _ h => h) (fun _ hk => hk.elim) (fun _ _ => trivial) HBw2.out HBw2.out.size (by have := HAB.out; omega) ?_
  intro v4 w4 ho hb4 hg hat
  rw [← HAZ.out] at ho
  obtain ⟨A4, c4, rfl, hc4, hC4⟩ := Kd.R_reads ho
  have RZ := Aside0.mk hC4
  have hb := Aside0.mk hb4
  have n0_ := Aside0.mk (HBo.out.trans (hb4.mono HBo.out.size))
  have n1_ := Aside0.mk (blk_below KCo.out hb4)
  have n2_ := Aside0.mk (Kd.C_below RAo.out hb4)
  have n3_ := Aside0.mk (Kd.C_below RBo.out hb4)
  clear ORX ho hg hat hC4 hb hb4 HBx HB KC RA RB
  have HB := n0_
  have KC := n1_
  have RA := n2_
  have RB := n3_
  clear n0_ n1_ n2_ n3_
  refine hK.out _ _ ⟨(blk_cell KC.out 0).trans rfl, (blk_cell KC.out 1).trans rfl, (blk_cell KC.out 2).trans rfl, (blk_cell KC.out 3).trans rfl⟩ (fun hHeld => ?_)
  clear hK K
  refine norm_ (a' := ?_) ?_ ?_
  rotate_left
  · show Act.put _ (some 34) _ = _
    simp only [Act.put, List.setIfInBounds_toArray, List.set_cons_zero, List.set_cons_succ, i64_w, i32_w]
    rfl
  refine one_ (i := 5) (N := some 35) #[true, true, true, true, true, true, false, false, false, false, false] rfl rfl (by kernel_rfl) (by decide) (fun K hK => ?_)
  refine goes_ Try.func10 (by kernel_rfl) rfl #[.agg #[.int .u64 (m : Int), .int .u64 (k : Int), .int .i64 mn, .int .i64 mx], .slice A4 az.length c4] (by rfl) rfl rfl (by simp only [List.map_toArray, List.map_cons, List.map_nil]; rfl) ?_
  with_reducible refine (lengths_ok m k mn mx HOK.out HU.out A4 c4 az _ HBYZ.out RZ.out hc4 HLZ.out HLBZ.out).mono ?_
  rintro e w5 ⟨V5, rfl, hv, hb⟩
  refine ⟨_, rfl, ?_⟩
  obtain ⟨A5, c5, rfl⟩ := Kd.R_slice hv
  clear hv
  have n0_ := Aside0.mk (HB.out.trans ((hb).mono HB.out.size))
  have n1_ := Aside0.mk (blk_below KC.out (hb))
  have n2_ := Aside0.mk (Kd.C_below RA.out (hb))
  have n3_ := Aside0.mk (Kd.C_below RB.out (hb))
  clear hb HB KC RA RB
  have HB := n0_
  have KC := n1_
  have RA := n2_
  have RB := n3_
  clear n0_ n1_ n2_ n3_
  refine hK.out _ _ ⟨(blk_cell KC.out 0).trans rfl, (blk_cell KC.out 1).trans rfl, (blk_cell KC.out 2).trans rfl, (blk_cell KC.out 3).trans rfl⟩ (fun hHeld => ?_)
  clear hK K
  refine norm_ (a' := ?_) ?_ ?_
  rotate_left
  · show Act.put _ (some 35) _ = _
    simp only [Act.put, List.setIfInBounds_toArray, List.set_cons_zero, List.set_cons_succ, i64_w, i32_w]
    rfl
  refine pure_ (i := 6) (N := some 29) (v := ?_) (a' := ?_) #[true, true, true, true, true, true, true, false, false, false, false] rfl rfl (by kernel_rfl) (fun _ _ _ h => h) (Or.inl ⟨by rfl, ?_⟩) ?_ ?_
  rotate_left
  · intro w'
    go_simp
    with_reducible rfl
  rotate_left
  · simp only [Act.put, List.setIfInBounds_toArray, List.set_cons_zero, List.set_cons_succ, i64_w, i32_w]
    rfl
  refine pure_ (i := 7) (N := some 36) (v := ?_) (a' := ?_) #[true, true, true, true, true, true, true, true, false, false, false] rfl rfl (by kernel_rfl) (fun _ _ _ h => h) (Or.inl ⟨by rfl, ?_⟩) ?_ ?_
  rotate_left
  · intro w'
    go_simp
    with_reducible rfl
  rotate_left
  · simp only [Act.put, List.setIfInBounds_toArray, List.set_cons_zero, List.set_cons_succ, i64_w, i32_w]
    rfl
  refine pure_ (i := 8) (N := some 37) (v := ?_) (a' := ?_) #[true, true, true, true, true, true, true, true, true, false, false] rfl rfl (by kernel_rfl) (fun _ _ _ h => h) (Or.inl ⟨by rfl, ?_⟩) ?_ ?_
  rotate_left
  · intro w'
    go_simp
    with_reducible rfl
  rotate_left
  · simp only [Act.put, List.setIfInBounds_toArray, List.set_cons_zero, List.set_cons_succ, i64_w, i32_w]
    rfl
  refine pure_ (i := 9) (N := some 9) (v := ?_) (a' := ?_) #[true, true, true, true, true, true, true, true, true, true, false] rfl rfl (by kernel_rfl) (fun _ _ _ h => h) (Or.inl ⟨by rfl, ?_⟩) ?_ ?_
  rotate_left
  · intro w'
    go_simp
    with_reducible rfl
  rotate_left
  · simp only [Act.put, List.setIfInBounds_toArray, List.set_cons_zero, List.set_cons_succ, i64_w, i32_w]
    rfl
  refine pure_ (i := 10) (N := some 10) (v := ?_) (a' := ?_) #[true, true, true, true, true, true, true, true, true, true, true] rfl rfl (by kernel_rfl) (fun _ _ _ h => h) (Or.inl ⟨by rfl, ?_⟩) ?_ ?_
  rotate_left
  · intro w'
    go_simp
    with_reducible rfl
  rotate_left
  · simp only [Act.put, List.setIfInBounds_toArray, List.set_cons_zero, List.set_cons_succ, i64_w, i32_w]
    rfl
  refine done_ (by kernel_rfl) ?_
  rw [HL0.out]
  go_wp2_with (go_at_call 8; with_reducible refine (awake_calls _).mono ?_; rintro e w9 ⟨rfl, hb⟩; have HB9 := Aside0.mk (below_step HB.out hb); clear hb)
  go_ret
  exact ⟨rfl, HB9.out⟩
set_option maxHeartbeats 4000000 in
set_option maxRecDepth 100000 in
theorem lo_ok (m k : Nat) (mn mx : Int) (ok : OkC m mn mx) (hk : U k) (A B : Option Addr) (c d : Nat) (a b : List Int) (w : World) (ha : Bytes a) (hb : Bytes b) (hra : Kd.C (Kd.int .u8) w A a.length a) (hrb : Kd.C (Kd.int .u8) w B b.length b) (hc : a.length ≤ c) (hd : b.length ≤ d) (hla : a.length ≤ 4000) (hlb : b.length ≤ 4000) (hne : a ≠ []) :
    Calls Try.prog 6 #[.agg #[.int .u64 (m : Int), .int .u64 (k : Int), .int .i64 mn, .int .i64 mx], .slice A a.length c, .slice B b.length d] w fun e w' => e = .returned (.bool true) ∧ Below w.heap.size w w' := by
  have hgt1 : decide ((4000 : Int) < (a.length : Int)) = false := decide_eq_false (by omega)
  have hgt2 : decide ((4000 : Int) < (b.length : Int)) = false := decide_eq_false (by omega)
  have HU := Aside0.mk hk
  have HBY := Aside0.mk ha
  have HLA := Aside0.mk (show a.length < 140737488355328 by omega)
  have HAB := Aside0.mk (show (a.length + b.length) * 1 ≤ 140737488355328 by omega)
  obtain ⟨az, haz⟩ : ∃ l : List Int, l = a ++ b := ⟨_, rfl⟩
  have HAZ := Aside0.mk haz
  have hzl : az.length ≤ 8000 := by rw [haz, List.length_append]; omega
  have HOK := Aside0.mk ok
  have hln := lens_len m k mn mx a.length a (Nat.le_refl _)
  have hlz := lens_len m k mn mx az.length az (Nat.le_refl _)
  have HLN := Aside0.mk (show (lens m k mn mx [] a).length ≤ 17592186044415 by omega)
  have HLZ := Aside0.mk (show (lens m k mn mx [] az).length ≤ 17592186044415 by omega)
  have HLB := Aside0.mk (show a.length ≤ 140737488351232 by omega)
  have HLBZ := Aside0.mk (show az.length ≤ 140737488351232 by omega)
  have HBYZ := Aside0.mk (show Bytes az from haz ▸ bytes_app ha hb)
  obtain ⟨pre, last, tail, h1, h2, h3⟩ := lens_local m k mn mx b a [] (.inr hne)
  rw [← haz] at h2
  have hpos : 0 < a.length := by cases a with | nil => exact absurd rfl hne | cons x a => rw [List.length_cons]; omega
  have h4 := lens_cons m k mn mx a hpos
  obtain ⟨f1, f2⟩ := first_le m k mn mx a hpos
  generalize hf : first m k mn mx a = f at *
  have HL1 := Aside0.mk h1
  have HL2 := Aside0.mk h2
  have HL4 := Aside0.mk h4
  have HTL := Aside0.mk (show 0 < tail.length by cases tail with | nil => exact absurd rfl h3 | cons x t => rw [List.length_cons]; omega)
  have HPL := Aside0.mk (show pre.length ≤ 4000 by have := hln; rw [h1, List.length_append, List.length_singleton] at this; omega)
  have HF := Aside0.mk (And.intro f1 f2)
  have HA4 := Aside0.mk hla
  have HB := Aside0.mk (below_alloc (Below.refl w.heap.size w) (.cells #[.int .u64 (m : Int), .int .u64 (k : Int), .int .i64 mn, .int .i64 mx] 24))
  have KC := Aside0.mk (heap_alloc_new w (.cells #[.int .u64 (m : Int), .int .u64 (k : Int), .int .i64 mn, .int .i64 mx] 24))
  have RA := Aside0.mk (Kd.C_below hra (below_alloc (Below.refl w.heap.size w) (.cells #[.int .u64 (m : Int), .int .u64 (k : Int), .int .i64 mn, .int .i64 mx] 24)))
  have RB := Aside0.mk (Kd.C_below hrb (below_alloc (Below.refl w.heap.size w) (.cells #[.int .u64 (m : Int), .int .u64 (k : Int), .int .i64 mn, .int .i64 mx] 24)))
  clear hk ha hb hra hrb hla hlb haz hzl ok hln hlz h1 h2 h3 hpos h4 f1 f2 hf hne
  go_enter Try.func6, Try.ntmps6
  go_wp2
  refine start_ (n := 9) (S := fun w' => w'.cell? ⟨w.heap.size, 0, none⟩ = some (.int .u64 (m : Int)) ∧ w'.cell? ⟨w.heap.size, 1, none⟩ = some (.int .u64 (k : Int)) ∧ w'.cell? ⟨w.heap.size, 2, none⟩ = some (.int .i64 mn) ∧ w'.cell? ⟨w.heap.size, 3, none⟩ = some (.int .i64 mx)) (ds := []) #[false, false, false, false, false, false, false, false, false] (by kernel_rfl) rfl rfl ⟨(blk_cell (w := (w.alloc (.cells #[.int .u64 (m : Int), .int .u64 (k : Int), .int .i64 mn, .int .i64 mx] 24)).drew) KC.out 0).trans rfl, (blk_cell (w := (w.alloc (.cells #[.int .u64 (m : Int), .int .u64 (k : Int), .int .i64 mn, .int .i64 mx] 24)).drew) KC.out 1).trans rfl, (blk_cell (w := (w.alloc (.cells #[.int .u64 (m : Int), .int .u64 (k : Int), .int .i64 mn, .int .i64 mx] 24)).drew) KC.out 2).trans rfl, (blk_cell (w := (w.alloc (.cells #[.int .u64 (m : Int), .int .u64 (k : Int), .int .i64 mn, .int .i64 mx] 24)).drew) KC.out 3).trans rfl⟩ (fun hHeld => ?_)
  refine pure_ (i := 1) (N := some 24) (v := ?_) (a' := ?_) #[false, true, false, false, false, false, false, false, false] rfl rfl (by kernel_rfl) (fun _ _ _ h => h) (Or.inl ⟨by rfl, ?_⟩) ?_ ?_
  rotate_left
  · intro w'
    go_simp
    with_reducible rfl
  rotate_left
  · simp only [Act.put, List.setIfInBounds_toArray, List.set_cons_zero, List.set_cons_succ, i64_w, i32_w]
    rfl
  refine take_ (i := 0) (N := some 23) (v := ?_) (a' := ?_) #[true, true, false, false, false, false, false, false, false] rfl rfl (by kernel_rfl) (fun _ _ _ h => h) (Or.inl ⟨by rfl, ?_⟩) hHeld ?_ ?_
  rotate_left
  · rintro w' ⟨s0, s1, s2, s3⟩
    go_simp
    with_reducible rfl
  rotate_left
  · simp only [Act.put, List.setIfInBounds_toArray, List.set_cons_zero, List.set_cons_succ, i64_w, i32_w]
    rfl
  refine one_ (i := 2) (N := some 25) #[true, true, true, false, false, false, false, false, false] rfl rfl (by kernel_rfl) (by decide) (fun K hK => ?_)
  refine goes_ Try.func9 (by kernel_rfl) rfl #[.slice A a.length c] (by rfl) rfl rfl (by simp only [List.map_toArray, List.map_cons, List.map_nil]; rfl) ?_
  with_reducible refine (own_calls (Kd.C_below RA.out (below_drew1 (Below.refl _ _))) hc HLA.out).mono ?_
  rintro e w1 ⟨V1, rfl, hv, hb⟩
  refine ⟨_, rfl, ?_⟩
  obtain ⟨A1, c1, rfl, hc1, hC1⟩ := Kd.R_reads hv
  have RX := Aside0.mk hC1
  clear hv hC1
  have n0_ := Aside0.mk (HB.out.trans ((below_step (below_drew1 (Below.refl (w.alloc (.cells #[.int .u64 (m : Int), .int .u64 (k : Int), .int .i64 mn, .int .i64 mx] 24)).heap.size (w.alloc (.cells #[.int .u64 (m : Int), .int .u64 (k : Int), .int .i64 mn, .int .i64 mx] 24)))) hb).mono HB.out.size))
  have n1_ := Aside0.mk (blk_below KC.out (below_step (below_drew1 (Below.refl (w.alloc (.cells #[.int .u64 (m : Int), .int .u64 (k : Int), .int .i64 mn, .int .i64 mx] 24)).heap.size (w.alloc (.cells #[.int .u64 (m : Int), .int .u64 (k : Int), .int .i64 mn, .int .i64 mx] 24)))) hb))
  have n2_ := Aside0.mk (Kd.C_below RA.out (below_step (below_drew1 (Below.refl (w.alloc (.cells #[.int .u64 (m : Int), .int .u64 (k : Int), .int .i64 mn, .int .i64 mx] 24)).heap.size (w.alloc (.cells #[.int .u64 (m : Int), .int .u64 (k : Int), .int .i64 mn, .int .i64 mx] 24)))) hb))
  have n3_ := Aside0.mk (Kd.C_below RB.out (below_step (below_drew1 (Below.refl (w.alloc (.cells #[.int .u64 (m : Int), .int .u64 (k : Int), .int .i64 mn, .int .i64 mx] 24)).heap.size (w.alloc (.cells #[.int .u64 (m : Int), .int .u64 (k : Int), .int .i64 mn, .int .i64 mx] 24)))) hb))
  clear hb HB KC RA RB
  have HB := n0_
  have KC := n1_
  have RA := n2_
  have RB := n3_
  clear n0_ n1_ n2_ n3_
  refine hK.out _ _ ⟨(blk_cell KC.out 0).trans rfl, (blk_cell KC.out 1).trans rfl, (blk_cell KC.out 2).trans rfl, (blk_cell KC.out 3).trans rfl⟩ (fun hHeld => ?_)
  clear hK K
  refine norm_ (a' := ?_) ?_ ?_
  rotate_left
  · show Act.put _ (some 25) _ = _
    simp only [Act.put, List.setIfInBounds_toArray, List.set_cons_zero, List.set_cons_succ, i64_w, i32_w]
    rfl
  refine one_ (i := 3) (N := some 26) #[true, true, true, true, false, false, false, false, false] rfl rfl (by kernel_rfl) (by decide) (fun K hK => ?_)
  refine goes_ Try.func10 (by kernel_rfl) rfl #[.agg #[.int .u64 (m : Int), .int .u64 (k : Int), .int .i64 mn, .int .i64 mx], .slice A1 a.length c1] (by rfl) rfl rfl (by simp only [List.map_toArray, List.map_cons, List.map_nil]; rfl) ?_
  with_reducible refine (lengths_ok m k mn mx HOK.out HU.out A1 c1 a _ HBY.out RX.out hc1 HLN.out HLB.out).mono ?_
  rintro e w2 ⟨V2, rfl, hv, hb⟩
  refine ⟨_, rfl, ?_⟩
  rw [HL1.out] at hv
  obtain ⟨g2, c2, rfl, _, _⟩ := Kd.R_form hv (by simp)
  have RL := Aside0.mk (Kd.R_reads' hv).2.2
  have hc2 := (Kd.R_reads' hv).2.1
  clear hv
  generalize hN2 : (pre ++ [last]).length = n2 at RL hc2 ⊢
  rw [List.length_append, List.length_singleton] at hN2
  have HN2 := Aside0.mk hN2
  have HC2 := Aside0.mk hc2
  clear hN2 hc2
  have n0_ := Aside0.mk (HB.out.trans ((hb).mono HB.out.size))
  have n1_ := Aside0.mk (blk_below KC.out (hb))
  have n2_ := Aside0.mk (Kd.C_below RA.out (hb))
  have n3_ := Aside0.mk (Kd.C_below RB.out (hb))
  clear hb HB KC RA RB
  have HB := n0_
  have KC := n1_
  have RA := n2_
  have RB := n3_
  clear n0_ n1_ n2_ n3_
  refine hK.out _ _ ⟨(blk_cell KC.out 0).trans rfl, (blk_cell KC.out 1).trans rfl, (blk_cell KC.out 2).trans rfl, (blk_cell KC.out 3).trans rfl⟩ (fun hHeld => ?_)
  clear hK K
  refine norm_ (a' := ?_) ?_ ?_
  rotate_left
  · show Act.put _ (some 26) _ = _
    simp only [Act.put, List.setIfInBounds_toArray, List.set_cons_zero, List.set_cons_succ, i64_w, i32_w]
    rfl
  refine pure_ (i := 4) (N := some 22) (v := ?_) (a' := ?_) #[true, true, true, true, true, false, false, false, false] rfl rfl (by kernel_rfl) (fun _ _ _ h => h) (Or.inl ⟨by rfl, ?_⟩) ?_ ?_
  rotate_left
  · intro w'
    go_simp
    with_reducible rfl
  rotate_left
  · simp only [Act.put, List.setIfInBounds_toArray, List.set_cons_zero, List.set_cons_succ, i64_w, i32_w]
    rfl
  refine pure_ (i := 5) (N := some 27) (v := ?_) (a' := ?_) #[true, true, true, true, true, true, false, false, false] rfl rfl (by kernel_rfl) (fun _ _ _ h => h) (Or.inl ⟨by rfl, ?_⟩) ?_ ?_
  rotate_left
  · intro w'
    go_simp
    with_reducible rfl
  rotate_left
  · simp only [Act.put, List.setIfInBounds_toArray, List.set_cons_zero, List.set_cons_succ, i64_w, i32_w]
    rfl
  refine pure_ (i := 6) (N := some 28) (v := ?_) (a' := ?_) #[true, true, true, true, true, true, true, false, false] rfl rfl (by kernel_rfl) (fun _ _ _ h => h) (Or.inl ⟨by rfl, ?_⟩) ?_ ?_
  rotate_left
  · intro w'
    go_simp
    with_reducible rfl
  rotate_left
  · simp only [Act.put, List.setIfInBounds_toArray, List.set_cons_zero, List.set_cons_succ, i64_w, i32_w]
    rfl
  refine pure_ (i := 7) (N := some 7) (v := ?_) (a' := ?_) #[true, true, true, true, true, true, true, true, false] rfl rfl (by kernel_rfl) (fun _ _ _ h => h) (Or.inl ⟨by rfl, ?_⟩) ?_ ?_
  rotate_left
  · intro w'
    go_simp
    with_reducible rfl
  rotate_left
  · simp only [Act.put, List.setIfInBounds_toArray, List.set_cons_zero, List.set_cons_succ, i64_w, i32_w]
    rfl
  refine pure_ (i := 8) (N := some 8) (v := ?_) (a' := ?_) #[true, true, true, true, true, true, true, true, true] rfl rfl (by kernel_rfl) (fun _ _ _ h => h) (Or.inl ⟨by rfl, ?_⟩) ?_ ?_
  rotate_left
  · intro w'
    go_simp
    with_reducible rfl
  rotate_left
  · simp only [Act.put, List.setIfInBounds_toArray, List.set_cons_zero, List.set_cons_succ, i64_w, i32_w]
    rfl
  refine done_ (by kernel_rfl) ?_
  go_wp2
  refine start_ (n := 11) (S := fun w' => w'.cell? ⟨w.heap.size, 0, none⟩ = some (.int .u64 (m : Int)) ∧ w'.cell? ⟨w.heap.size, 1, none⟩ = some (.int .u64 (k : Int)) ∧ w'.cell? ⟨w.heap.size, 2, none⟩ = some (.int .i64 mn) ∧ w'.cell? ⟨w.heap.size, 3, none⟩ = some (.int .i64 mx)) (ds := []) #[false, false, false, false, false, false, false, false, false, false, false] (by kernel_rfl) rfl rfl ⟨(blk_cell (w := (w2).drew) KC.out 0).trans rfl, (blk_cell (w := (w2).drew) KC.out 1).trans rfl, (blk_cell (w := (w2).drew) KC.out 2).trans rfl, (blk_cell (w := (w2).drew) KC.out 3).trans rfl⟩ (fun hHeld => ?_)
  refine pure_ (i := 1) (N := some 31) (v := ?_) (a' := ?_) #[false, true, false, false, false, false, false, false, false, false, false] rfl rfl (by kernel_rfl) (fun _ _ _ h => h) (Or.inl ⟨by rfl, ?_⟩) ?_ ?_
  rotate_left
  · intro w'
    go_simp
    with_reducible rfl
  rotate_left
  · simp only [Act.put, List.setIfInBounds_toArray, List.set_cons_zero, List.set_cons_succ, i64_w, i32_w]
    rfl
  refine pure_ (i := 3) (N := some 33) (v := ?_) (a' := ?_) #[false, true, false, true, false, false, false, false, false, false, false] rfl rfl (by kernel_rfl) (fun _ _ _ h => h) (Or.inl ⟨by rfl, ?_⟩) ?_ ?_
  rotate_left
  · intro w'
    go_simp
    with_reducible rfl
  rotate_left
  · simp only [Act.put, List.setIfInBounds_toArray, List.set_cons_zero, List.set_cons_succ, i64_w, i32_w]
    rfl
  refine take_ (i := 0) (N := some 30) (v := ?_) (a' := ?_) #[true, true, false, true, false, false, false, false, false, false, false] rfl rfl (by kernel_rfl) (fun _ _ _ h => h) (Or.inl ⟨by rfl, ?_⟩) hHeld ?_ ?_
  rotate_left
  · rintro w' ⟨s0, s1, s2, s3⟩
    go_simp
    with_reducible rfl
  rotate_left
  · simp only [Act.put, List.setIfInBounds_toArray, List.set_cons_zero, List.set_cons_succ, i64_w, i32_w]
    rfl
  refine one_ (i := 2) (N := some 32) #[true, true, true, true, false, false, false, false, false, false, false] rfl rfl (by kernel_rfl) (by decide) (fun K hK => ?_)
  refine goes_ Try.func9 (by kernel_rfl) rfl #[.slice A a.length c] (by rfl) rfl rfl (by simp only [List.map_toArray, List.map_cons, List.map_nil]; rfl) ?_
  with_reducible refine (own_calls (Kd.C_below RA.out (below_drew1 (Below.refl _ _))) hc HLA.out).mono ?_
  rintro e w3 ⟨V3, rfl, hv, hb⟩
  refine ⟨_, rfl, ?_⟩
  have HBw2 := Aside0.mk (below_step (below_drew1 (Below.refl w2.heap.size w2)) hb)
  have HBo := HB
  have KCo := KC
  have RAo := RA
  have RBo := RB
  have RLo := RL
  have ORX := Aside0.mk hv
  have HBx := Aside0.mk (Below.refl w3.heap.size w3)
  clear hv
  have n0_ := Aside0.mk (HB.out.trans ((below_step (below_drew1 (Below.refl (w2).heap.size (w2))) hb).mono HB.out.size))
  have n1_ := Aside0.mk (blk_below KC.out (below_step (below_drew1 (Below.refl (w2).heap.size (w2))) hb))
  have n2_ := Aside0.mk (Kd.C_below RA.out (below_step (below_drew1 (Below.refl (w2).heap.size (w2))) hb))
  have n3_ := Aside0.mk (Kd.C_below RB.out (below_step (below_drew1 (Below.refl (w2).heap.size (w2))) hb))
  have n4_ := Aside0.mk (Kd.C_below RL.out (below_step (below_drew1 (Below.refl (w2).heap.size (w2))) hb))
  clear hb HB KC RA RB RL
  have HB := n0_
  have KC := n1_
  have RA := n2_
  have RB := n3_
  have RL := n4_
  clear n0_ n1_ n2_ n3_ n4_
  refine hK.out _ _ ⟨(blk_cell KC.out 0).trans rfl, (blk_cell KC.out 1).trans rfl, (blk_cell KC.out 2).trans rfl, (blk_cell KC.out 3).trans rfl⟩ (fun hHeld => ?_)
  clear hK K
  refine norm_ (a' := ?_) ?_ ?_
  rotate_left
  · show Act.put _ (some 32) _ = _
    simp only [Act.put, List.setIfInBounds_toArray, List.set_cons_zero, List.set_cons_succ, i64_w, i32_w]
    rfl
  refine one_ (i := 4) (N := some 34) #[true, true, true, true, true, false, false, false, false, false, false] rfl rfl (by kernel_rfl) (by decide) (fun K hK => ?_)
  refine Kd.R_append_rows_step (Kd.int .u8) (w0 := w2) (W := w3) w2.heap.size (by rfl) (.tmp 32) (.tmp 33) 25 5 (.int .u8 0) 1 rfl Try.underlying25 info5 rfl (by decide) (by omega) V3 a b B b.length d (fun _ => True) (fun _ => False) rfl rfl ORX.out RB.out (fun _ _ h => h) (fun _ hk => hk.elim) (fun _ _ => trivial) HBw2.out HBw2.out.size (by have := HAB.out; omega) ?_
  intro v4 w4 ho hb4 hg hat
  rw [← HAZ.out] at ho
  obtain ⟨A4, c4, rfl, hc4, hC4⟩ := Kd.R_reads ho
  have RZ := Aside0.mk hC4
  have hb := Aside0.mk hb4
  have n0_ := Aside0.mk (HBo.out.trans (hb4.mono HBo.out.size))
  have n1_ := Aside0.mk (blk_below KCo.out hb4)
  have n2_ := Aside0.mk (Kd.C_below RAo.out hb4)
  have n3_ := Aside0.mk (Kd.C_below RBo.out hb4)
  have n4_ := Aside0.mk (Kd.C_below RLo.out hb4)
  clear ORX ho hg hat hC4 hb hb4 HBx HB KC RA RB RL
  have HB := n0_
  have KC := n1_
  have RA := n2_
  have RB := n3_
  have RL := n4_
  clear n0_ n1_ n2_ n3_ n4_
  refine hK.out _ _ ⟨(blk_cell KC.out 0).trans rfl, (blk_cell KC.out 1).trans rfl, (blk_cell KC.out 2).trans rfl, (blk_cell KC.out 3).trans rfl⟩ (fun hHeld => ?_)
  clear hK K
  refine norm_ (a' := ?_) ?_ ?_
  rotate_left
  · show Act.put _ (some 34) _ = _
    simp only [Act.put, List.setIfInBounds_toArray, List.set_cons_zero, List.set_cons_succ, i64_w, i32_w]
    rfl
  refine one_ (i := 5) (N := some 35) #[true, true, true, true, true, true, false, false, false, false, false] rfl rfl (by kernel_rfl) (by decide) (fun K hK => ?_)
  refine goes_ Try.func10 (by kernel_rfl) rfl #[.agg #[.int .u64 (m : Int), .int .u64 (k : Int), .int .i64 mn, .int .i64 mx], .slice A4 az.length c4] (by rfl) rfl rfl (by simp only [List.map_toArray, List.map_cons, List.map_nil]; rfl) ?_
  with_reducible refine (lengths_ok m k mn mx HOK.out HU.out A4 c4 az _ HBYZ.out RZ.out hc4 HLZ.out HLBZ.out).mono ?_
  rintro e w5 ⟨V5, rfl, hv, hb⟩
  refine ⟨_, rfl, ?_⟩
  rw [HL2.out] at hv
  obtain ⟨g5, c5, rfl, _, _⟩ := Kd.R_form hv (by rw [List.length_append]; exact Nat.lt_of_lt_of_le HTL.out (Nat.le_add_left _ _))
  have RM := Aside0.mk (Kd.R_reads' hv).2.2
  have hc5 := (Kd.R_reads' hv).2.1
  clear hv
  generalize hN5 : (pre ++ tail).length = n5 at RM hc5 ⊢
  rw [List.length_append] at hN5
  have HN5 := Aside0.mk hN5
  have HC5 := Aside0.mk hc5
  clear hN5 hc5
  have n0_ := Aside0.mk (HB.out.trans ((hb).mono HB.out.size))
  have n1_ := Aside0.mk (blk_below KC.out (hb))
  have n2_ := Aside0.mk (Kd.C_below RA.out (hb))
  have n3_ := Aside0.mk (Kd.C_below RB.out (hb))
  have n4_ := Aside0.mk (Kd.C_below RL.out (hb))
  clear hb HB KC RA RB RL
  have HB := n0_
  have KC := n1_
  have RA := n2_
  have RB := n3_
  have RL := n4_
  clear n0_ n1_ n2_ n3_ n4_
  refine hK.out _ _ ⟨(blk_cell KC.out 0).trans rfl, (blk_cell KC.out 1).trans rfl, (blk_cell KC.out 2).trans rfl, (blk_cell KC.out 3).trans rfl⟩ (fun hHeld => ?_)
  clear hK K
  refine norm_ (a' := ?_) ?_ ?_
  rotate_left
  · show Act.put _ (some 35) _ = _
    simp only [Act.put, List.setIfInBounds_toArray, List.set_cons_zero, List.set_cons_succ, i64_w, i32_w]
    rfl
  refine pure_ (i := 6) (N := some 29) (v := ?_) (a' := ?_) #[true, true, true, true, true, true, true, false, false, false, false] rfl rfl (by kernel_rfl) (fun _ _ _ h => h) (Or.inl ⟨by rfl, ?_⟩) ?_ ?_
  rotate_left
  · intro w'
    go_simp
    with_reducible rfl
  rotate_left
  · simp only [Act.put, List.setIfInBounds_toArray, List.set_cons_zero, List.set_cons_succ, i64_w, i32_w]
    rfl
  refine pure_ (i := 7) (N := some 36) (v := ?_) (a' := ?_) #[true, true, true, true, true, true, true, true, false, false, false] rfl rfl (by kernel_rfl) (fun _ _ _ h => h) (Or.inl ⟨by rfl, ?_⟩) ?_ ?_
  rotate_left
  · intro w'
    go_simp
    with_reducible rfl
  rotate_left
  · simp only [Act.put, List.setIfInBounds_toArray, List.set_cons_zero, List.set_cons_succ, i64_w, i32_w]
    rfl
  refine pure_ (i := 8) (N := some 37) (v := ?_) (a' := ?_) #[true, true, true, true, true, true, true, true, true, false, false] rfl rfl (by kernel_rfl) (fun _ _ _ h => h) (Or.inl ⟨by rfl, ?_⟩) ?_ ?_
  rotate_left
  · intro w'
    go_simp
    with_reducible rfl
  rotate_left
  · simp only [Act.put, List.setIfInBounds_toArray, List.set_cons_zero, List.set_cons_succ, i64_w, i32_w]
    rfl
  refine pure_ (i := 9) (N := some 9) (v := ?_) (a' := ?_) #[true, true, true, true, true, true, true, true, true, true, false] rfl rfl (by kernel_rfl) (fun _ _ _ h => h) (Or.inl ⟨by rfl, ?_⟩) ?_ ?_
  rotate_left
  · intro w'
    go_simp
    with_reducible rfl
  rotate_left
  · simp only [Act.put, List.setIfInBounds_toArray, List.set_cons_zero, List.set_cons_succ, i64_w, i32_w]
    rfl
  refine pure_ (i := 10) (N := some 10) (v := ?_) (a' := ?_) #[true, true, true, true, true, true, true, true, true, true, true] rfl rfl (by kernel_rfl) (fun _ _ _ h => h) (Or.inl ⟨by rfl, ?_⟩) ?_ ?_
  rotate_left
  · intro w'
    go_simp
    with_reducible rfl
  rotate_left
  · simp only [Act.put, List.setIfInBounds_toArray, List.set_cons_zero, List.set_cons_succ, i64_w, i32_w]
    rfl
  refine done_ (by kernel_rfl) ?_
  have qz := n_ne HN2.out
  go_wp2
  obtain ⟨q1, q2, q3, q4, q5, q6, q7, q8⟩ := q_nine HN2.out HN5.out HTL.out HC2.out HC5.out HPL.out
  refine start_ (n := 19) (S := fun w' => True) (ds := []) #[false, false, false, false, false, false, false, false, false, false, false, false, false, false, false, false, false, false, false] (by kernel_rfl) rfl rfl trivial (fun hHeld => ?_)
  refine pure_ (i := 0) (N := some 64) (v := ?_) (a' := ?_) #[true, false, false, false, false, false, false, false, false, false, false, false, false, false, false, false, false, false, false] rfl rfl (by kernel_rfl) (fun _ _ _ h => h) (Or.inl ⟨by rfl, ?_⟩) ?_ ?_
  rotate_left
  · intro w'
    go_simp
    with_reducible rfl
  rotate_left
  · simp only [Act.put, List.setIfInBounds_toArray, List.set_cons_zero, List.set_cons_succ, i64_w, i32_w]
    rfl
  refine pure_ (i := 1) (N := some 65) (v := ?_) (a' := ?_) #[true, true, false, false, false, false, false, false, false, false, false, false, false, false, false, false, false, false, false] rfl rfl (by kernel_rfl) (fun _ _ _ h => h) (Or.inl ⟨by rfl, ?_⟩) ?_ ?_
  rotate_left
  · intro w'
    go_simp
    with_reducible rfl
  rotate_left
  · simp only [Act.put, List.setIfInBounds_toArray, List.set_cons_zero, List.set_cons_succ, i64_w, i32_w]
    rfl
  refine pure_ (i := 2) (N := some 66) (v := ?_) (a' := ?_) #[true, true, true, false, false, false, false, false, false, false, false, false, false, false, false, false, false, false, false] rfl rfl (by kernel_rfl) (fun _ _ _ h => h) (Or.inl ⟨by rfl, ?_⟩) ?_ ?_
  rotate_left
  · intro w'
    go_simp
    with_reducible rfl
  rotate_left
  · simp only [Act.put, List.setIfInBounds_toArray, List.set_cons_zero, List.set_cons_succ, i64_w, i32_w]
    rfl
  refine pure_ (i := 3) (N := some 67) (v := ?_) (a' := ?_) #[true, true, true, true, false, false, false, false, false, false, false, false, false, false, false, false, false, false, false] rfl rfl (by kernel_rfl) (fun _ _ _ h => h) (Or.inl ⟨by rfl, ?_⟩) ?_ ?_
  rotate_left
  · intro w'
    go_simp
    with_reducible rfl
  rotate_left
  · simp only [Act.put, List.setIfInBounds_toArray, List.set_cons_zero, List.set_cons_succ, i64_w, i32_w]
    rfl
  refine pure_ (i := 4) (N := some 68) (v := ?_) (a' := ?_) #[true, true, true, true, true, false, false, false, false, false, false, false, false, false, false, false, false, false, false] rfl rfl (by kernel_rfl) (fun _ _ _ h => h) (Or.inl ⟨by rfl, ?_⟩) ?_ ?_
  rotate_left
  · intro w'
    go_simp
    with_reducible rfl
  rotate_left
  · simp only [Act.put, List.setIfInBounds_toArray, List.set_cons_zero, List.set_cons_succ, i64_w, i32_w]
    rfl
  refine pure_ (i := 5) (N := some 69) (v := ?_) (a' := ?_) #[true, true, true, true, true, true, false, false, false, false, false, false, false, false, false, false, false, false, false] rfl rfl (by kernel_rfl) (fun _ _ _ h => h) (Or.inl ⟨by rfl, ?_⟩) ?_ ?_
  rotate_left
  · intro w'
    go_simp
    with_reducible rfl
  rotate_left
  · simp only [Act.put, List.setIfInBounds_toArray, List.set_cons_zero, List.set_cons_succ, i64_w, i32_w]
    rfl
  refine pure_ (i := 6) (N := some 70) (v := ?_) (a' := ?_) #[true, true, true, true, true, true, true, false, false, false, false, false, false, false, false, false, false, false, false] rfl rfl (by kernel_rfl) (fun _ _ _ h => h) (Or.inl ⟨by rfl, ?_⟩) ?_ ?_
  rotate_left
  · intro w'
    go_simp
    with_reducible rfl
  rotate_left
  · simp only [Act.put, List.setIfInBounds_toArray, List.set_cons_zero, List.set_cons_succ, i64_w, i32_w]
    rfl
  refine pure_ (i := 7) (N := some 71) (v := ?_) (a' := ?_) #[true, true, true, true, true, true, true, true, false, false, false, false, false, false, false, false, false, false, false] rfl rfl (by kernel_rfl) (fun _ _ _ h => h) (Or.inl ⟨by rfl, ?_⟩) ?_ ?_
  rotate_left
  · intro w'
    go_simp
    with_reducible rfl
  rotate_left
  · simp only [Act.put, List.setIfInBounds_toArray, List.set_cons_zero, List.set_cons_succ, i64_w, i32_w]
    rfl
  refine pure_ (i := 8) (N := some 72) (v := ?_) (a' := ?_) #[true, true, true, true, true, true, true, true, true, false, false, false, false, false, false, false, false, false, false] rfl rfl (by kernel_rfl) (fun _ _ _ h => h) (Or.inl ⟨by rfl, ?_⟩) ?_ ?_
  rotate_left
  · intro w'
    go_simp
    with_reducible rfl
  rotate_left
  · simp only [Act.put, List.setIfInBounds_toArray, List.set_cons_zero, List.set_cons_succ, i64_w, i32_w]
    rfl
  refine pure_ (i := 9) (N := some 73) (v := ?_) (a' := ?_) #[true, true, true, true, true, true, true, true, true, true, false, false, false, false, false, false, false, false, false] rfl rfl (by kernel_rfl) (fun _ _ _ h => h) (Or.inl ⟨by rfl, ?_⟩) ?_ ?_
  rotate_left
  · intro w'
    go_simp
    with_reducible rfl
  rotate_left
  · simp only [Act.put, List.setIfInBounds_toArray, List.set_cons_zero, List.set_cons_succ, i64_w, i32_w]
    rfl
  refine pure_ (i := 10) (N := some 74) (v := ?_) (a' := ?_) #[true, true, true, true, true, true, true, true, true, true, true, false, false, false, false, false, false, false, false] rfl rfl (by kernel_rfl) (fun _ _ _ h => h) (Or.inl ⟨by rfl, ?_⟩) ?_ ?_
  rotate_left
  · intro w'
    go_simp
    with_reducible rfl
  rotate_left
  · simp only [Act.put, List.setIfInBounds_toArray, List.set_cons_zero, List.set_cons_succ, i64_w, i32_w]
    rfl
  refine pure_ (i := 11) (N := some 75) (v := ?_) (a' := ?_) #[true, true, true, true, true, true, true, true, true, true, true, true, false, false, false, false, false, false, false] rfl rfl (by kernel_rfl) (fun _ _ _ h => h) (Or.inl ⟨by rfl, ?_⟩) ?_ ?_
  rotate_left
  · intro w'
    go_simp
    with_reducible rfl
  rotate_left
  · simp only [Act.put, List.setIfInBounds_toArray, List.set_cons_zero, List.set_cons_succ, i64_w, i32_w]
    rfl
  refine pure_ (i := 12) (N := some 76) (v := ?_) (a' := ?_) #[true, true, true, true, true, true, true, true, true, true, true, true, true, false, false, false, false, false, false] rfl rfl (by kernel_rfl) (fun _ _ _ h => h) (Or.inl ⟨by rfl, ?_⟩) ?_ ?_
  rotate_left
  · intro w'
    go_simp
    with_reducible rfl
  rotate_left
  · simp only [Act.put, List.setIfInBounds_toArray, List.set_cons_zero, List.set_cons_succ, i64_w, i32_w]
    rfl
  refine pure_ (i := 13) (N := some 77) (v := ?_) (a' := ?_) #[true, true, true, true, true, true, true, true, true, true, true, true, true, true, false, false, false, false, false] rfl rfl (by kernel_rfl) (fun _ _ _ h => h) (Or.inl ⟨by rfl, ?_⟩) ?_ ?_
  rotate_left
  · intro w'
    go_simp
    with_reducible rfl
  rotate_left
  · simp only [Act.put, List.setIfInBounds_toArray, List.set_cons_zero, List.set_cons_succ, i64_w, i32_w]
    rfl
  refine pure_ (i := 14) (N := some 78) (v := ?_) (a' := ?_) #[true, true, true, true, true, true, true, true, true, true, true, true, true, true, true, false, false, false, false] rfl rfl (by kernel_rfl) (fun _ _ _ h => h) (Or.inl ⟨by rfl, ?_⟩) ?_ ?_
  rotate_left
  · intro w'
    go_simp
    with_reducible rfl
  rotate_left
  · simp only [Act.put, List.setIfInBounds_toArray, List.set_cons_zero, List.set_cons_succ, i64_w, i32_w]
    rfl
  refine pure_ (i := 15) (N := some 79) (v := ?_) (a' := ?_) #[true, true, true, true, true, true, true, true, true, true, true, true, true, true, true, true, false, false, false] rfl rfl (by kernel_rfl) (fun _ _ _ h => h) (Or.inl ⟨by rfl, ?_⟩) ?_ ?_
  rotate_left
  · intro w'
    go_simp
    with_reducible rfl
  rotate_left
  · simp only [Act.put, List.setIfInBounds_toArray, List.set_cons_zero, List.set_cons_succ, i64_w, i32_w]
    rfl
  refine one_ (i := 16) (N := some 80) #[true, true, true, true, true, true, true, true, true, true, true, true, true, true, true, true, true, false, false] rfl rfl (by kernel_rfl) (by decide) (fun K hK => ?_)
  refine goes_ Try.func13 (by kernel_rfl) rfl #[.slice (some ⟨g2, 0, none⟩) pre.length c2, .slice (some ⟨g5, 0, none⟩) pre.length c5] (by rfl) rfl rfl (by simp only [List.map_toArray, List.map_cons, List.map_nil]; rfl) ?_
  with_reducible refine (same_calls (l := pre) (Kd.C_below (C_pre RL.out) (below_drew1 (Below.refl _ _))) (Nat.le_trans (by rw [← HN2.out]; exact Nat.le_succ _) HC2.out) (Kd.C_below (C_pre RM.out) (below_drew1 (Below.refl _ _))) (Nat.le_trans (by rw [← HN5.out]; exact Nat.le_add_right _ _) HC5.out) (Nat.le_trans HPL.out (by decide))).mono ?_
  rintro e w6 ⟨rfl, ⟨nd, rfl⟩⟩
  refine ⟨_, rfl, ?_⟩
  refine hK.out _ _ trivial (fun hHeld => ?_)
  clear hK K
  refine norm_ (a' := ?_) ?_ ?_
  rotate_left
  · show Act.put _ (some 80) _ = _
    simp only [Act.put, List.setIfInBounds_toArray, List.set_cons_zero, List.set_cons_succ, i64_w, i32_w]
    rfl
  refine pure_ (i := 17) (N := some 81) (v := ?_) (a' := ?_) #[true, true, true, true, true, true, true, true, true, true, true, true, true, true, true, true, true, true, false] rfl rfl (by kernel_rfl) (fun _ _ _ h => h) (Or.inl ⟨by rfl, ?_⟩) ?_ ?_
  rotate_left
  · intro w'
    go_simp
    with_reducible rfl
  rotate_left
  · simp only [Act.put, List.setIfInBounds_toArray, List.set_cons_zero, List.set_cons_succ, i64_w, i32_w]
    rfl
  refine pure_ (i := 18) (N := some 82) (v := ?_) (a' := ?_) #[true, true, true, true, true, true, true, true, true, true, true, true, true, true, true, true, true, true, true] rfl rfl (by kernel_rfl) (fun _ _ _ h => h) (Or.inl ⟨by rfl, ?_⟩) ?_ ?_
  rotate_left
  · intro w'
    go_simp
    with_reducible rfl
  rotate_left
  · simp only [Act.put, List.setIfInBounds_toArray, List.set_cons_zero, List.set_cons_succ, i64_w, i32_w]
    rfl
  refine done_ (by kernel_rfl) ?_
  have hb : Below w5.heap.size w5 (w5.drew.drewN nd) := pw_below_drewN (below_drew1 (Below.refl _ _)) nd
  have n0_ := Aside0.mk (HB.out.trans ((hb).mono HB.out.size))
  have n1_ := Aside0.mk (blk_below KC.out (hb))
  have n2_ := Aside0.mk (Kd.C_below RA.out (hb))
  have n3_ := Aside0.mk (Kd.C_below RL.out (hb))
  clear hb HB KC RA RL
  have HB := n0_
  have KC := n1_
  have RA := n2_
  have RL := n3_
  clear n0_ n1_ n2_ n3_
  clear RB RM RX RZ hHeld q1 q2 q3 q4 q6 q7 q8
  generalize w5.drew.drewN nd = w6 at *
  generalize hT : lens m k mn mx [] (a.drop f) = t at *
  have HT := Aside0.mk hT
  have hft : pre ++ [last] = (f : Int) :: t := HL1.out.symm.trans HL4.out
  rw [hft] at RL
  obtain rfl : t.length + 1 = n2 := RL.out.1
  have hx : w6.cell? ⟨g2, 0, none⟩ = some (.int .i64 (f : Int)) := by
    obtain ⟨ad, e, hx⟩ := Kd.at_int RL.out 0 (by omega) (by omega)
    cases e
    exact hx
  have HX := Aside0.mk hx
  obtain ⟨q1, q2, q3, q9, q10, q11⟩ := q_eleven HF.out.2
  obtain ⟨ad, rfl, _⟩ := Kd.at_int RA.out 0 (by omega) (by have := HF.out; omega)
  have HFT := Aside0.mk hft
  clear hT hft
  go_wp2
  by_cases hcf : c = f
  · skip
    have hfa : f = a.length := by have := HF.out.2; omega
    have ht : t = [] := by rw [← HT.out, hfa, List.drop_length, lens, if_pos rfl]
    subst ht
    subst hcf
    subst hfa
    clear q1 q3 q9 q10 q11
    have HBYR := Aside0.mk (show Bytes ([] : List Int) from fun x hx => by cases hx)
    have HLR := Aside0.mk (show (lens m k mn mx [] ([] : List Int)).length ≤ 17592186044415 from by rw [lens, if_pos rfl]; decide)
    have HLBR := Aside0.mk (show ([] : List Int).length ≤ 140737488351232 from by decide)
    refine start_ (n := 13) (S := fun w' => w'.cell? ⟨w.heap.size, 0, none⟩ = some (.int .u64 (m : Int)) ∧ w'.cell? ⟨w.heap.size, 1, none⟩ = some (.int .u64 (k : Int)) ∧ w'.cell? ⟨w.heap.size, 2, none⟩ = some (.int .i64 mn) ∧ w'.cell? ⟨w.heap.size, 3, none⟩ = some (.int .i64 mx) ∧ w'.cell? ⟨g2, 0, none⟩ = some (.int .i64 ((a.length : Int) : Int))) (ds := []) #[false, false, false, false, false, false, false, false, false, false, false, false, false] (by kernel_rfl) rfl rfl ⟨(blk_cell (w := (w6).drew) KC.out 0).trans rfl, (blk_cell (w := (w6).drew) KC.out 1).trans rfl, (blk_cell (w := (w6).drew) KC.out 2).trans rfl, (blk_cell (w := (w6).drew) KC.out 3).trans rfl, hx⟩ (fun hHeld => ?_)
    refine pure_ (i := 1) (N := some 97) (v := ?_) (a' := ?_) #[false, true, false, false, false, false, false, false, false, false, false, false, false] rfl rfl (by kernel_rfl) (fun _ _ _ h => h) (Or.inl ⟨by rfl, ?_⟩) ?_ ?_
    rotate_left
    · intro w'
      go_simp
      with_reducible rfl
    rotate_left
    · simp only [Act.put, List.setIfInBounds_toArray, List.set_cons_zero, List.set_cons_succ, i64_w, i32_w]
      rfl
    refine pure_ (i := 2) (N := some 98) (v := ?_) (a' := ?_) #[false, true, true, false, false, false, false, false, false, false, false, false, false] rfl rfl (by kernel_rfl) (fun _ _ _ h => h) (Or.inl ⟨by rfl, ?_⟩) ?_ ?_
    rotate_left
    · intro w'
      go_simp
      with_reducible rfl
    rotate_left
    · simp only [Act.put, List.setIfInBounds_toArray, List.set_cons_zero, List.set_cons_succ, i64_w, i32_w]
      rfl
    refine pure_ (i := 3) (N := some 99) (v := ?_) (a' := ?_) #[false, true, true, true, false, false, false, false, false, false, false, false, false] rfl rfl (by kernel_rfl) (fun _ _ _ h => h) (Or.inl ⟨by rfl, ?_⟩) ?_ ?_
    rotate_left
    · intro w'
      go_simp
      with_reducible rfl
    rotate_left
    · simp only [Act.put, List.setIfInBounds_toArray, List.set_cons_zero, List.set_cons_succ, i64_w, i32_w]
      rfl
    refine take_ (i := 0) (N := some 96) (v := ?_) (a' := ?_) #[true, true, true, true, false, false, false, false, false, false, false, false, false] rfl rfl (by kernel_rfl) (fun _ _ _ h => h) (Or.inl ⟨by rfl, ?_⟩) hHeld ?_ ?_
    rotate_left
    · rintro w' ⟨s0, s1, s2, s3, s4⟩
      go_simp
      with_reducible rfl
    rotate_left
    · simp only [Act.put, List.setIfInBounds_toArray, List.set_cons_zero, List.set_cons_succ, i64_w, i32_w]
      rfl
    refine take_ (i := 4) (N := some 100) (v := ?_) (a' := ?_) #[true, true, true, true, true, false, false, false, false, false, false, false, false] rfl rfl (by kernel_rfl) (fun _ _ _ h => h) (Or.inl ⟨by rfl, ?_⟩) hHeld ?_ ?_
    rotate_left
    · rintro w' ⟨s0, s1, s2, s3, s4⟩
      go_simp
      with_reducible rfl
    rotate_left
    · simp only [Act.put, List.setIfInBounds_toArray, List.set_cons_zero, List.set_cons_succ, i64_w, i32_w]
      rfl
    refine pure_ (i := 5) (N := some 101) (v := ?_) (a' := ?_) #[true, true, true, true, true, true, false, false, false, false, false, false, false] rfl rfl (by kernel_rfl) (fun _ _ _ h => h) (Or.inl ⟨by rfl, ?_⟩) ?_ ?_
    rotate_left
    · intro w'
      go_simp
      with_reducible rfl
    rotate_left
    · simp only [Act.put, List.setIfInBounds_toArray, List.set_cons_zero, List.set_cons_succ, i64_w, i32_w]
      rfl
    refine one_ (i := 6) (N := some 102) #[true, true, true, true, true, true, true, false, false, false, false, false, false] rfl rfl (by kernel_rfl) (by decide) (fun K hK => ?_)
    refine goes_ Try.func9 (by kernel_rfl) rfl #[.slice (some ad) 0 0] (by rfl) rfl rfl (by simp only [List.map_toArray, List.map_cons, List.map_nil]; rfl) ?_
    with_reducible refine (own_n (n := 0) (c := 0) (l := []) rfl (C8_nil _ (some ad)) (Nat.le_refl _) (by decide)).mono ?_
    rintro e w7 ⟨V7, rfl, hv, hb⟩
    refine ⟨_, rfl, ?_⟩
    obtain ⟨A7, c7, rfl, hc7, hC7⟩ := Kd.R_reads hv
    have RX := Aside0.mk hC7
    have HD := Aside0.mk (below_step (below_drew1 (Below.refl w6.heap.size w6)) hb)
    clear hv hC7
    have n0_ := Aside0.mk (HB.out.trans ((below_step (below_drew1 (Below.refl w6.heap.size w6)) hb).mono HB.out.size))
    have n1_ := Aside0.mk (blk_below KC.out (below_step (below_drew1 (Below.refl w6.heap.size w6)) hb))
    have n2_ := Aside0.mk (Kd.C_below RA.out (below_step (below_drew1 (Below.refl w6.heap.size w6)) hb))
    have n3_ := Aside0.mk (Kd.C_below RL.out (below_step (below_drew1 (Below.refl w6.heap.size w6)) hb))
    clear hb HB KC RA RL
    have HB := n0_
    have KC := n1_
    have RA := n2_
    have RL := n3_
    clear n0_ n1_ n2_ n3_
    refine hK.out _ _ ⟨(blk_cell KC.out 0).trans rfl, (blk_cell KC.out 1).trans rfl, (blk_cell KC.out 2).trans rfl, (blk_cell KC.out 3).trans rfl, (Below.cell (HD.out) (World.block_lt_of_cell? w6 _ HX.out)).trans HX.out⟩ (fun hHeld => ?_)
    clear hK K
    refine norm_ (a' := ?_) ?_ ?_
    rotate_left
    · show Act.put _ (some 102) _ = _
      simp only [Act.put, List.setIfInBounds_toArray, List.set_cons_zero, List.set_cons_succ, i64_w, i32_w]
      rfl
    refine one_ (i := 7) (N := some 103) #[true, true, true, true, true, true, true, true, false, false, false, false, false] rfl rfl (by kernel_rfl) (by decide) (fun K hK => ?_)
    refine goes_ Try.func10 (by kernel_rfl) rfl #[.agg #[.int .u64 (m : Int), .int .u64 (k : Int), .int .i64 mn, .int .i64 mx], .slice A7 ([] : List Int).length c7] (by rfl) rfl rfl (by simp only [List.map_toArray, List.map_cons, List.map_nil]; rfl) ?_
    with_reducible refine (lengths_ok m k mn mx HOK.out HU.out A7 c7 ([] : List Int) _ HBYR.out RX.out hc7 HLR.out HLBR.out).mono ?_
    rintro e w8 ⟨V8, rfl, hv, hb⟩
    refine ⟨_, rfl, ?_⟩
    rw [show lens m k mn mx [] [] = [] by rw [lens, if_pos rfl]] at hv
    obtain ⟨A8, c8, rfl, hc8, hC8⟩ := Kd.R_reads hv
    have RR := Aside0.mk hC8
    have n9_ := Aside0.mk (below_step HD.out hb)
    clear HD hv hC8
    have HD := n9_
    clear n9_
    have n0_ := Aside0.mk (HB.out.trans ((hb).mono HB.out.size))
    have n1_ := Aside0.mk (blk_below KC.out (hb))
    have n2_ := Aside0.mk (Kd.C_below RL.out (hb))
    clear hb HB KC RL
    have HB := n0_
    have KC := n1_
    have RL := n2_
    clear n0_ n1_ n2_
    refine hK.out _ _ ⟨(blk_cell KC.out 0).trans rfl, (blk_cell KC.out 1).trans rfl, (blk_cell KC.out 2).trans rfl, (blk_cell KC.out 3).trans rfl, (Below.cell (HD.out) (World.block_lt_of_cell? w6 _ HX.out)).trans HX.out⟩ (fun hHeld => ?_)
    clear hK K
    refine norm_ (a' := ?_) ?_ ?_
    rotate_left
    · show Act.put _ (some 103) _ = _
      simp only [Act.put, List.setIfInBounds_toArray, List.set_cons_zero, List.set_cons_succ, i64_w, i32_w]
      rfl
    refine pure_ (i := 8) (N := some 95) (v := ?_) (a' := ?_) #[true, true, true, true, true, true, true, true, true, false, false, false, false] rfl rfl (by kernel_rfl) (fun _ _ _ h => h) (Or.inl ⟨by rfl, ?_⟩) ?_ ?_
    rotate_left
    · intro w'
      go_simp
      with_reducible rfl
    rotate_left
    · simp only [Act.put, List.setIfInBounds_toArray, List.set_cons_zero, List.set_cons_succ, i64_w, i32_w]
      rfl
    refine pure_ (i := 9) (N := some 104) (v := ?_) (a' := ?_) #[true, true, true, true, true, true, true, true, true, true, false, false, false] rfl rfl (by kernel_rfl) (fun _ _ _ h => h) (Or.inl ⟨by rfl, ?_⟩) ?_ ?_
    rotate_left
    · intro w'
      go_simp
      with_reducible rfl
    rotate_left
    · simp only [Act.put, List.setIfInBounds_toArray, List.set_cons_zero, List.set_cons_succ, i64_w, i32_w]
      rfl
    refine pure_ (i := 10) (N := some 105) (v := ?_) (a' := ?_) #[true, true, true, true, true, true, true, true, true, true, true, false, false] rfl rfl (by kernel_rfl) (fun _ _ _ h => h) (Or.inl ⟨by rfl, ?_⟩) ?_ ?_
    rotate_left
    · intro w'
      go_simp
      with_reducible rfl
    rotate_left
    · simp only [Act.put, List.setIfInBounds_toArray, List.set_cons_zero, List.set_cons_succ, i64_w, i32_w]
      rfl
    refine pure_ (i := 11) (N := some 11) (v := ?_) (a' := ?_) #[true, true, true, true, true, true, true, true, true, true, true, true, false] rfl rfl (by kernel_rfl) (fun _ _ _ h => h) (Or.inl ⟨by rfl, ?_⟩) ?_ ?_
    rotate_left
    · intro w'
      go_simp
      with_reducible rfl
    rotate_left
    · simp only [Act.put, List.setIfInBounds_toArray, List.set_cons_zero, List.set_cons_succ, i64_w, i32_w]
      rfl
    refine pure_ (i := 12) (N := some 12) (v := ?_) (a' := ?_) #[true, true, true, true, true, true, true, true, true, true, true, true, true] rfl rfl (by kernel_rfl) (fun _ _ _ h => h) (Or.inl ⟨by rfl, ?_⟩) ?_ ?_
    rotate_left
    · intro w'
      go_simp
      with_reducible rfl
    rotate_left
    · simp only [Act.put, List.setIfInBounds_toArray, List.set_cons_zero, List.set_cons_succ, i64_w, i32_w]
      rfl
    refine done_ (by kernel_rfl) ?_
    clear hx hHeld
    by_cases hc21 : c2 = 1
    · skip
      subst hc21
      go_wp2_with (first | (go_at_call 13; refine (same_calls (l := []) RR.out hc8 (C_nil _ _) (Nat.le_refl _) (by decide)).mono ?_; rintro e w10 ⟨rfl, ⟨nd2, rfl⟩⟩; have n0_ := Aside0.mk (pw_below_drewN HB.out nd2); clear HB; have HB := n0_; clear n0_) | (go_at_call 8; with_reducible refine (awake_calls _).mono ?_; rintro e w9 ⟨rfl, hb⟩; have HB9 := Aside0.mk (below_step HB.out hb); clear hb))
      go_ret
      exact ⟨rfl, HB9.out⟩
    · skip
      have hc2l : 1 < c2 := by have := HC2.out; omega
      obtain ⟨u1, u2, u3, u4, u5, u6, u7, u8⟩ := q_slice hc2l
      have RS := Aside0.mk (C_rest RL.out)
      clear hc21
      go_wp2_with (first | (go_at_call 13; refine (same_calls (l := []) RR.out hc8 (C_nil _ _) (Nat.zero_le _) (by decide)).mono ?_; rintro e w10 ⟨rfl, ⟨nd2, rfl⟩⟩; have n0_ := Aside0.mk (pw_below_drewN HB.out nd2); clear HB; have HB := n0_; clear n0_) | (go_at_call 8; with_reducible refine (awake_calls _).mono ?_; rintro e w9 ⟨rfl, hb⟩; have HB9 := Aside0.mk (below_step HB.out hb); clear hb))
      go_ret
      exact ⟨rfl, HB9.out⟩
  · skip
    have hflt : f < c := by have := HF.out.2; omega
    obtain ⟨s1, s2, s3, s4, s5, s6, s7, s8⟩ := q_slice hflt
    clear hcf
    have HBYR := Aside0.mk (show Bytes (a.drop f) from bytes_drop HBY.out f)
    have HLR := Aside0.mk (show (lens m k mn mx [] (a.drop f)).length ≤ 17592186044415 from by have := lens_len m k mn mx (a.drop f).length (a.drop f) (Nat.le_refl _); rw [List.length_drop] at this; have := HA4.out; omega)
    have HLBR := Aside0.mk (show (a.drop f).length ≤ 140737488351232 from by rw [List.length_drop]; have := HA4.out; omega)
    refine start_ (n := 13) (S := fun w' => w'.cell? ⟨w.heap.size, 0, none⟩ = some (.int .u64 (m : Int)) ∧ w'.cell? ⟨w.heap.size, 1, none⟩ = some (.int .u64 (k : Int)) ∧ w'.cell? ⟨w.heap.size, 2, none⟩ = some (.int .i64 mn) ∧ w'.cell? ⟨w.heap.size, 3, none⟩ = some (.int .i64 mx) ∧ w'.cell? ⟨g2, 0, none⟩ = some (.int .i64 (f : Int))) (ds := []) #[false, false, false, false, false, false, false, false, false, false, false, false, false] (by kernel_rfl) rfl rfl ⟨(blk_cell (w := (w6).drew) KC.out 0).trans rfl, (blk_cell (w := (w6).drew) KC.out 1).trans rfl, (blk_cell (w := (w6).drew) KC.out 2).trans rfl, (blk_cell (w := (w6).drew) KC.out 3).trans rfl, hx⟩ (fun hHeld => ?_)
    refine pure_ (i := 1) (N := some 97) (v := ?_) (a' := ?_) #[false, true, false, false, false, false, false, false, false, false, false, false, false] rfl rfl (by kernel_rfl) (fun _ _ _ h => h) (Or.inl ⟨by rfl, ?_⟩) ?_ ?_
    rotate_left
    · intro w'
      go_simp
      with_reducible rfl
    rotate_left
    · simp only [Act.put, List.setIfInBounds_toArray, List.set_cons_zero, List.set_cons_succ, i64_w, i32_w]
      rfl
    refine pure_ (i := 2) (N := some 98) (v := ?_) (a' := ?_) #[false, true, true, false, false, false, false, false, false, false, false, false, false] rfl rfl (by kernel_rfl) (fun _ _ _ h => h) (Or.inl ⟨by rfl, ?_⟩) ?_ ?_
    rotate_left
    · intro w'
      go_simp
      with_reducible rfl
    rotate_left
    · simp only [Act.put, List.setIfInBounds_toArray, List.set_cons_zero, List.set_cons_succ, i64_w, i32_w]
      rfl
    refine pure_ (i := 3) (N := some 99) (v := ?_) (a' := ?_) #[false, true, true, true, false, false, false, false, false, false, false, false, false] rfl rfl (by kernel_rfl) (fun _ _ _ h => h) (Or.inl ⟨by rfl, ?_⟩) ?_ ?_
    rotate_left
    · intro w'
      go_simp
      with_reducible rfl
    rotate_left
    · simp only [Act.put, List.setIfInBounds_toArray, List.set_cons_zero, List.set_cons_succ, i64_w, i32_w]
      rfl
    refine take_ (i := 0) (N := some 96) (v := ?_) (a' := ?_) #[true, true, true, true, false, false, false, false, false, false, false, false, false] rfl rfl (by kernel_rfl) (fun _ _ _ h => h) (Or.inl ⟨by rfl, ?_⟩) hHeld ?_ ?_
    rotate_left
    · rintro w' ⟨s0, s1, s2, s3, s4⟩
      go_simp
      with_reducible rfl
    rotate_left
    · simp only [Act.put, List.setIfInBounds_toArray, List.set_cons_zero, List.set_cons_succ, i64_w, i32_w]
      rfl
    refine take_ (i := 4) (N := some 100) (v := ?_) (a' := ?_) #[true, true, true, true, true, false, false, false, false, false, false, false, false] rfl rfl (by kernel_rfl) (fun _ _ _ h => h) (Or.inl ⟨by rfl, ?_⟩) hHeld ?_ ?_
    rotate_left
    · rintro w' ⟨s0, s1, s2, s3, s4⟩
      go_simp
      with_reducible rfl
    rotate_left
    · simp only [Act.put, List.setIfInBounds_toArray, List.set_cons_zero, List.set_cons_succ, i64_w, i32_w]
      rfl
    refine pure_ (i := 5) (N := some 101) (v := ?_) (a' := ?_) #[true, true, true, true, true, true, false, false, false, false, false, false, false] rfl rfl (by kernel_rfl) (fun _ _ _ h => h) (Or.inl ⟨by rfl, ?_⟩) ?_ ?_
    rotate_left
    · intro w'
      go_simp
      with_reducible rfl
    rotate_left
    · simp only [Act.put, List.setIfInBounds_toArray, List.set_cons_zero, List.set_cons_succ, i64_w, i32_w]
      rfl
    refine one_ (i := 6) (N := some 102) #[true, true, true, true, true, true, true, false, false, false, false, false, false] rfl rfl (by kernel_rfl) (by decide) (fun K hK => ?_)
    refine goes_ Try.func9 (by kernel_rfl) rfl #[.slice (some (ad.add f)) (a.length - f) (c - f)] (by rfl) rfl rfl (by simp only [List.map_toArray, List.map_cons, List.map_nil]; rfl) ?_
    with_reducible refine (own_n (l := a.drop f) List.length_drop (C_tail (Kd.C_below RA.out (below_drew1 (Below.refl _ _))) HF.out.2) (Nat.sub_le_sub_right hc f) (Nat.lt_of_le_of_lt (Nat.sub_le _ _) HLA.out)).mono ?_
    rintro e w7 ⟨V7, rfl, hv, hb⟩
    refine ⟨_, rfl, ?_⟩
    obtain ⟨A7, c7, rfl, hc7, hC7⟩ := Kd.R_reads hv
    have RX := Aside0.mk hC7
    have HD := Aside0.mk (below_step (below_drew1 (Below.refl w6.heap.size w6)) hb)
    clear hv hC7
    have n0_ := Aside0.mk (HB.out.trans ((below_step (below_drew1 (Below.refl w6.heap.size w6)) hb).mono HB.out.size))
    have n1_ := Aside0.mk (blk_below KC.out (below_step (below_drew1 (Below.refl w6.heap.size w6)) hb))
    have n2_ := Aside0.mk (Kd.C_below RA.out (below_step (below_drew1 (Below.refl w6.heap.size w6)) hb))
    have n3_ := Aside0.mk (Kd.C_below RL.out (below_step (below_drew1 (Below.refl w6.heap.size w6)) hb))
    clear hb HB KC RA RL
    have HB := n0_
    have KC := n1_
    have RA := n2_
    have RL := n3_
    clear n0_ n1_ n2_ n3_
    refine hK.out _ _ ⟨(blk_cell KC.out 0).trans rfl, (blk_cell KC.out 1).trans rfl, (blk_cell KC.out 2).trans rfl, (blk_cell KC.out 3).trans rfl, (Below.cell (HD.out) (World.block_lt_of_cell? w6 _ HX.out)).trans HX.out⟩ (fun hHeld => ?_)
    clear hK K
    refine norm_ (a' := ?_) ?_ ?_
    rotate_left
    · show Act.put _ (some 102) _ = _
      simp only [Act.put, List.setIfInBounds_toArray, List.set_cons_zero, List.set_cons_succ, i64_w, i32_w]
      rfl
    refine one_ (i := 7) (N := some 103) #[true, true, true, true, true, true, true, true, false, false, false, false, false] rfl rfl (by kernel_rfl) (by decide) (fun K hK => ?_)
    refine goes_ Try.func10 (by kernel_rfl) rfl #[.agg #[.int .u64 (m : Int), .int .u64 (k : Int), .int .i64 mn, .int .i64 mx], .slice A7 (a.drop f).length c7] (by rfl) rfl rfl (by simp only [List.map_toArray, List.map_cons, List.map_nil]; rfl) ?_
    with_reducible refine (lengths_ok m k mn mx HOK.out HU.out A7 c7 (a.drop f) _ HBYR.out RX.out hc7 HLR.out HLBR.out).mono ?_
    rintro e w8 ⟨V8, rfl, hv, hb⟩
    refine ⟨_, rfl, ?_⟩
    rw [HT.out] at hv
    obtain ⟨A8, c8, rfl, hc8, hC8⟩ := Kd.R_reads hv
    have RR := Aside0.mk hC8
    have n9_ := Aside0.mk (below_step HD.out hb)
    clear HD hv hC8
    have HD := n9_
    clear n9_
    have n0_ := Aside0.mk (HB.out.trans ((hb).mono HB.out.size))
    have n1_ := Aside0.mk (blk_below KC.out (hb))
    have n2_ := Aside0.mk (Kd.C_below RL.out (hb))
    clear hb HB KC RL
    have HB := n0_
    have KC := n1_
    have RL := n2_
    clear n0_ n1_ n2_
    refine hK.out _ _ ⟨(blk_cell KC.out 0).trans rfl, (blk_cell KC.out 1).trans rfl, (blk_cell KC.out 2).trans rfl, (blk_cell KC.out 3).trans rfl, (Below.cell (HD.out) (World.block_lt_of_cell? w6 _ HX.out)).trans HX.out⟩ (fun hHeld => ?_)
    clear hK K
    refine norm_ (a' := ?_) ?_ ?_
    rotate_left
    · show Act.put _ (some 103) _ = _
      simp only [Act.put, List.setIfInBounds_toArray, List.set_cons_zero, List.set_cons_succ, i64_w, i32_w]
      rfl
    refine pure_ (i := 8) (N := some 95) (v := ?_) (a' := ?_) #[true, true, true, true, true, true, true, true, true, false, false, false, false] rfl rfl (by kernel_rfl) (fun _ _ _ h => h) (Or.inl ⟨by rfl, ?_⟩) ?_ ?_
    rotate_left
    · intro w'
      go_simp
      with_reducible rfl
    rotate_left
    · simp only [Act.put, List.setIfInBounds_toArray, List.set_cons_zero, List.set_cons_succ, i64_w, i32_w]
      rfl
    refine pure_ (i := 9) (N := some 104) (v := ?_) (a' := ?_) #[true, true, true, true, true, true, true, true, true, true, false, false, false] rfl rfl (by kernel_rfl) (fun _ _ _ h => h) (Or.inl ⟨by rfl, ?_⟩) ?_ ?_
    rotate_left
    · intro w'
      go_simp
      with_reducible rfl
    rotate_left
    · simp only [Act.put, List.setIfInBounds_toArray, List.set_cons_zero, List.set_cons_succ, i64_w, i32_w]
      rfl
    refine pure_ (i := 10) (N := some 105) (v := ?_) (a' := ?_) #[true, true, true, true, true, true, true, true, true, true, true, false, false] rfl rfl (by kernel_rfl) (fun _ _ _ h => h) (Or.inl ⟨by rfl, ?_⟩) ?_ ?_
    rotate_left
    · intro w'
      go_simp
      with_reducible rfl
    rotate_left
    · simp only [Act.put, List.setIfInBounds_toArray, List.set_cons_zero, List.set_cons_succ, i64_w, i32_w]
      rfl
    refine pure_ (i := 11) (N := some 11) (v := ?_) (a' := ?_) #[true, true, true, true, true, true, true, true, true, true, true, true, false] rfl rfl (by kernel_rfl) (fun _ _ _ h => h) (Or.inl ⟨by rfl, ?_⟩) ?_ ?_
    rotate_left
    · intro w'
      go_simp
      with_reducible rfl
    rotate_left
    · simp only [Act.put, List.setIfInBounds_toArray, List.set_cons_zero, List.set_cons_succ, i64_w, i32_w]
      rfl
    refine pure_ (i := 12) (N := some 12) (v := ?_) (a' := ?_) #[true, true, true, true, true, true, true, true, true, true, true, true, true] rfl rfl (by kernel_rfl) (fun _ _ _ h => h) (Or.inl ⟨by rfl, ?_⟩) ?_ ?_
    rotate_left
    · intro w'
      go_simp
      with_reducible rfl
    rotate_left
    · simp only [Act.put, List.setIfInBounds_toArray, List.set_cons_zero, List.set_cons_succ, i64_w, i32_w]
      rfl
    refine done_ (by kernel_rfl) ?_
    clear hx hHeld
    by_cases hc21 : c2 = 1
    · skip
      have ht : t = [] := by have := HC2.out; exact List.eq_nil_of_length_eq_zero (by omega)
      subst ht
      subst hc21
      go_wp2_with (first | (go_at_call 13; refine (same_calls (l := []) RR.out hc8 (C_nil _ _) (Nat.le_refl _) (by decide)).mono ?_; rintro e w10 ⟨rfl, ⟨nd2, rfl⟩⟩; have n0_ := Aside0.mk (pw_below_drewN HB.out nd2); clear HB; have HB := n0_; clear n0_) | (go_at_call 8; with_reducible refine (awake_calls _).mono ?_; rintro e w9 ⟨rfl, hb⟩; have HB9 := Aside0.mk (below_step HB.out hb); clear hb))
      go_ret
      exact ⟨rfl, HB9.out⟩
    · skip
      have HPT := Aside0.mk (show t.length ≤ 4000 by have := HN2.out; have := HPL.out; omega)
      have hc2l : 1 < c2 := by have := HC2.out; omega
      obtain ⟨u1, u2, u3, u4, u5, u6, u7, u8⟩ := q_slice hc2l
      have RS := Aside0.mk (C_rest RL.out)
      clear hc21
      go_wp2_with (first | (go_at_call 13; refine (same_calls (l := t) RR.out hc8 RS.out (by have := HC2.out; omega) (by have := HPT.out; omega)).mono ?_; rintro e w10 ⟨rfl, ⟨nd2, rfl⟩⟩; have n0_ := Aside0.mk (pw_below_drewN HB.out nd2); clear HB; have HB := n0_; clear n0_) | (go_at_call 8; with_reducible refine (awake_calls _).mono ?_; rintro e w9 ⟨rfl, hb⟩; have HB9 := Aside0.mk (below_step HB.out hb); clear hb))
      go_ret
      exact ⟨rfl, HB9.out⟩
set_option maxHeartbeats 4000000 in
set_option maxRecDepth 100000 in
theorem lo_many (m k mn mx : Int) (A B : Option Addr) (c d n p : Nat) (w : World) (hl : ¬ n ≤ 4000 ∨ n ≤ 4000 ∧ ¬ p ≤ 4000) : Calls Try.prog 6 #[.agg #[.int .u64 m, .int .u64 k, .int .i64 mn, .int .i64 mx], .slice A n c, .slice B p d] w fun e w' => e = .returned (.bool true) ∧ Below w.heap.size w w' := by
  have HB := Aside0.mk (below_alloc (Below.refl w.heap.size w) (.cells #[.int .u64 m, .int .u64 k, .int .i64 mn, .int .i64 mx] 24))
  rcases hl with hl | hl
  · have hgt1 : decide ((4000 : Int) < (n : Int)) = true := decide_eq_true (by omega)
    clear hl
    go_enter Try.func6, Try.ntmps6
    go_wp2_with (go_at_call 8; with_reducible refine (awake_calls _).mono ?_; rintro e w9 ⟨rfl, hb⟩; have HB9 := Aside0.mk (below_step HB.out hb); clear hb)
    go_ret
    exact ⟨rfl, HB9.out⟩
  · have hgt1 : decide ((4000 : Int) < (n : Int)) = false := decide_eq_false (by omega)
    have hgt2 : decide ((4000 : Int) < (p : Int)) = true := decide_eq_true (by omega)
    clear hl
    go_enter Try.func6, Try.ntmps6
    go_wp2_with (go_at_call 8; with_reducible refine (awake_calls _).mono ?_; rintro e w9 ⟨rfl, hb⟩; have HB9 := Aside0.mk (below_step HB.out hb); clear hb)
    go_ret
    exact ⟨rfl, HB9.out⟩
theorem local_walk (p k mn mx : Int) (a2 : Option Addr) (len2 cap2 : Nat) (z2 : List Int) (a3 : Option Addr) (len3 cap3 : Nat) (z3 : List Int) (w : World) (wc : WfC p k mn mx) (w2 : IsRow .u8 w a2 len2 cap2 z2) (_ : len2 * 1 ≤ 140737488351232) (w3 : IsRow .u8 w a3 len3 cap3 z3) (_ : len3 * 1 ≤ 140737488351232) :
    Calls Try.prog 6 #[.agg #[.int .u64 p, .int .u64 k, .int .i64 mn, .int .i64 mx], .slice a2 len2 cap2, .slice a3 len3 cap3] w fun e w' => e = .returned (.bool true) ∧ Below w.heap.size w w' := by
  obtain ⟨l, rfl, hr, hb, hc⟩ := w2.opened
  obtain ⟨l3, rfl, hr3, hb3, hc3⟩ := w3.opened
  obtain ⟨m, rfl, hu⟩ := of_wf wc.1
  obtain ⟨q, rfl, hk⟩ := of_wf wc.2.1
  by_cases h1 : l.length ≤ 4000
  · by_cases h2 : l3.length ≤ 4000
    · by_cases ok : OkC m mn mx
      · by_cases hn : l = []
        · exact lo_nil m q mn mx ok hk a2 a3 cap2 cap3 l l3 w hb hb3 hr hr3 hc hc3 h1 h2 hn
        · exact lo_ok m q mn mx ok hk a2 a3 cap2 cap3 l l3 w hb hb3 hr hr3 hc hc3 h1 h2 hn
      · exact lo_no m q mn mx hu ok hk a2 a3 cap2 cap3 l l3 w hb hb3 hr hr3 hc hc3 h1 h2
    · exact lo_many _ _ mn mx a2 a3 cap2 cap3 l.length l3.length w (.inr ⟨h1, h2⟩)
  · exact lo_many _ _ mn mx a2 a3 cap2 cap3 l.length l3.length w (.inl h1)
end Go.Proofs.Ytkaabkoadoomjaa.Law
