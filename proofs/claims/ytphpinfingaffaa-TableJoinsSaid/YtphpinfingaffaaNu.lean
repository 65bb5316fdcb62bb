/- The walks of codec.Number and codec.Text. -/
import Derived.Test.YtphpinfingaffaaEn
namespace Go.Proofs.Ytphpinfingaffaa.Law
open Go.RowKit Go.Proofs.Ytphpinfingaffaa Go.Proofs.YtphpinfingaffaaW.PrintWords Go.Proofs.YtphpinfingaffaaW.PrintLast Go.Proofs.YtphpinfingaffaaW.PrintMore Go.Proofs.Ytphpinfingaffaa.D
set_option linter.unusedSimpArgs false
set_option linter.unusedVariables false
def Bytes (l : List Int) : Prop := ∀ x ∈ l, 0 ≤ x ∧ x < 256
theorem info5 : (Try.prog.info? 5).map (fun i => (i.zero, i.size, i.bytes)) = some (some (.int .u8 0), 1, 1) := by kernel_rfl
/-- a number's bytes, the highest first -/
def dg : Nat → List Int
  | 0 => []
  | n + 1 => dg ((n + 1) / 256) ++ [((n + 1 : Nat) : Int) % 256]
decreasing_by omega
theorem dg_pos {n : Nat} (h : 0 < n) : dg n = dg (n / 256) ++ [(n : Int) % 256] := by
  cases n with
  | zero => omega
  | succ n => rw [dg]
theorem dg_zero : dg 0 = [] := by rw [dg]
theorem dg_len (k : Nat) : ∀ n : Nat, n < 256 ^ k → (dg n).length ≤ k := by
  induction k with
  | zero => intro n h; obtain rfl : n = 0 := by simpa using h
            rw [dg_zero]; exact Nat.le_refl _
  | succ k ih =>
    intro n h
    rcases Nat.eq_zero_or_pos n with rfl | hp
    · rw [dg_zero]; exact Nat.zero_le _
    · rw [dg_pos hp, List.length_append]
      have : n / 256 < 256 ^ k := Nat.div_lt_of_lt_mul (by rw [Nat.mul_comm, ← Nat.pow_succ]; exact h)
      have := ih _ this
      simp; omega
/-- a scope whose jumps all go to one label, with a count that falls at each jump -/
theorem wp_scope_count {P : Program} {a : Act} {w : World} {Q : Exit → Act → World → Prop} {c rest : Code} (l : Nat) (J : Nat → Act → World → Prop)
    (hf : findLabel c l = some rest) (first : Code.wp P c (Exit.jump l (fun a w => ∃ n, J n a w) Q) a w)
    (pass : ∀ n a w, J n a w → Code.wp P rest (Exit.jump l (fun a' w' => ∃ n', n' < n ∧ J n' a' w') Q) a w) : Code.wp P c.scope Q a w := by
  have least : ∀ a w, (∃ n, J n a w) → ∃ n, J n a w ∧ ∀ n', J n' a w → n ≤ n' := by
    rintro a w ⟨n, hn⟩
    induction n using Nat.strongRecOn with
    | ind n ih =>
      by_cases h : ∃ n', n' < n ∧ J n' a w
      · obtain ⟨n', h1, h2⟩ := h; exact ih n' h1 h2
      · exact ⟨n, hn, fun n' h' => Nat.le_of_not_lt fun h1 => h ⟨n', h1, h'⟩⟩
  refine wp_scope_jumps l (fun a w => ∃ n, J n a w) (fun a w => Classical.epsilon fun n => J n a w ∧ ∀ n', J n' a w → n ≤ n') hf first ?_
  intro a w hJ
  have hs := Classical.epsilon_spec (least a w hJ)
  generalize (Classical.epsilon fun n => J n a w ∧ ∀ n', J n' a w → n ≤ n') = m at hs ⊢
  refine wp_mono (pass m a w hs.1) ?_
  intro e a' w' hq
  cases e with
  | goto l' =>
    obtain ⟨h1, n', h2, h3⟩ := hq
    refine ⟨h1, ⟨n', h3⟩, ?_⟩
    have hs' := Classical.epsilon_spec (least a' w' ⟨n', h3⟩)
    exact Nat.lt_of_le_of_lt (hs'.2 n' h3) h2
  | normal => exact hq
  | exit => exact hq
  | ret => exact hq
  | panic => exact hq
  | outgrown => exact hq
def lowC (L : List Int) (i : Nat) : Value := .int .u8 (L.getD i 0)
theorem lowC_snoc (L : List Int) (x : Int) (i : Nat) : lowC (L ++ [x]) i = upd (lowC L) L.length (.int .u8 x) i := by
  unfold upd lowC
  by_cases h : i = L.length
  · rw [if_pos h, h, List.getD_eq_getElem?_getD, List.getElem?_append_right (Nat.le_refl _), Nat.sub_self]; rfl
  · rw [if_neg h, List.getD_eq_getElem?_getD, List.getD_eq_getElem?_getD]
    rcases Nat.lt_or_ge i L.length with h1 | h1
    · rw [List.getElem?_append_left h1]
    · rw [List.getElem?_eq_none h1, List.getElem?_eq_none (by simp; omega)]
def NumJ (A : Option Addr) (c : Nat) (l : List Int) (w : World) (m n : Nat) (a' : Act) (w' : World) : Prop :=
  ∃ (L : List Int) (u2 u3 u7 u8 u9 u10 u11 u12 u13 u14 u15 u16 u17 u18 u19 u20 u21 u22 u23 u24 u25 u26 u27 u28 u29 u30 u31 u32 u33 u34 u35 u36 u37 u38 u39 u40 u41 : Value), a' = { tmps := #[.slice A l.length c, .int .i64 (n : Int), u2, u3, .slice none 0 0, .pointer (some ⟨w.heap.size, 0, none⟩), .int .i64 (L.length : Int), u7, u8, u9, u10, u11, u12, u13, u14, u15, u16, u17, u18, u19, u20, u21, u22, u23, u24, u25, u26, u27, u28, u29, u30, u31, u32, u33, u34, u35, u36, u37, u38, u39, u40, u41], defers := [] } ∧ dg n ++ L.reverse = dg m ∧ Bytes L ∧ Blk w' w.heap.size 8 (lowC L) ∧ Below w.heap.size w w'
theorem max2_mx (k k' : IntKind) (x y : Int) : Builtin.max2 (.int k x) (.int k' y) = pure (.int k (max x y)) := by rw [max2_int]; congr 2; omega
theorem min2_mx (k k' : IntKind) (x y : Int) : Builtin.min2 (.int k x) (.int k' y) = pure (.int k (min x y)) := by rw [min2_int]; congr 2; omega
section
attribute [local go_sem] max2_mx min2_mx
set_option maxHeartbeats 2000000 in
set_option maxRecDepth 100000 in
theorem number_0 (A : Option Addr) (c : Nat) (l : List Int) (n : Int) (m : Nat) (w : World) (hr : Kd.C (Kd.int .u8) w A l.length l) (hm : min (max n 0) 9007199254740992 = (m : Int)) (hlm : l.length < 140737488355000) :
    Calls Try.prog 29 #[.slice A l.length c, .int .i64 n] w fun x w' => ∃ V, x = .returned V ∧ Kd.R (Kd.int .u8) 5 w' w.heap.size (fun _ => True) V (l ++ (((dg m).length : Int) :: dg m)) ∧ Below w.heap.size w w' := by
  have HR := Aside0.mk hr
  have h7 : (256 : Nat) ^ 7 = 72057594037927936 := by decide
  have hm7 : m < 256 ^ 7 := by omega
  have hd7 := dg_len 7 m hm7
  clear hr hm7 h7
  go_enter Try.func29, Try.ntmps29
  go_wp2_with fail
  refine wp_scope_count 0 (NumJ A c l w m) rfl ?_ ?_
  · rcases (show n < 0 ∨ n = 0 ∨ (0 < n ∧ 9007199254740992 < n) ∨ (0 < n ∧ n ≤ 9007199254740992) by omega) with h | rfl | ⟨h0, h⟩ | ⟨h0, h⟩
    · obtain rfl : m = 0 := by omega
      go_wp2
      go_step3
      have hq0 := Blk.new w [.int .u8 0, .int .u8 0, .int .u8 0, .int .u8 0, .int .u8 0, .int .u8 0, .int .u8 0, .int .u8 0] 85
      have hq1 : Blk (w.alloc (.cells #[.int .u8 0, .int .u8 0, .int .u8 0, .int .u8 0, .int .u8 0, .int .u8 0, .int .u8 0, .int .u8 0] 85)) w.heap.size 8 (lowC []) := hq0.congr fun i hi => by
        have h8 : i < 8 := hi
        have : i = 0 ∨ i = 1 ∨ i = 2 ∨ i = 3 ∨ i = 4 ∨ i = 5 ∨ i = 6 ∨ i = 7 := by omega
        rcases this with rfl | rfl | rfl | rfl | rfl | rfl | rfl | rfl <;> rfl
      have HQ := Aside0.mk hq1
      have HW := Aside0.mk (below_alloc (Below.refl w.heap.size w) (.cells #[.int .u8 0, .int .u8 0, .int .u8 0, .int .u8 0, .int .u8 0, .int .u8 0, .int .u8 0, .int .u8 0] 85))
      clear hq0 hq1
      generalize w.alloc (.cells #[.int .u8 0, .int .u8 0, .int .u8 0, .int .u8 0, .int .u8 0, .int .u8 0, .int .u8 0, .int .u8 0] 85) = wq at *
      obtain ⟨pre, hpre⟩ : ∃ pre : List Int, pre = l ++ [0] := ⟨_, rfl⟩
      have NP := Aside0.mk hpre
      clear hpre
      have HB := Aside0.mk (Below.refl wq.heap.size wq)
      have HRq := Aside0.mk (Kd.C_below HR.out HW.out)
      go_wp2_with (first | ((with_reducible refine gate_dst (N := 22) rfl ?_); (try (refine gate_guard (by rfl) ?_; dsimp only)); refine Kd.R_lit (Kd.int .u8) _ 5 ?hg (N := 22) ?hd (xs := ([] : List Int)) (inner := []) (ok := fun _ => True) (okp := fun _ => True) ?hr ?hp (fun _ hk => hk) trivial (Below.refl _ _) (Nat.le_refl _) (by simp) ?_; (case hd => rfl); (case hg => rfl); (case hr => first | (go_simp; done) | (go_simp; rfl)); (case hp => exact (Reps.none _ _)); intro vHO1 wHO1 ho hb hg_ hnew_; clear hg_ hnew_; have n0_ := Aside0.mk (Kd.R_lower ho (below_size (by repeat (first | (with_reducible first | exact HB.out | apply below_alloc | apply pw_below_drewN | apply below_drew1) | exact HB.out)))); have n1_ := Aside0.mk (below_step (by repeat (first | (with_reducible first | exact HB.out | apply below_alloc | apply pw_below_drewN | apply below_drew1) | exact HB.out)) hb); clear HB; have HO1 := n0_; have HB := n1_; clear n0_ n1_; clear hb ho) | ((with_reducible refine gate_builtin (b := .append) (xs := #[.tmp 22, .tmp 23]) rfl ?_); (try (refine gate_guard (by rfl) ?_; dsimp only)); at_builtin; refine Kd.R_append_rows (Kd.int .u8) (w0 := wq) wq.heap.size rfl (.tmp 22) (.tmp 23) 53 5 (.int .u8 0) 1 rfl Try.underlying53 info5 rfl (by decide) (by omega) vHO1 [] l _ _ _ (fun _ => True) (fun _ => False) rfl rfl ?aO ?aR (fun _ _ h => h) (fun _ h => h.elim) ?aF ?aB ?aS ?aL ?_; (case aR => repeat (first | exact (Kd.C_below HRq.out HB.out) | (with_reducible refine Kd.C_alloc ?_ _) | (with_reducible refine Kd.C_drewN ?_ _) | (with_reducible refine Kd.C_drew ?_))); (case aB => exact (by repeat (first | (with_reducible first | exact HB.out | apply below_alloc | apply pw_below_drewN | apply below_drew1) | exact HB.out))); (case aF => exact (fun _ _ => trivial)); (case aO => exact (by (with_reducible repeat (first | apply Kd.R_alloc | apply Kd.R_drewN | apply Kd.R_drew)); exact HO1.out)); (case aS => exact (below_size (by repeat (first | (with_reducible first | exact HB.out | apply below_alloc | apply pw_below_drewN | apply below_drew1) | exact HB.out)))); (case aL => simp only [List.length_nil]; omega); intro vHO2 wHO2 ho hb hg hat; (try rw [List.nil_append] at ho); have n0_ := Aside0.mk (hb); have n1_ := Aside0.mk (ho); clear HB; clear HO1; have HB := n0_; have HO2 := n1_; clear n0_ n1_; clear ho hb hg hat) | ((with_reducible refine gate_builtin (b := .append) (xs := #[.tmp 24, .tmp 27]) rfl ?_); at_builtin; (refine Kd.R_append (Kd.int .u8) (w0 := wq) wq.heap.size rfl (.tmp 24) (.tmp 27) 53 5 (.int .u8 0) 1 rfl Try.underlying53 info5 rfl (by decide) (by omega) vHO2 l 0 [.int .u8 0] (fun _ => True) (fun _ => False) rfl rfl ?aP (fun _ hk => hk.elim) ?aF ?aO ?aB ?aS ?aL ?_); (case aP => exact rfl); (case aB => exact (by repeat (first | (with_reducible first | exact HB.out | apply below_alloc | apply pw_below_drewN | apply below_drew1) | exact HB.out))); (case aF => exact (fun _ _ => trivial)); (case aO => exact (by (with_reducible repeat (first | apply Kd.R_alloc | apply Kd.R_drewN | apply Kd.R_drew)); exact HO2.out)); (case aS => exact (below_size (by repeat (first | (with_reducible first | exact HB.out | apply below_alloc | apply pw_below_drewN | apply below_drew1) | exact HB.out)))); (case aL => omega); intro vHO3 wHO3 ho hb hg hat; rw [← NP.out] at ho; have n0_ := Aside0.mk (hb); have n1_ := Aside0.mk (ho); clear HB; clear HO2; have HB := n0_; have HO3 := n1_; clear n0_ n1_; clear ho hb hg hat))
      obtain ⟨wo0, rfl⟩ : ∃ x : World, x = wHO3 := ⟨_, rfl⟩
      go_loopw [7, 8] (fun v7 v8 wr => v8 = .int .i64 (-1) ∧ Aside0 (Kd.R (Kd.int .u8) 5 wr wq.heap.size (fun _ => True) v7 pre) ∧ Aside0 (Below wq.heap.size wq wr)) (fun _ _ _ => 0)
      case atStart => exact ⟨by go_num, HO3, HB⟩
      case round =>
        obtain ⟨rfl, HVr, HBr⟩ := hrel
        obtain ⟨wo, rfl⟩ : ∃ x : World, x = wr := ⟨_, rfl⟩
        go_wp2
        simp only [Exit.jump]
        go_ret
        refine ⟨_, rfl, Kd.R_lower ?_ HW.out.size, below_step HW.out HBr.out⟩
        have h := HVr.out
        rw [NP.out] at h
        rw [dg_zero]
        exact h
    · obtain rfl : m = 0 := by omega
      go_wp2
      go_step3
      have hq0 := Blk.new w [.int .u8 0, .int .u8 0, .int .u8 0, .int .u8 0, .int .u8 0, .int .u8 0, .int .u8 0, .int .u8 0] 85
      have hq1 : Blk (w.alloc (.cells #[.int .u8 0, .int .u8 0, .int .u8 0, .int .u8 0, .int .u8 0, .int .u8 0, .int .u8 0, .int .u8 0] 85)) w.heap.size 8 (lowC []) := hq0.congr fun i hi => by
        have h8 : i < 8 := hi
        have : i = 0 ∨ i = 1 ∨ i = 2 ∨ i = 3 ∨ i = 4 ∨ i = 5 ∨ i = 6 ∨ i = 7 := by omega
        rcases this with rfl | rfl | rfl | rfl | rfl | rfl | rfl | rfl <;> rfl
      have HQ := Aside0.mk hq1
      have HW := Aside0.mk (below_alloc (Below.refl w.heap.size w) (.cells #[.int .u8 0, .int .u8 0, .int .u8 0, .int .u8 0, .int .u8 0, .int .u8 0, .int .u8 0, .int .u8 0] 85))
      clear hq0 hq1
      generalize w.alloc (.cells #[.int .u8 0, .int .u8 0, .int .u8 0, .int .u8 0, .int .u8 0, .int .u8 0, .int .u8 0, .int .u8 0] 85) = wq at *
      obtain ⟨pre, hpre⟩ : ∃ pre : List Int, pre = l ++ [0] := ⟨_, rfl⟩
      have NP := Aside0.mk hpre
      clear hpre
      have HB := Aside0.mk (Below.refl wq.heap.size wq)
      have HRq := Aside0.mk (Kd.C_below HR.out HW.out)
      go_wp2_with (first | ((with_reducible refine gate_dst (N := 22) rfl ?_); (try (refine gate_guard (by rfl) ?_; dsimp only)); refine Kd.R_lit (Kd.int .u8) _ 5 ?hg (N := 22) ?hd (xs := ([] : List Int)) (inner := []) (ok := fun _ => True) (okp := fun _ => True) ?hr ?hp (fun _ hk => hk) trivial (Below.refl _ _) (Nat.le_refl _) (by simp) ?_; (case hd => rfl); (case hg => rfl); (case hr => first | (go_simp; done) | (go_simp; rfl)); (case hp => exact (Reps.none _ _)); intro vHO1 wHO1 ho hb hg_ hnew_; clear hg_ hnew_; have n0_ := Aside0.mk (Kd.R_lower ho (below_size (by repeat (first | (with_reducible first | exact HB.out | apply below_alloc | apply pw_below_drewN | apply below_drew1) | exact HB.out)))); have n1_ := Aside0.mk (below_step (by repeat (first | (with_reducible first | exact HB.out | apply below_alloc | apply pw_below_drewN | apply below_drew1) | exact HB.out)) hb); clear HB; have HO1 := n0_; have HB := n1_; clear n0_ n1_; clear hb ho) | ((with_reducible refine gate_builtin (b := .append) (xs := #[.tmp 22, .tmp 23]) rfl ?_); (try (refine gate_guard (by rfl) ?_; dsimp only)); at_builtin; refine Kd.R_append_rows (Kd.int .u8) (w0 := wq) wq.heap.size rfl (.tmp 22) (.tmp 23) 53 5 (.int .u8 0) 1 rfl Try.underlying53 info5 rfl (by decide) (by omega) vHO1 [] l _ _ _ (fun _ => True) (fun _ => False) rfl rfl ?aO ?aR (fun _ _ h => h) (fun _ h => h.elim) ?aF ?aB ?aS ?aL ?_; (case aR => repeat (first | exact (Kd.C_below HRq.out HB.out) | (with_reducible refine Kd.C_alloc ?_ _) | (with_reducible refine Kd.C_drewN ?_ _) | (with_reducible refine Kd.C_drew ?_))); (case aB => exact (by repeat (first | (with_reducible first | exact HB.out | apply below_alloc | apply pw_below_drewN | apply below_drew1) | exact HB.out))); (case aF => exact (fun _ _ => trivial)); (case aO => exact (by (with_reducible repeat (first | apply Kd.R_alloc | apply Kd.R_drewN | apply Kd.R_drew)); exact HO1.out)); (case aS => exact (below_size (by repeat (first | (with_reducible first | exact HB.out | apply below_alloc | apply pw_below_drewN | apply below_drew1) | exact HB.out)))); (case aL => simp only [List.length_nil]; omega); intro vHO2 wHO2 ho hb hg hat; (try rw [List.nil_append] at ho); have n0_ := Aside0.mk (hb); have n1_ := Aside0.mk (ho); clear HB; clear HO1; have HB := n0_; have HO2 := n1_; clear n0_ n1_; clear ho hb hg hat) | ((with_reducible refine gate_builtin (b := .append) (xs := #[.tmp 24, .tmp 27]) rfl ?_); at_builtin; (refine Kd.R_append (Kd.int .u8) (w0 := wq) wq.heap.size rfl (.tmp 24) (.tmp 27) 53 5 (.int .u8 0) 1 rfl Try.underlying53 info5 rfl (by decide) (by omega) vHO2 l 0 [.int .u8 0] (fun _ => True) (fun _ => False) rfl rfl ?aP (fun _ hk => hk.elim) ?aF ?aO ?aB ?aS ?aL ?_); (case aP => exact rfl); (case aB => exact (by repeat (first | (with_reducible first | exact HB.out | apply below_alloc | apply pw_below_drewN | apply below_drew1) | exact HB.out))); (case aF => exact (fun _ _ => trivial)); (case aO => exact (by (with_reducible repeat (first | apply Kd.R_alloc | apply Kd.R_drewN | apply Kd.R_drew)); exact HO2.out)); (case aS => exact (below_size (by repeat (first | (with_reducible first | exact HB.out | apply below_alloc | apply pw_below_drewN | apply below_drew1) | exact HB.out)))); (case aL => omega); intro vHO3 wHO3 ho hb hg hat; rw [← NP.out] at ho; have n0_ := Aside0.mk (hb); have n1_ := Aside0.mk (ho); clear HB; clear HO2; have HB := n0_; have HO3 := n1_; clear n0_ n1_; clear ho hb hg hat))
      obtain ⟨wo0, rfl⟩ : ∃ x : World, x = wHO3 := ⟨_, rfl⟩
      go_loopw [7, 8] (fun v7 v8 wr => v8 = .int .i64 (-1) ∧ Aside0 (Kd.R (Kd.int .u8) 5 wr wq.heap.size (fun _ => True) v7 pre) ∧ Aside0 (Below wq.heap.size wq wr)) (fun _ _ _ => 0)
      case atStart => exact ⟨by go_num, HO3, HB⟩
      case round =>
        obtain ⟨rfl, HVr, HBr⟩ := hrel
        obtain ⟨wo, rfl⟩ : ∃ x : World, x = wr := ⟨_, rfl⟩
        go_wp2
        simp only [Exit.jump]
        go_ret
        refine ⟨_, rfl, Kd.R_lower ?_ HW.out.size, below_step HW.out HBr.out⟩
        have h := HVr.out
        rw [NP.out] at h
        rw [dg_zero]
        exact h
    · have hmf : (9007199254740992 : Int) = (m : Int) := by omega
      go_wp2
      go_step3
      have hq0 := Blk.new w [.int .u8 0, .int .u8 0, .int .u8 0, .int .u8 0, .int .u8 0, .int .u8 0, .int .u8 0, .int .u8 0] 85
      have hq1 : Blk (w.alloc (.cells #[.int .u8 0, .int .u8 0, .int .u8 0, .int .u8 0, .int .u8 0, .int .u8 0, .int .u8 0, .int .u8 0] 85)) w.heap.size 8 (lowC []) := hq0.congr fun i hi => by
        have h8 : i < 8 := hi
        have : i = 0 ∨ i = 1 ∨ i = 2 ∨ i = 3 ∨ i = 4 ∨ i = 5 ∨ i = 6 ∨ i = 7 := by omega
        rcases this with rfl | rfl | rfl | rfl | rfl | rfl | rfl | rfl <;> rfl
      have HQ := Aside0.mk hq1
      have HW := Aside0.mk (below_alloc (Below.refl w.heap.size w) (.cells #[.int .u8 0, .int .u8 0, .int .u8 0, .int .u8 0, .int .u8 0, .int .u8 0, .int .u8 0, .int .u8 0] 85))
      clear hq0 hq1
      generalize w.alloc (.cells #[.int .u8 0, .int .u8 0, .int .u8 0, .int .u8 0, .int .u8 0, .int .u8 0, .int .u8 0, .int .u8 0] 85) = wq at *
      have b0 : decide ((m : Int) > 0) = true := decide_eq_true (by omega)
      have hp := dg_pos (show 0 < m by omega)
      have e1 : ((m / 256 : Nat) : Int) = (m : Int) / 256 := by omega
      have hfz := HQ.out.fz 0
      have hcl := HQ.out.cell 0 (by omega)
      go_wp2
      go_step3
      refine ⟨rfl, m / 256, [(m : Int) % 256], _, _, _, _, _, _, _, _, _, _, _, _, _, _, _, _, _, _, _, _, _, _, _, _, _, _, _, _, _, _, _, _, _, _, _, _, _, (by rw [e1]; rfl), ?_, ?_, ?_, below_set HW.out (Nat.le_refl _)⟩
      · rw [hp]; rfl
      · intro y hy
        rw [List.mem_singleton] at hy; omega
      · exact (HQ.out.set (show 0 < 8 by omega) _).congr fun i hi => lowC_snoc [] _ i
    · obtain rfl : n = (m : Int) := by omega
      go_wp2
      go_step3
      have hq0 := Blk.new w [.int .u8 0, .int .u8 0, .int .u8 0, .int .u8 0, .int .u8 0, .int .u8 0, .int .u8 0, .int .u8 0] 85
      have hq1 : Blk (w.alloc (.cells #[.int .u8 0, .int .u8 0, .int .u8 0, .int .u8 0, .int .u8 0, .int .u8 0, .int .u8 0, .int .u8 0] 85)) w.heap.size 8 (lowC []) := hq0.congr fun i hi => by
        have h8 : i < 8 := hi
        have : i = 0 ∨ i = 1 ∨ i = 2 ∨ i = 3 ∨ i = 4 ∨ i = 5 ∨ i = 6 ∨ i = 7 := by omega
        rcases this with rfl | rfl | rfl | rfl | rfl | rfl | rfl | rfl <;> rfl
      have HQ := Aside0.mk hq1
      have HW := Aside0.mk (below_alloc (Below.refl w.heap.size w) (.cells #[.int .u8 0, .int .u8 0, .int .u8 0, .int .u8 0, .int .u8 0, .int .u8 0, .int .u8 0, .int .u8 0] 85))
      clear hq0 hq1
      generalize w.alloc (.cells #[.int .u8 0, .int .u8 0, .int .u8 0, .int .u8 0, .int .u8 0, .int .u8 0, .int .u8 0, .int .u8 0] 85) = wq at *
      have b0 : decide ((m : Int) > 0) = true := decide_eq_true (by omega)
      have hp := dg_pos (show 0 < m by omega)
      have e1 : ((m / 256 : Nat) : Int) = (m : Int) / 256 := by omega
      have hfz := HQ.out.fz 0
      have hcl := HQ.out.cell 0 (by omega)
      go_wp2
      go_step3
      refine ⟨rfl, m / 256, [(m : Int) % 256], _, _, _, _, _, _, _, _, _, _, _, _, _, _, _, _, _, _, _, _, _, _, _, _, _, _, _, _, _, _, _, _, _, _, _, _, _, (by rw [e1]; rfl), ?_, ?_, ?_, below_set HW.out (Nat.le_refl _)⟩
      · rw [hp]; rfl
      · intro y hy
        rw [List.mem_singleton] at hy; omega
      · exact (HQ.out.set (show 0 < 8 by omega) _).congr fun i hi => lowC_snoc [] _ i
  · rintro x a' wq ⟨L, u2, u3, u7, u8, u9, u10, u11, u12, u13, u14, u15, u16, u17, u18, u19, u20, u21, u22, u23, u24, u25, u26, u27, u28, u29, u30, u31, u32, u33, u34, u35, u36, u37, u38, u39, u40, u41, rfl, hd, hbL, hbk, hbw⟩
    have HL0 := Aside0.mk hd
    have HY := Aside0.mk hbL
    have HQ := Aside0.mk hbk
    have HW := Aside0.mk hbw
    have hll : (dg x).length + L.length = (dg m).length := by rw [← hd, List.length_append, List.length_reverse]
    clear hd hbL hbk hbw
    by_cases hx0 : 0 < x
    · have b0 : decide ((x : Int) > 0) = true := decide_eq_true (by omega)
      have hp := dg_pos hx0
      have hl1 : L.length < 8 := by have := congrArg List.length hp; rw [List.length_append, List.length_singleton] at this; omega
      have hfz := HQ.out.fz L.length
      have hcl := HQ.out.cell L.length hl1
      go_wp2
      go_step3
      have e1 : ((x / 256 : Nat) : Int) = (x : Int) / 256 := by omega
      have e2 : ((L ++ [(x : Int) % 256]).length : Int) = (L.length : Int) + 1 := by rw [List.length_append]; rfl
      refine ⟨rfl, x / 256, by omega, L ++ [(x : Int) % 256], _, _, _, _, _, _, _, _, _, _, _, _, _, _, _, _, _, _, _, _, _, _, _, _, _, _, _, _, _, _, _, _, _, _, _, _, _, (by rw [e1, e2]), ?_, ?_, ?_, below_set HW.out (Nat.le_refl _)⟩
      · rw [List.reverse_append, ← HL0.out, hp, List.append_assoc]; rfl
      · intro y hy
        rcases List.mem_append.mp hy with h | h
        · exact HY.out y h
        · rw [List.mem_singleton] at h; omega
      · exact (HQ.out.set hl1 _).congr fun i hi => lowC_snoc L _ i
    · obtain rfl : x = 0 := by omega
      have HL := Aside0.mk (show L.reverse = dg m by have := HL0.out; rwa [dg_zero, List.nil_append] at this)
      have hL7 : L.length ≤ 7 := by omega
      clear HL0
      obtain ⟨pre, hpre⟩ : ∃ pre : List Int, pre = l ++ [(L.length : Int)] := ⟨_, rfl⟩
      have hpl : pre.length = l.length + 1 := by rw [hpre]; simp
      have NP := Aside0.mk hpre
      clear hpre
      have HB := Aside0.mk (Below.refl wq.heap.size wq)
      have HRq := Aside0.mk (Kd.C_below HR.out HW.out)
      have hgq : w.heap.size < wq.heap.size := World.block_lt_of_cell? wq _ (HQ.out.cell 0 (by omega))
      go_wp2_with (first | ((with_reducible refine gate_dst (N := 22) rfl ?_); (try (refine gate_guard (by rfl) ?_; dsimp only)); refine Kd.R_lit (Kd.int .u8) _ 5 ?hg (N := 22) ?hd (xs := ([] : List Int)) (inner := []) (ok := fun _ => True) (okp := fun _ => True) ?hr ?hp (fun _ hk => hk) trivial (Below.refl _ _) (Nat.le_refl _) (by simp) ?_; (case hd => rfl); (case hg => rfl); (case hr => first | (go_simp; done) | (go_simp; rfl)); (case hp => exact (Reps.none _ _)); intro vHO1 wHO1 ho hb hg_ hnew_; clear hg_ hnew_; have n0_ := Aside0.mk (Kd.R_lower ho (below_size (by repeat (first | (with_reducible first | exact HB.out | apply below_alloc | apply pw_below_drewN | apply below_drew1) | exact HB.out)))); have n1_ := Aside0.mk (below_step (by repeat (first | (with_reducible first | exact HB.out | apply below_alloc | apply pw_below_drewN | apply below_drew1) | exact HB.out)) hb); clear HB; have HO1 := n0_; have HB := n1_; clear n0_ n1_; clear hb ho) | ((with_reducible refine gate_builtin (b := .append) (xs := #[.tmp 22, .tmp 23]) rfl ?_); (try (refine gate_guard (by rfl) ?_; dsimp only)); at_builtin; refine Kd.R_append_rows (Kd.int .u8) (w0 := wq) wq.heap.size rfl (.tmp 22) (.tmp 23) 53 5 (.int .u8 0) 1 rfl Try.underlying53 info5 rfl (by decide) (by omega) vHO1 [] l _ _ _ (fun _ => True) (fun _ => False) rfl rfl ?aO ?aR (fun _ _ h => h) (fun _ h => h.elim) ?aF ?aB ?aS ?aL ?_; (case aR => repeat (first | exact (Kd.C_below HRq.out HB.out) | (with_reducible refine Kd.C_alloc ?_ _) | (with_reducible refine Kd.C_drewN ?_ _) | (with_reducible refine Kd.C_drew ?_))); (case aB => exact (by repeat (first | (with_reducible first | exact HB.out | apply below_alloc | apply pw_below_drewN | apply below_drew1) | exact HB.out))); (case aF => exact (fun _ _ => trivial)); (case aO => exact (by (with_reducible repeat (first | apply Kd.R_alloc | apply Kd.R_drewN | apply Kd.R_drew)); exact HO1.out)); (case aS => exact (below_size (by repeat (first | (with_reducible first | exact HB.out | apply below_alloc | apply pw_below_drewN | apply below_drew1) | exact HB.out)))); (case aL => simp only [List.length_nil]; omega); intro vHO2 wHO2 ho hb hg hat; (try rw [List.nil_append] at ho); have n0_ := Aside0.mk (hb); have n1_ := Aside0.mk (ho); clear HB; clear HO1; have HB := n0_; have HO2 := n1_; clear n0_ n1_; clear ho hb hg hat) | ((with_reducible refine gate_builtin (b := .append) (xs := #[.tmp 24, .tmp 27]) rfl ?_); at_builtin; (refine Kd.R_append (Kd.int .u8) (w0 := wq) wq.heap.size rfl (.tmp 24) (.tmp 27) 53 5 (.int .u8 0) 1 rfl Try.underlying53 info5 rfl (by decide) (by omega) vHO2 l (L.length : Int) [.int .u8 (L.length : Int)] (fun _ => True) (fun _ => False) rfl rfl ?aP (fun _ hk => hk.elim) ?aF ?aO ?aB ?aS ?aL ?_); (case aP => exact rfl); (case aB => exact (by repeat (first | (with_reducible first | exact HB.out | apply below_alloc | apply pw_below_drewN | apply below_drew1) | exact HB.out))); (case aF => exact (fun _ _ => trivial)); (case aO => exact (by (with_reducible repeat (first | apply Kd.R_alloc | apply Kd.R_drewN | apply Kd.R_drew)); exact HO2.out)); (case aS => exact (below_size (by repeat (first | (with_reducible first | exact HB.out | apply below_alloc | apply pw_below_drewN | apply below_drew1) | exact HB.out)))); (case aL => omega); intro vHO3 wHO3 ho hb hg hat; rw [← NP.out] at ho; have n0_ := Aside0.mk (hb); have n1_ := Aside0.mk (ho); clear HB; clear HO2; have HB := n0_; have HO3 := n1_; clear n0_ n1_; clear ho hb hg hat))
      obtain ⟨wo0, rfl⟩ : ∃ x : World, x = wHO3 := ⟨_, rfl⟩
      go_loopw [7, 8] (fun v7 v8 wr => ∃ (j : Nat), j ≤ L.length ∧ v8 = .int .i64 ((L.length : Int) - 1 - j) ∧ Aside0 (Kd.R (Kd.int .u8) 5 wr wq.heap.size (fun _ => True) v7 (pre ++ L.reverse.take j)) ∧ Aside0 (Below wq.heap.size wq wr)) (fun _ v8 _ => ((intOf v8) + 1).toNat)
      case atStart => exact ⟨0, by omega, by go_num, ⟨by rw [List.take_zero, List.append_nil]; exact HO3.out⟩, HB⟩
      case round =>
        obtain ⟨j, hj, rfl, HVr, HBr⟩ := hrel
        obtain ⟨wo, rfl⟩ : ∃ x : World, x = wr := ⟨_, rfl⟩
        clear HB HO3
        have HB := HBr
        clear HBr
        by_cases hlt : j < L.length
        · obtain ⟨i, hi⟩ : ∃ i : Nat, (L.length : Int) - 1 - j = i := ⟨L.length - 1 - j, by omega⟩
          rw [hi]
          have hci : wo.cell? ⟨w.heap.size, i, none⟩ = some (.int .u8 (L.getD i 0)) := (HQ.out.below HB.out hgq).cell i (by omega)
          have hnx : pre ++ L.reverse.take (j + 1) = pre ++ L.reverse.take j ++ [L.getD i 0] := by
            rw [List.append_assoc, List.take_add_one, List.getElem?_reverse hlt, show L.length - 1 - j = i by omega, List.getElem?_eq_getElem (by omega), List.getD_eq_getElem?_getD, List.getElem?_eq_getElem (by omega)]; rfl
          have hpj : (pre ++ L.reverse.take j).length = pre.length + j := by rw [List.length_append, List.length_take, List.length_reverse]; omega
          have HN := Aside0.mk hnx
          have hi8 : i < 8 := by omega
          clear hnx
          generalize L.getD i 0 = e at *
          generalize pre ++ L.reverse.take j = cur at *
          go_wp2_with (first | ((with_reducible refine gate_builtin (b := .append) (xs := #[.tmp 35, .tmp 39]) rfl ?_); at_builtin; (refine Kd.R_append (Kd.int .u8) (w0 := wq) wq.heap.size rfl (.tmp 35) (.tmp 39) 53 5 (.int .u8 0) 1 rfl Try.underlying53 info5 rfl (by decide) (by omega) u7 cur e [.int .u8 e] (fun _ => True) (fun _ => False) rfl rfl ?aP (fun _ hk => hk.elim) ?aF ?aO ?aB ?aS ?aL ?_); (case aP => exact rfl); (case aB => exact (by repeat (first | (with_reducible first | exact HB.out | apply below_alloc | apply pw_below_drewN | apply below_drew1) | exact HB.out))); (case aF => exact (fun _ _ => trivial)); (case aO => exact (by (with_reducible repeat (first | apply Kd.R_alloc | apply Kd.R_drewN | apply Kd.R_drew)); exact HVr.out)); (case aS => exact (below_size (by repeat (first | (with_reducible first | exact HB.out | apply below_alloc | apply pw_below_drewN | apply below_drew1) | exact HB.out)))); (case aL => omega); intro vHO4 wHO4 ho hb hg hat; have n0_ := Aside0.mk (hb); have n1_ := Aside0.mk (ho); clear HB; clear HVr; have HB := n0_; have HO4 := n1_; clear n0_ n1_; clear ho hb hg hat))
          go_roundw
          case rel => exact ⟨j + 1, by omega, by rw [← hi]; go_num, ⟨by rw [HN.out]; exact HO4.out⟩, HB⟩
          case measure => simp [intOf]
        · obtain rfl : j = L.length := by omega
          have b1 : decide ((L.length : Int) - 1 - (L.length : Int) >= 0) = false := decide_eq_false (by omega)
          go_wp2
          simp only [Exit.jump]
          go_ret
          refine ⟨_, rfl, Kd.R_lower ?_ HW.out.size, below_step HW.out HB.out⟩
          have h := HVr.out
          rw [← List.length_reverse, List.take_length, HL.out, NP.out] at h
          have hlen : L.length = (dg m).length := by rw [← HL.out, List.length_reverse]
          rw [hlen, List.append_assoc] at h
          exact h
end
/-- bytes that are read -/
def Rd (w : World) (v : Value) (l : List Int) : Prop := ∃ A c, v = .slice A l.length c ∧ Kd.C (Kd.int .u8) w A l.length l ∧ l.length ≤ c
theorem Rd.below {w w' : World} {v : Value} {l : List Int} (h : Rd w v l) (hb : Below w.heap.size w w') : Rd w' v l := by
  obtain ⟨A, c, e, h1, h2⟩ := h
  exact ⟨A, c, e, Kd.C_below h1 hb, h2⟩
theorem Rd.nil (w : World) : Rd w (.slice none 0 0) [] := ⟨none, 0, rfl, Kd.C_nil _ w, Nat.le_refl _⟩
theorem Rd.own {e base : Nat} {w : World} {v : Value} {l : List Int} {ok : Nat → Prop} (h : Kd.R (Kd.int .u8) e w base ok v l) : Rd w v l := by
  obtain ⟨A, c, e⟩ := Kd.R_slice h
  subst e
  obtain ⟨_, h2, h3⟩ := Kd.R_reads' h
  exact ⟨A, c, rfl, h3, h2⟩
def clamp (n : Int) : Nat := (min (max n 0) 9007199254740992).toNat
theorem clamp_eq (n : Int) : min (max n 0) 9007199254740992 = (clamp n : Int) := by unfold clamp; omega
theorem clamp_le (n : Int) : clamp n ≤ 9007199254740992 := by unfold clamp; omega
/-- a number behind bytes -/
def numB (l : List Int) (n : Int) : List Int := l ++ (((dg (clamp n)).length : Int) :: dg (clamp n))
def textB (l s : List Int) : List Int := numB l s.length ++ s
theorem dg_bytes : ∀ n : Nat, Bytes (dg n) := by
  intro n
  induction n using Nat.strongRecOn with
  | _ n ih =>
    rcases Nat.eq_zero_or_pos n with rfl | hp
    · rw [dg_zero]; intro x hx; cases hx
    · rw [dg_pos hp]
      intro x hx
      rcases List.mem_append.mp hx with h | h
      · exact ih _ (by omega) x h
      · rw [List.mem_singleton] at h; omega
theorem dg_len7 {m : Nat} (h : m ≤ 9007199254740992) : (dg m).length ≤ 7 := dg_len 7 m (by have h7 : (256 : Nat) ^ 7 = 72057594037927936 := by decide
                                                                                           omega)
theorem numB_len (l : List Int) (n : Int) : l.length < (numB l n).length ∧ (numB l n).length ≤ l.length + 8 := by
  have := dg_len7 (clamp_le n)
  unfold numB
  rw [List.length_append, List.length_cons]; omega
theorem Bytes.app {a b : List Int} (ha : Bytes a) (hb : Bytes b) : Bytes (a ++ b) := fun x hx => by
  rcases List.mem_append.mp hx with h | h
  · exact ha x h
  · exact hb x h
theorem numB_bytes {l : List Int} (h : Bytes l) (n : Int) : Bytes (numB l n) := by
  have := dg_len7 (clamp_le n)
  refine h.app fun x hx => ?_
  rcases List.mem_cons.mp hx with rfl | h
  · omega
  · exact dg_bytes _ x h
theorem textB_bytes {l s : List Int} (h : Bytes l) (hs : Bytes s) : Bytes (textB l s) := (numB_bytes h _).app hs
theorem number_calls {w : World} {V : Value} {l : List Int} (h : Rd w V l) (hm : l.length < 140737488355000) (n : Int) : Calls Try.prog 29 #[V, .int .i64 n] w fun e w' => ∃ V', e = .returned V' ∧ Kd.R (Kd.int .u8) 5 w' w.heap.size (fun _ => True) V' (numB l n) ∧ Below w.heap.size w w' := by
  obtain ⟨A, c, rfl, h1, _⟩ := h
  exact number_0 A c l n (clamp n) w h1 (clamp_eq n) hm
set_option maxHeartbeats 1000000 in
set_option maxRecDepth 100000 in
theorem puttext_0 (A A1 : Option Addr) (c c1 : Nat) (l s : List Int) (w : World) (hr : Rd w (.slice A l.length c) l) (hs : Kd.C (Kd.int .u8) w A1 s.length s) (hm : l.length + s.length < 140737488355000) :
    Calls Try.prog 30 #[.slice A l.length c, .slice A1 s.length c1] w fun e w' => ∃ V', e = .returned V' ∧ Kd.R (Kd.int .u8) 5 w' w.heap.size (fun _ => True) V' (textB l s) ∧ Below w.heap.size w w' := by
  have HR := Aside0.mk hr
  have HS := Aside0.mk hs
  have hl := numB_len l s.length
  have HT := Aside0.mk (show textB l s = numB l s.length ++ s from rfl)
  clear hr hs
  generalize hnb : numB l s.length = nb at *
  have HN := Aside0.mk hnb
  clear hnb
  go_enter Try.func30, Try.ntmps30
  go_wp2_with (first | (go_at_call 29; refine (number_calls HR.out (by omega) s.length).mono ?_; rw [HN.out]; rintro e w2 ⟨vHO1, rfl, ho, hb⟩; have HB := Aside0.mk hb; have HO1 := Aside0.mk ho; clear hb ho) | ((with_reducible refine gate_builtin (b := .append) (xs := #[.tmp 8, .tmp 9]) rfl ?_); (try (refine gate_guard (by rfl) ?_; dsimp only)); at_builtin; refine Kd.R_append_rows (Kd.int .u8) (w0 := w) w.heap.size rfl (.tmp 8) (.tmp 9) 53 5 (.int .u8 0) 1 rfl Try.underlying53 info5 rfl (by decide) (by omega) vHO1 nb s _ _ _ (fun _ => True) (fun _ => False) rfl rfl ?aO ?aR (fun _ _ h => h) (fun _ h => h.elim) ?aF ?aB ?aS ?aL ?_; (case aR => repeat (first | exact (Kd.C_below HS.out HB.out) | (with_reducible refine Kd.C_alloc ?_ _) | (with_reducible refine Kd.C_drewN ?_ _) | (with_reducible refine Kd.C_drew ?_))); (case aB => exact (by repeat (first | (with_reducible first | exact HB.out | apply below_alloc | apply pw_below_drewN | apply below_drew1) | exact HB.out))); (case aF => exact (fun _ _ => trivial)); (case aO => exact (by (with_reducible repeat (first | apply Kd.R_alloc | apply Kd.R_drewN | apply Kd.R_drew)); exact HO1.out)); (case aS => exact (below_size (by repeat (first | (with_reducible first | exact HB.out | apply below_alloc | apply pw_below_drewN | apply below_drew1) | exact HB.out)))); (case aL => omega); intro vHO2 wHO2 ho hb hg hat; (try rw [List.nil_append] at ho); have n0_ := Aside0.mk (hb); have n1_ := Aside0.mk (ho); clear HB; clear HO1; have HB := n0_; have HO2 := n1_; clear n0_ n1_; clear ho hb hg hat))
  go_ret
  exact ⟨_, rfl, by rw [HT.out]; exact HO2.out, HB.out⟩
theorem puttext_calls {w : World} {V S : Value} {l s : List Int} (h : Rd w V l) (hs : Rd w S s) (hm : l.length + s.length < 140737488355000) : Calls Try.prog 30 #[V, S] w fun e w' => ∃ V', e = .returned V' ∧ Kd.R (Kd.int .u8) 5 w' w.heap.size (fun _ => True) V' (textB l s) ∧ Below w.heap.size w w' := by
  obtain ⟨A, c, rfl, h1, h2⟩ := h
  obtain ⟨A1, c1, rfl, h3, _⟩ := hs
  exact puttext_0 A A1 c c1 l s w ⟨A, c, rfl, h1, h2⟩ h3 hm
end Go.Proofs.Ytphpinfingaffaa.Law
