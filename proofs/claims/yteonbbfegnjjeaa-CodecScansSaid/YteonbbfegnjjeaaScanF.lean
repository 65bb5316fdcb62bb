/- Contracts of what puts and reads, in one form. -/
import Derived.Test.YteonbbfegnjjeaaNumber
namespace Go.Proofs.Yteonbbfegnjjeaa.Law
open Go.RowKit Go.Proofs.Yteonbbfegnjjeaa Go.Proofs.YteonbbfegnjjeaaW.PrintWords Go.Proofs.YteonbbfegnjjeaaW.PrintLast Go.Proofs.YteonbbfegnjjeaaW.PrintMore Go.Proofs.Yteonbbfegnjjeaa.D
theorem Scn.own {e base : Nat} {w : World} {v : Value} {l : List Int} {ok : Nat → Prop} (h : Kd.R (Kd.int .u8) e w base ok v l) (hb : Bytes l) (er : Int) : Scn w (.agg #[v, .int .i64 er]) l er := by
  obtain ⟨A, c, rfl, h1, h2⟩ := Rd.own h
  exact ⟨A, c, rfl, h1, h2, hb⟩
theorem Scn.of_rd {w : World} {v : Value} {l : List Int} (h : Rd w v l) (hb : Bytes l) (er : Int) : Scn w (.agg #[v, .int .i64 er]) l er := by
  obtain ⟨A, c, rfl, h1, h2⟩ := h
  exact ⟨A, c, rfl, h1, h2, hb⟩
theorem Scn.bytes {w : World} {v : Value} {l : List Int} {er : Int} (h : Scn w v l er) : Bytes l := by obtain ⟨_, _, _, _, _, h⟩ := h; exact h
def clamp (n : Int) : Nat := (min (max n 0) 9007199254740992).toNat
theorem clamp_eq (n : Int) : min (max n 0) 9007199254740992 = (clamp n : Int) := by unfold clamp; omega
theorem clamp_le (n : Int) : clamp n ≤ 9007199254740992 := by unfold clamp; omega
/-- a number behind bytes -/
def numB (l : List Int) (n : Int) : List Int := l ++ (((dg (clamp n)).length : Int) :: dg (clamp n))
def textB (l s : List Int) : List Int := numB l s.length ++ s
theorem dg_bytes : ∀ n : Nat, Bytes (dg n) := by
  intro n
  induction n using Nat.strongRecOn with
  | _ n ih =>
    rcases Nat.eq_zero_or_pos n with rfl | hp
    · rw [dg_zero]; intro x hx; cases hx
    · rw [dg_pos hp]
      intro x hx
      rcases List.mem_append.mp hx with h | h
      · exact ih _ (by omega) x h
      · rw [List.mem_singleton] at h; omega
theorem dg_len7 {m : Nat} (h : m ≤ 9007199254740992) : (dg m).length ≤ 7 := dg_len 7 m (by have h7 : (256 : Nat) ^ 7 = 72057594037927936 := by decide
                                                                                           omega)
theorem numB_len (l : List Int) (n : Int) : l.length < (numB l n).length ∧ (numB l n).length ≤ l.length + 8 := by
  have := dg_len7 (clamp_le n)
  unfold numB
  rw [List.length_append, List.length_cons]; omega
theorem Bytes.app {a b : List Int} (ha : Bytes a) (hb : Bytes b) : Bytes (a ++ b) := fun x hx => by
  rcases List.mem_append.mp hx with h | h
  · exact ha x h
  · exact hb x h
theorem numB_bytes {l : List Int} (h : Bytes l) (n : Int) : Bytes (numB l n) := by
  have := dg_len7 (clamp_le n)
  refine h.app fun x hx => ?_
  rcases List.mem_cons.mp hx with rfl | h
  · omega
  · exact dg_bytes _ x h
theorem textB_bytes {l s : List Int} (h : Bytes l) (hs : Bytes s) : Bytes (textB l s) := (numB_bytes h _).app hs
/-! contracts -/
theorem own_calls {w : World} {V : Value} {l : List Int} (h : Rd w V l) (hm : l.length < 140737488355328) : Calls Try.prog 9 #[V] w fun e w' => ∃ V', e = .returned V' ∧ Kd.R (Kd.int .u8) 5 w' w.heap.size (fun _ => True) V' l ∧ Below w.heap.size w w' := by
  obtain ⟨A, c, rfl, h1, h2⟩ := h
  refine hypogeumlaw17_own.calls A c l l w h1 h2 ?_
  unfold hypogeumlaw17_own.f
  rw [Option.bind_some, if_pos (by simp only [List.length_nil]; omega)]; rfl
theorem from_calls {w : World} {V : Value} {l : List Int} (h : Rd w V l) (hm : l.length < 140737488355328) : Calls Try.prog 15 #[V] w fun e w' => ∃ V', e = .returned (.agg #[V', .int .i64 0]) ∧ Kd.R (Kd.int .u8) 5 w' w.heap.size (fun _ => True) V' l ∧ Below w.heap.size w w' := by
  obtain ⟨A, c, rfl, h1, h2⟩ := h
  refine codec_From.calls A c l l 0 w h1 h2 ?_
  unfold codec_From.f
  rw [Option.bind_some, if_pos (by simp only [List.length_nil]; omega)]; rfl
theorem err_calls {w : World} {v : Value} {l : List Int} {er : Int} (h : Scn w v l er) : Calls Try.prog 18 #[v] w fun e w' => e = .returned (.int .i64 er) ∧ Below w.heap.size w w' := by
  obtain ⟨A, c, rfl, h1, h2, _⟩ := h
  exact codec_Scan_Err.calls A c l er er w h1 h2 rfl
theorem left_calls {w : World} {v : Value} {l : List Int} {er : Int} (h : Scn w v l er) : Calls Try.prog 19 #[v] w fun e w' => e = .returned (.int .i64 (l.length : Int)) ∧ Below w.heap.size w w' := by
  obtain ⟨A, c, rfl, h1, h2, _⟩ := h
  exact codec_Scan_Left.calls A c l er _ w h1 h2 rfl
/-- what End tells -/
def endP (l : List Int) (er : Int) : Int := if er = 0 then (if (l.length : Int) > 0 then 4 else er) else er
theorem end_calls {w : World} {v : Value} {l : List Int} {er : Int} (h : Scn w v l er) : Calls Try.prog 21 #[v] w fun e w' => e = .returned (.int .i64 (endP l er)) ∧ Below w.heap.size w w' := by
  obtain ⟨A, c, rfl, h1, h2, _⟩ := h
  refine codec_Scan_End.calls A c l er _ w h1 h2 ?_
  unfold codec_Scan_End.f endP
  split
  · split <;> rfl
  · rfl
theorem rend_calls {w : World} {v : Value} {l : List Int} {er : Int} (h : Scn w v l er) : Calls Try.prog 22 #[v] w fun e w' => e = .returned (.int .i64 (endP l er)) ∧ Below w.heap.size w w' := by
  obtain ⟨A, c, rfl, h1, h2, _⟩ := h
  refine hypogeumref17_Scan_End.calls A c l er _ w h1 h2 ?_
  unfold hypogeumref17_Scan_End.f endP
  split
  · split <;> rfl
  · rfl
theorem number_calls {w : World} {V : Value} {l : List Int} (h : Rd w V l) (hm : l.length < 140737488355000) (n : Int) : Calls Try.prog 10 #[V, .int .i64 n] w fun e w' => ∃ V', e = .returned V' ∧ Kd.R (Kd.int .u8) 5 w' w.heap.size (fun _ => True) V' (numB l n) ∧ Below w.heap.size w w' := by
  obtain ⟨A, c, rfl, h1, _⟩ := h
  exact number_0 A c l n (clamp n) w h1 (clamp_eq n) hm
theorem digits_eq (j : Nat) : ∀ (m k : Nat), m < 256 ^ j → j < k → m ≤ 9007199254740992 → hypogeumref17_digits.f k (m : Int) = some (dg m) := by
  induction j with
  | zero =>
    intro m k hm hk _
    obtain rfl : m = 0 := by simpa using hm
    obtain ⟨k, rfl⟩ : ∃ i, k = i + 1 := ⟨k - 1, by omega⟩
    rw [hypogeumref17_digits.f, if_pos (show ((0 : Nat) : Int) = 0 from rfl), dg_zero]
  | succ j ih =>
    intro m k hm hk hf
    obtain ⟨k, rfl⟩ : ∃ i, k = i + 1 := ⟨k - 1, by omega⟩
    rcases Nat.eq_zero_or_pos m with rfl | hp
    · rw [hypogeumref17_digits.f, if_pos (show ((0 : Nat) : Int) = 0 from rfl), dg_zero]
    · have e : wrap64 (Int.tdiv (m : Int) 256) = ((m / 256 : Nat) : Int) := by
        rw [show Int.tdiv (m : Int) 256 = ((m / 256 : Nat) : Int) from rfl]
        exact w64 (by omega) (by omega)
      have e2 : (Int.tmod (m : Int) 256) % 256 = (m : Int) % 256 := by
        rw [show Int.tmod (m : Int) 256 = ((m % 256 : Nat) : Int) from rfl]; omega
      have hl := dg_len7 (show m / 256 ≤ 9007199254740992 by omega)
      rw [hypogeumref17_digits.f, if_neg (by omega), e, ih (m / 256) k (Nat.div_lt_of_lt_mul (by rw [Nat.mul_comm, ← Nat.pow_succ]; exact hm)) (by omega) (by omega), Option.bind_some, if_pos (by omega), e2, dg_pos hp]
theorem rnumber_f {l : List Int} (hm : l.length < 140737488355000) (n : Int) : hypogeumref17_Number.f 8 l n = some (numB l n) := by
  have hl := dg_len7 (clamp_le n)
  have h7 : (256 : Nat) ^ 7 = 72057594037927936 := by decide
  have e : mn (mx n 0) 9007199254740992 = (clamp n : Int) := by unfold mn mx clamp; split <;> split <;> omega
  have hc := clamp_le n
  unfold hypogeumref17_Number.f numB
  rw [e, digits_eq 7 (clamp n) 8 (by omega) (by omega) hc, Option.bind_some, Option.bind_some, if_pos (by simp only [List.length_nil]; omega), Option.bind_some, if_pos (by simp only [List.nil_append]; omega), Option.bind_some,
    if_pos (by simp only [List.nil_append, List.length_append, List.length_singleton]; omega), show ((dg (clamp n)).length : Int) % 256 = (dg (clamp n)).length by omega, List.nil_append, List.append_assoc]
  rfl
theorem rnumber_calls {w : World} {V : Value} {l : List Int} (h : Rd w V l) (hm : l.length < 140737488355000) (n : Int) : Calls Try.prog 11 #[V, .int .i64 n] w fun e w' => ∃ V', e = .returned V' ∧ Kd.R (Kd.int .u8) 5 w' w.heap.size (fun _ => True) V' (numB l n) ∧ Below w.heap.size w w' := by
  obtain ⟨A, c, rfl, h1, h2⟩ := h
  exact hypogeumref17_Number.calls 8 A c l n _ w h1 h2 (rnumber_f hm n)
theorem rputtext_calls {w : World} {V S : Value} {l s : List Int} (h : Rd w V l) (hs : Rd w S s) (hm : l.length + s.length < 140737488355000) : Calls Try.prog 13 #[V, S] w fun e w' => ∃ V', e = .returned V' ∧ Kd.R (Kd.int .u8) 5 w' w.heap.size (fun _ => True) V' (textB l s) ∧ Below w.heap.size w w' := by
  obtain ⟨A, c, rfl, h1, h2⟩ := h
  obtain ⟨A1, c1, rfl, h3, h4⟩ := hs
  refine hypogeumref17_Text.calls 8 A c l A1 c1 s _ w h1 h2 h3 h4 ?_
  have := numB_len l s.length
  unfold hypogeumref17_Text.f
  rw [rnumber_f (by omega), Option.bind_some, if_pos (by omega)]; rfl
set_option maxHeartbeats 1000000 in
set_option maxRecDepth 100000 in
theorem puttext_0 (A A1 : Option Addr) (c c1 : Nat) (l s : List Int) (w : World) (hr : Rd w (.slice A l.length c) l) (hs : Kd.C (Kd.int .u8) w A1 s.length s) (hm : l.length + s.length < 140737488355000) :
    Calls Try.prog 12 #[.slice A l.length c, .slice A1 s.length c1] w fun e w' => ∃ V', e = .returned V' ∧ Kd.R (Kd.int .u8) 5 w' w.heap.size (fun _ => True) V' (textB l s) ∧ Below w.heap.size w w' := by
  have HR := Aside0.mk hr
  have HS := Aside0.mk hs
  have hl := numB_len l s.length
  have HT := Aside0.mk (show textB l s = numB l s.length ++ s from rfl)
  clear hr hs
  generalize hnb : numB l s.length = nb at *
  have HN := Aside0.mk hnb
  clear hnb
  go_enter Try.func12, Try.ntmps12
  go_wp2_with (first | (go_at_call 10; refine (number_calls HR.out (by omega) s.length).mono ?_; rw [HN.out]; rintro e w2 ⟨vHO1, rfl, ho, hb⟩; have HB := Aside0.mk hb; have HO1 := Aside0.mk ho; clear hb ho) | ((with_reducible refine gate_builtin (b := .append) (xs := #[.tmp 8, .tmp 9]) rfl ?_); (try (refine gate_guard (by rfl) ?_; dsimp only)); at_builtin; refine Kd.R_append_rows (Kd.int .u8) (w0 := w) w.heap.size rfl (.tmp 8) (.tmp 9) 22 5 (.int .u8 0) 1 rfl Try.underlying22 info5 rfl (by decide) (by omega) vHO1 nb s _ _ _ (fun _ => True) (fun _ => False) rfl rfl ?aO ?aR (fun _ _ h => h) (fun _ h => h.elim) ?aF ?aB ?aS ?aL ?_; (case aR => repeat (first | exact (Kd.C_below HS.out HB.out) | (with_reducible refine Kd.C_alloc ?_ _) | (with_reducible refine Kd.C_drewN ?_ _) | (with_reducible refine Kd.C_drew ?_))); (case aB => exact (by repeat (first | (with_reducible first | exact HB.out | apply below_alloc | apply pw_below_drewN | apply below_drew1) | exact HB.out))); (case aF => exact (fun _ _ => trivial)); (case aO => exact (by (with_reducible repeat (first | apply Kd.R_alloc | apply Kd.R_drewN | apply Kd.R_drew)); exact HO1.out)); (case aS => exact (below_size (by repeat (first | (with_reducible first | exact HB.out | apply below_alloc | apply pw_below_drewN | apply below_drew1) | exact HB.out)))); (case aL => omega); intro vHO2 wHO2 ho hb hg hat; (try rw [List.nil_append] at ho); have n0_ := Aside0.mk (hb); have n1_ := Aside0.mk (ho); clear HB; clear HO1; have HB := n0_; have HO2 := n1_; clear n0_ n1_; clear ho hb hg hat))
  go_ret
  exact ⟨_, rfl, by rw [HT.out]; exact HO2.out, HB.out⟩
theorem puttext_calls {w : World} {V S : Value} {l s : List Int} (h : Rd w V l) (hs : Rd w S s) (hm : l.length + s.length < 140737488355000) : Calls Try.prog 12 #[V, S] w fun e w' => ∃ V', e = .returned V' ∧ Kd.R (Kd.int .u8) 5 w' w.heap.size (fun _ => True) V' (textB l s) ∧ Below w.heap.size w w' := by
  obtain ⟨A, c, rfl, h1, h2⟩ := h
  obtain ⟨A1, c1, rfl, h3, _⟩ := hs
  exact puttext_0 A A1 c c1 l s w ⟨A, c, rfl, h1, h2⟩ h3 hm
end Go.Proofs.Yteonbbfegnjjeaa.Law
