/- CodecNames: the walk. -/
import Derived.Test.YteonbbfegnjjeaaNames
namespace Go.Proofs.Yteonbbfegnjjeaa.Law
open Go.RowKit Go.Proofs.Yteonbbfegnjjeaa Go.Proofs.YteonbbfegnjjeaaW.PrintWords Go.Proofs.YteonbbfegnjjeaaW.PrintLast Go.Proofs.YteonbbfegnjjeaaW.PrintMore Go.Proofs.Yteonbbfegnjjeaa.D
set_option linter.unusedSimpArgs false
set_option maxRecDepth 100000 in
theorem codecNames_long (A : Option Addr) (n c : Nat) (most : Int) (w : World) (h : 4000 < (n : Int)) :
    Calls Try.prog 8 #[.slice A n c, .int .i64 most] w fun e w' => e = .returned (.bool true) ∧ Below w.heap.size w w' := by
  have b1 := decide_eq_true h
  go_enter Try.func8, Try.ntmps8
  go_wp2_with (first | (go_at_call 14; refine (awake_calls _).mono ?_; rintro e w' ⟨rfl, hb⟩))
  go_ret
  exact ⟨rfl, hb⟩
set_option maxHeartbeats 4000000 in
set_option maxRecDepth 100000 in
theorem codecNames_0 (A : Option Addr) (c : Nat) (l : List Int) (most : Int) (xs : List ByteArray) (er : Int) (w : World) (hr : Kd.C (Kd.int .u8) w A l.length l) (hc : l.length ≤ c) (hy : Bytes l) (hm : l.length ≤ 4000) (hx : namesP l most = (xs, er)) :
    Calls Try.prog 8 #[.slice A l.length c, .int .i64 most] w fun e w' => e = .returned (.bool true) ∧ Below w.heap.size w w' := by
  have HA := Aside0.mk (show Rd w (.slice A l.length c) l from ⟨A, c, rfl, hr, hc⟩)
  have HY := Aside0.mk hy
  have HX := Aside0.mk hx
  have b1 : decide (4000 < (l.length : Int)) = false := decide_eq_false (by omega)
  clear hr hc hy hx
  go_enter Try.func8, Try.ntmps8
  go_wp2_with (first | (go_at_call 9; refine (own_calls HA.out (by omega)).mono ?_; rintro e w1 ⟨V1, rfl, hv, hb⟩; have R1 := Aside0.mk (Rd.own hv); have HB1 := Aside0.mk hb; clear hv hb) | (go_at_call 23; refine (names_calls R1.out HY.out hm most).mono ?_; rw [HX.out]; rintro e w2 ⟨V2, rfl, hv, hb⟩; obtain ⟨A2, c2, e2⟩ := Kd.R_slice hv; subst e2; have R2 := Aside0.mk (Kd.R_reads' hv).2.2; have HB2 := Aside0.mk (below_step HB1.out hb); clear hv hb) | (go_at_call 24; refine (rnames_calls (HA.out.below HB2.out) HY.out hm most).mono ?_; rw [HX.out]; rintro e w3 ⟨V3, rfl, hv, hb⟩; obtain ⟨A3, c3, e3⟩ := Kd.R_slice hv; subst e3; have R3 := Aside0.mk (Kd.R_reads' hv).2.2; have R2b := Aside0.mk (Kd.C_below R2.out hb); have HB3 := Aside0.mk (below_step HB2.out hb); clear hv hb))
  have hn9 := Kd.C_max R3.out
  have HBq := Aside0.mk (Below.refl w3.heap.size w3)
  go_loopw [39] (fun v39 wr => ∃ (i : Nat), i ≤ xs.length ∧ v39 = .int .i64 i ∧ Aside0 (Below w3.heap.size w3 wr)) (fun v39 _ => xs.length - (intOf v39).toNat)
  case atStart => exact ⟨0, by omega, rfl, HBq⟩
  case round =>
    obtain ⟨i, hi, rfl, HBr⟩ := hrel
    obtain ⟨wo, rfl⟩ : ∃ x : World, x = wr := ⟨_, rfl⟩
    by_cases hlt : i < xs.length
    · have hltb : decide ((i : Int) < (xs.length : Int)) = true := decide_eq_true (by omega)
      have hwi : wrap64 ((i : Int) + 1) = (i : Int) + 1 := w64 (by omega) (by omega)
      obtain ⟨ad2, hA2, hc2⟩ := Kd.at_string (Kd.C_below R2b.out HBr.out) (i : Int) (by omega) (by omega)
      obtain ⟨ad3, hA3, hc3⟩ := Kd.at_string (Kd.C_below R3.out HBr.out) (i : Int) (by omega) (by omega)
      obtain rfl := hA2
      obtain rfl := hA3
      rw [Int.toNat_natCast] at hc2 hc3
      generalize rdOf ByteArray.empty xs (i : Int) = s at *
      go_wp2
      go_region
      go_wp2
      go_roundw
      case rel => exact ⟨i + 1, by omega, by go_num, ⟨below_drew1 HBr.out⟩⟩
      case measure => simp [intOf]; omega
    · obtain rfl : i = xs.length := by omega
      have hltb : decide ((xs.length : Int) < (xs.length : Int)) = false := decide_eq_false (by omega)
      go_wp2_with (first | (go_at_call 14; refine (awake_calls _).mono ?_; rintro e w5 ⟨rfl, hb⟩))
      go_ret
      exact ⟨rfl, below_step (below_step HB3.out HBr.out) hb⟩
theorem codecNames_walk (a1 : Option Addr) (len1 cap1 : Nat) (z1 : List Int) (a2 : Int) (w : World) (w1 : IsRow .u8 w a1 len1 cap1 z1) (_ : len1 * 1 ≤ 140737488351232) (_ : (Lit.int .i64 a2).wf = true) :
    Calls Try.prog 8 #[.slice a1 len1 cap1, .int .i64 a2] w fun e w' => e = .returned (.bool true) ∧ Below w.heap.size w w' := by
  obtain ⟨l, rfl, hr, hb, hc⟩ := w1.opened
  by_cases h : 4000 < (l.length : Int)
  · exact codecNames_long a1 _ cap1 a2 w h
  · exact codecNames_0 a1 cap1 l a2 _ _ w hr hc hb (by omega) rfl
end Go.Proofs.Yteonbbfegnjjeaa.Law
