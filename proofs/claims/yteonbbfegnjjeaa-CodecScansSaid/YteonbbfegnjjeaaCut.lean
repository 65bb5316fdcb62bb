/- CodecCut: the plain law and the walk. -/
import Derived.Test.YteonbbfegnjjeaaPuts
import Derived.Test.YteonbbfegnjjeaaPlain
namespace Go.Proofs.Yteonbbfegnjjeaa.Law
open Go.RowKit Go.Proofs.Yteonbbfegnjjeaa Go.Proofs.YteonbbfegnjjeaaW.PrintWords Go.Proofs.YteonbbfegnjjeaaW.PrintLast Go.Proofs.YteonbbfegnjjeaaW.PrintMore Go.Proofs.Yteonbbfegnjjeaa.D
theorem nx_cut (m : Nat) (hm : m ≤ 9007199254740992) (r : Nat) (hr : r < 1 + (dg m).length) : nx ((((dg m).length : Int) :: dg m).take r) = (0, 0, 3) := by
  have h7 := dg_len7 hm
  cases r with
  | zero => rfl
  | succ r =>
    unfold nx
    rw [List.take_succ_cons, if_neg (by simp), rd_cons0, if_neg (by omega), if_pos (by simp only [List.length_cons, List.length_take]; omega)]
theorem cut_num (n : Int) (r : Nat) (hr : r < (numB [] n).length) : numP ((numB [] n).take r) 0 0 far = (0, 0, 3) := by
  have hc := clamp_le n
  have e : numB [] n = ((dg (clamp n)).length : Int) :: dg (clamp n) := rfl
  rw [e] at hr ⊢
  unfold numP
  rw [if_neg (by decide), nx_cut _ hc r (by rw [List.length_cons] at hr; omega)]
  rfl
theorem cut_text (s : List Int) (h : s.length ≤ 9007199254740992) (r : Nat) (hr : r < (textB [] s).length) : textP ((textB [] s).take r) 0 s.length = ([], 0, 3) := by
  unfold textB at hr ⊢
  rw [List.length_append] at hr
  have hl : (numB [] (s.length : Int)).length = 1 + (dg (clamp (s.length : Int))).length := by show (_ :: _ : List Int).length = _; rw [List.length_cons, Nat.add_comm]
  rcases Nat.lt_or_ge r (numB [] (s.length : Int)).length with h1 | h1
  · rw [List.take_append_of_le_length (by omega)]
    unfold textP
    rw [cut_num _ r h1]; rfl
  · rw [List.take_append, List.take_of_length_le h1]
    unfold textP
    rw [num_put, drop_put, clamp_len h]
    dsimp only
    rw [if_neg (by simp), if_neg (by omega), if_pos (by rw [List.length_take]; omega)]
theorem rd_take {w : World} {A : Option Addr} {l : List Int} {r p : Nat} (h : Kd.C (Kd.int .u8) w A l.length l) (hr : r ≤ l.length) (hp : l.length ≤ p) : Rd w (.slice A r p) (l.take r) := by
  have hl : (l.take r).length = r := by rw [List.length_take]; omega
  exact ⟨A, p, by rw [hl], Kd.C_take h hr, by omega⟩
set_option maxHeartbeats 4000000 in
set_option maxRecDepth 100000 in
theorem cut_0 (n at_ : Int) (S : Option Addr) (c r1 r2 : Nat) (s a b a1 b1 : List Int) (w : World) (hs : Kd.C (Kd.int .u8) w S s.length s) (hc : s.length ≤ c) (hm : s.length ≤ 140737488351232)
    (ha : numB [] n = a) (hb : textB [] s = b) (hla : 0 < a.length ∧ a.length ≤ 8) (hlb : 0 < b.length ∧ b.length ≤ s.length + 8) (hya : Bytes a) (hyb : Bytes b) (hat : 0 ≤ at_ ∧ at_ < 65536)
    (hr1 : at_ % (a.length : Int) = (r1 : Int)) (hr2 : at_ % (b.length : Int) = (r2 : Int)) (ha1 : a.take r1 = a1) (hb1 : b.take r2 = b1) (hp1 : numP a1 0 0 far = (0, 0, 3)) (hp2 : textP b1 0 s.length = ([], 0, 3)) :
    Calls Try.prog 6 #[.int .i64 n, .slice S s.length c, .int .u16 at_] w fun e w' => e = .returned (.bool true) ∧ Below w.heap.size w w' := by
  have HS := Aside0.mk (show Rd w (.slice S s.length c) s from ⟨S, c, rfl, hs, hc⟩)
  have HA := Aside0.mk ha
  have HB_ := Aside0.mk hb
  have HYa := Aside0.mk hya
  have HYb := Aside0.mk hyb
  have HP1 := Aside0.mk hp1
  have HP2 := Aside0.mk hp2
  have z1 : ((a.length : Int) == 0) = false := beq_eq_false_iff_ne.mpr (by omega)
  have z2 : ((b.length : Int) == 0) = false := beq_eq_false_iff_ne.mpr (by omega)
  have hl1 := hla.1
  have hl2 := hla.2
  have hl3 := hlb.1
  have hl4 := hlb.2
  have ht0 := hat.1
  have ht1 := hat.2
  have t1 : Int.tmod at_ (a.length : Int) = (r1 : Int) := by rw [Int.tmod_eq_emod_of_nonneg ht0]; exact hr1
  have t2 : Int.tmod at_ (b.length : Int) = (r2 : Int) := by rw [Int.tmod_eq_emod_of_nonneg ht0]; exact hr2
  have q1 : (r1 : Int) < (a.length : Int) := by rw [← hr1]; exact Int.emod_lt_of_pos _ (by omega)
  have q2 : (r2 : Int) < (b.length : Int) := by rw [← hr2]; exact Int.emod_lt_of_pos _ (by omega)
  have HA1 := Aside0.mk ha1
  have HB1_ := Aside0.mk hb1
  have HL1 := Aside0.mk (show a1.length ≤ 8 by rw [← ha1, List.length_take]; omega)
  have HL2 := Aside0.mk (show b1.length ≤ s.length + 8 by rw [← hb1, List.length_take]; omega)
  have HYa1 := Aside0.mk (show Bytes a1 by rw [← ha1]; exact bytes_take hya r1)
  have HYb1 := Aside0.mk (show Bytes b1 by rw [← hb1]; exact bytes_take hyb r2)
  clear ha1 hb1
  clear hs hc ha hb hla hlb hya hyb hat hp1 hp2 hr1 hr2
  go_enter Try.func6, Try.ntmps6
  go_wp2_with (first | (go_at_call 10; refine (number_calls (Rd.nil w) (by decide) n).mono ?_; rw [HA.out]; rintro e w1 ⟨V1, rfl, hv, hb⟩; obtain ⟨g1, p1, rfl, hg1, hg1b, _⟩ := Kd.R_form hv (by omega); have R1 := Aside0.mk (Kd.R_reads' hv).2.2; have hp1 := (Kd.R_reads' hv).2.1; have HB1 := Aside0.mk hb; clear hv hb) | (go_at_call 9; refine (own_calls (HS.out.below HB1.out) (by omega)).mono ?_; rintro e w2 ⟨V2, rfl, hv, hb⟩; have R2 := Aside0.mk (Rd.own hv); have HB2 := Aside0.mk (below_step HB1.out hb); have HC2 := Aside0.mk hb; clear hv hb) | (go_at_call 12; refine (puttext_calls (Rd.nil w2) R2.out (by simp only [List.length_nil]; omega)).mono ?_; rw [HB_.out]; rintro e w3 ⟨V3, rfl, hv, hb⟩; obtain ⟨g3, p3, rfl, hg3, hg3b, _⟩ := Kd.R_form hv (by omega); have R3 := Aside0.mk (Kd.R_reads' hv).2.2; have hp3 := (Kd.R_reads' hv).2.1; have HB3 := Aside0.mk (below_step HB2.out hb); have HC3 := Aside0.mk (below_step HC2.out hb); clear hv hb) | (go_at_call 15; (with_reducible refine (from_calls (l := a1) ?hr ?hl).mono ?_); (case hr => exact (by rw [← HA1.out]; exact rd_take (Kd.C_below R1.out HC3.out) (by omega) hp1 : Rd w3 (.slice (some ⟨g1, 0, none⟩) r1 p1) a1)); (case hl => have := HL1.out; omega); rintro e w5 ⟨V5, rfl, hv, hb⟩; have HB5 := Aside0.mk (below_step HB3.out hb); have HC5 := Aside0.mk hb; have HS5 := Aside0.mk (Scn.own hv HYa1.out 0); clear hv hb) | (go_at_call 16; refine (num_calls HS5.out (Below.refl _ _) 0 9007199254740992).mono ?_; rw [show (9007199254740992 : Int) = far from rfl, HP1.out]; dsimp only; rw [List.drop_zero]; rintro e w6 ⟨v6, rfl, ⟨A6, c6, rfl, hr6, hc6, hy6⟩, hb⟩; have HS6 := Aside0.mk (show Scn w5 (.agg #[.slice A6 a1.length c6, .int .i64 3]) a1 3 from ⟨A6, c6, rfl, hr6, hc6, hy6⟩); have HB6 := Aside0.mk (below_alloc hb (.cells #[.slice A6 a1.length c6, .int .i64 3] 30)); clear hr6 hc6 hy6 hb) | (go_at_call 15; refine (from_calls (l := b1) (by rw [← HB1_.out]; exact rd_take (Kd.C_below (Kd.C_below R3.out HC5.out) HB6.out) (by omega) hp3 : Rd (w6.alloc (.cells #[.slice A6 a1.length c6, .int .i64 3] 30)) (.slice (some ⟨g3, 0, none⟩) r2 p3) b1) (by have := HL2.out; omega)).mono ?_; rintro e w7 ⟨V7, rfl, hv, hb⟩; have HB7 := Aside0.mk (below_step HB6.out hb); have K6 := Aside0.mk (blk_below (heap_alloc_new w6 (.cells #[.slice A6 a1.length c6, .int .i64 3] 30)) hb); have HS7 := Aside0.mk (Scn.own hv HYb1.out 0); clear hv hb) | (go_at_call 17; refine (text_calls HS7.out (Below.refl _ _) (by have := HL2.out; omega) (s.length : Int)).mono ?_; rw [HP2.out]; dsimp only; rw [List.drop_zero]; rintro e w8 ⟨V8, v8, rfl, hv, ⟨A9, c9, rfl, hr9, hc9, hy9⟩, hb⟩; obtain ⟨A8, c8, rfl, _, _⟩ := Rd.own hv; have HS8 := Aside0.mk (show Scn w7 (.agg #[.slice A9 b1.length c9, .int .i64 3]) b1 3 from ⟨A9, c9, rfl, hr9, hc9, hy9⟩); have HB8 := Aside0.mk (below_alloc hb (.cells #[.slice A9 b1.length c9, .int .i64 3] 30)); have K7 := Aside0.mk (blk_below (blk_below K6.out hb) (below_alloc (Below.refl w8.heap.size w8) (.cells #[.slice A9 b1.length c9, .int .i64 3] 30))); have zz0_ := (blk_cell K7.out 0).trans rfl; have zz1_ := (blk_cell K7.out 1).trans rfl; clear hr9 hc9 hy9 hv hb) | (go_at_call 18; (with_reducible refine (err_calls (l := a1) (er := 3) ?hs).mono ?_); (case hs => exact (HS6.out.below HB7.out).below HB8.out); rintro e w9 ⟨rfl, hb⟩; have HB9 := Aside0.mk (below_step HB8.out hb); have K8 := Aside0.mk (blk_below (heap_alloc_new w8 (.cells #[.slice A9 b1.length c9, .int .i64 3] 30)) hb); have yy0_ := (blk_cell K8.out 0).trans rfl; have yy1_ := (blk_cell K8.out 1).trans rfl; clear hb) | (go_at_call 18; refine (err_calls (HS8.out.below HB9.out)).mono ?_; rintro e w10 ⟨rfl, hb⟩; have HB10 := Aside0.mk (below_step HB9.out hb); clear hb) | (go_at_call 14; refine (awake_calls _).mono ?_; rintro e w12 ⟨rfl, hb⟩; have HB12 := Aside0.mk (below_step HB10.out hb); clear hb))
  go_ret
  exact ⟨rfl, below_step HB5.out (below_step HB7.out HB12.out)⟩
theorem cut_walk (a1 : Int) (a2 : Option Addr) (len2 cap2 : Nat) (z2 : List Int) (a3 : Int) (w : World) (_ : (Lit.int .i64 a1).wf = true) (w2 : IsRow .u8 w a2 len2 cap2 z2) (y2 : len2 * 1 ≤ 140737488351232) (w3 : (Lit.int .u16 a3).wf = true) :
    Calls Try.prog 6 #[.int .i64 a1, .slice a2 len2 cap2, .int .u16 a3] w fun e w' => e = .returned (.bool true) ∧ Below w.heap.size w w' := by
  obtain ⟨s, rfl, hr2, hb2, hc2⟩ := w2.opened
  have h3 : 0 ≤ a3 ∧ a3 < 65536 := by
    simp only [Lit.wf, IntKind.min, IntKind.max, IntKind.signed, IntKind.bits, Bool.and_eq_true] at w3
    simp at w3
    omega
  have h0 : Bytes [] := fun x hx => by cases hx
  have hl1 := numB_len [] a1
  have hl2 := numB_len [] (s.length : Int)
  have e0 : ([] : List Int).length = 0 := rfl
  have hl3 : (textB [] s).length = (numB [] (s.length : Int)).length + s.length := by unfold textB; rw [List.length_append]
  have m1 := Int.emod_nonneg a3 (show ((numB [] a1).length : Int) ≠ 0 by omega)
  have m2 := Int.emod_nonneg a3 (show ((textB [] s).length : Int) ≠ 0 by omega)
  have k1 := Int.emod_lt_of_pos a3 (show 0 < ((numB [] a1).length : Int) by omega)
  have k2 := Int.emod_lt_of_pos a3 (show 0 < ((textB [] s).length : Int) by omega)
  exact cut_0 a1 a3 a2 cap2 (a3 % ((numB [] a1).length : Int)).toNat (a3 % ((textB [] s).length : Int)).toNat s _ _ _ _ w hr2 hc2 (by omega) rfl rfl (by omega) (by omega) (numB_bytes h0 a1) (textB_bytes h0 hb2) h3
    (Int.toNat_of_nonneg m1).symm (Int.toNat_of_nonneg m2).symm rfl rfl (cut_num _ _ (by omega)) (cut_text s (by omega) _ (by omega))
end Go.Proofs.Yteonbbfegnjjeaa.Law
