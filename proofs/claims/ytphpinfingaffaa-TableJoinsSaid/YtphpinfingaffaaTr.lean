/- TableRows, TablePicks: the laws' walks. -/
import Derived.Test.YtphpinfingaffaaAw
import Derived.Test.YtphpinfingaffaaOe
namespace Go.Proofs.Ytphpinfingaffaa.Law
open Go.RowKit Go.Proofs.Ytphpinfingaffaa Go.Proofs.YtphpinfingaffaaW.PrintWords Go.Proofs.YtphpinfingaffaaW.PrintLast Go.Proofs.YtphpinfingaffaaW.PrintMore Go.Proofs.Ytphpinfingaffaa.D Go.Proofs.Ytphpinfingaffaa.Fl
set_option linter.unusedSimpArgs false
set_option linter.unusedVariables false
theorem few_sz {x : En} (h : fewB x = true) : Sz1 x := by
  have := of_decide_eq_true h
  exact ⟨by omega, by omega⟩
theorem spansL_in : ∀ (l : List Pc) (b : Int), 0 ≤ b → b + 4096 * l.length ≤ 1099511627776 → (∀ p ∈ l, okN p.n) → ∀ y ∈ spansL b l, In y.f0 ∧ In y.f1
  | [], _, _, _, _, y, hy => by cases hy
  | p :: l, b, hb, h, hp, y, hy => by
    have h1 := hp p List.mem_cons_self
    unfold okN at h1
    rw [List.length_cons] at h
    rcases List.mem_cons.mp hy with rfl | hy
    · exact ⟨⟨hb, by show b ≤ _; omega⟩, ⟨by show 0 ≤ p.n; omega, by show p.n ≤ _; omega⟩⟩
    · exact spansL_in l (b + p.n) (by omega) (by omega) (fun q hq => hp q (List.mem_cons_of_mem _ hq)) y hy
theorem rowsP_in {x : En} : ∀ y ∈ rowsP x, In y.f0 ∧ In y.f1 := by
  unfold rowsP
  by_cases h : (sizeP x).2 = 0
  · rw [if_pos h]
    have hf := (size_ok h).1
    have := hf.2.1
    exact spansL_in x.ps 0 (Int.le_refl _) (by omega) hf.2.2.1
  · rw [if_neg h]; intro y hy; cases hy
theorem rowsP_len {x : En} : (rowsP x).length ≤ 1000 := by
  unfold rowsP
  by_cases h : (sizeP x).2 = 0
  · rw [if_pos h, spansL_len]; have := (size_ok h).1.2.1; omega
  · rw [if_neg h]; exact Nat.zero_le _
set_option maxHeartbeats 4000000 in
set_option maxRecDepth 100000 in
theorem rows_many {x : En} {cs : List Value} {w : World} (h : kEn.K w x cs) (hf : fewB x = false) : Calls Try.prog 3 #[.agg cs.toArray] w fun e w' => e = .returned (.bool true) ∧ Below w.heap.size w w' := by
  obtain ⟨A, c, rfl, ht, hc, hr⟩ := kEn_open h
  have HT := Aside0.mk ht
  have HC := Aside0.mk hc
  have HR := Aside0.mk hr
  have HFW := Aside0.mk hf
  clear h ht hc hr
  clear hf
  go_enter Try.func3, Try.ntmps3
  go_wp2_with (first | ((with_reducible refine gate_dst (N := 1) rfl ?_); refine wpList_box rfl 26 (.tmp 0) rfl (enV x A c) rfl ?_; intro w1 hk hb hs; have E := Aside0.mk (EnAt.mk hk HT.out HC.out (Kd.C_below HR.out hb)); have HB := Aside0.mk hb; have HZZ := Aside0.mk hs; have z0 := E.out.cell (enV_0 x _ _); have z1 := E.out.cell (enV_1 x _ _); have z34 := E.out.cell (enV_34 x _ _ HT.out); clear hk hb hs) | ((with_reducible refine gate_dst (N := 12) rfl ?_); refine load_en rfl (.tmp 1) rfl w.heap.size rfl E.out ?_) | (go_at_call 7; with_reducible refine (few_calls E.out.K _ HFW.out).mono ?_; rintro e w2 ⟨rfl, hb⟩; have nB_ := Aside0.mk (below_step HB.out hb); have nE_ := Aside0.mk (E.out.below hb); clear HB E z0 z1 z34 hb; have HB := nB_; have E := nE_; clear nB_ nE_; have z0 := E.out.cell (enV_0 x _ _); have z1 := E.out.cell (enV_1 x _ _); have z34 := E.out.cell (enV_34 x _ _ HT.out)) | (go_at_call 8; with_reducible refine (awake_calls _).mono ?_; rintro e w9 ⟨rfl, hb⟩; have HB9 := Aside0.mk (below_step HB.out hb); clear hb))
  go_ret
  exact ⟨rfl, HB9.out⟩
set_option maxHeartbeats 4000000 in
set_option maxRecDepth 100000 in
theorem rows_few {x : En} {cs : List Value} {w : World} (h : kEn.K w x cs) (hf : fewB x = true) : Calls Try.prog 3 #[.agg cs.toArray] w fun e w' => e = .returned (.bool true) ∧ Below w.heap.size w w' := by
  obtain ⟨A, c, rfl, ht, hc, hr⟩ := kEn_open h
  have HT := Aside0.mk ht
  have HC := Aside0.mk hc
  have HR := Aside0.mk hr
  have HFW := Aside0.mk hf
  clear h ht hc hr
  have HSZ := Aside0.mk (few_sz hf)
  have hrl := rowsP_len (x := x)
  have HI := Aside0.mk (rowsP_in (x := x))
  obtain ⟨n, e0, hsp⟩ : ∃ n e0, sizeP x = (n, e0) := ⟨_, _, rfl⟩
  have HSP := Aside0.mk hsp
  generalize hr : rowsP x = r at *
  have HRP := Aside0.mk hr
  clear hf hsp hr
  go_enter Try.func3, Try.ntmps3
  go_wp2_with (first | ((with_reducible refine gate_dst (N := 1) rfl ?_); refine wpList_box rfl 26 (.tmp 0) rfl (enV x A c) rfl ?_; intro w1 hk hb hs; have E := Aside0.mk (EnAt.mk hk HT.out HC.out (Kd.C_below HR.out hb)); have HB := Aside0.mk hb; have HZZ := Aside0.mk hs; have z0 := E.out.cell (enV_0 x _ _); have z1 := E.out.cell (enV_1 x _ _); have z34 := E.out.cell (enV_34 x _ _ HT.out); clear hk hb hs) | ((with_reducible refine gate_dst (N := 12) rfl ?_); refine load_en rfl (.tmp 1) rfl w.heap.size rfl E.out ?_) | ((with_reducible refine gate_dst (N := 17) rfl ?_); refine load_en rfl (.tmp 1) rfl w.heap.size rfl E.out ?_) | ((with_reducible refine gate_dst (N := 22) rfl ?_); refine load_en rfl (.tmp 1) rfl w.heap.size rfl E.out ?_) | ((with_reducible refine gate_dst (N := 27) rfl ?_); refine load_en rfl (.tmp 1) rfl w.heap.size rfl E.out ?_) | ((with_reducible refine gate_dst (N := 32) rfl ?_); refine load_en rfl (.tmp 1) rfl w.heap.size rfl E.out ?_) | (go_at_call 7; with_reducible refine (few_calls E.out.K true HFW.out).mono ?_; rintro e w2 ⟨rfl, hb⟩; have nB_ := Aside0.mk (below_step HB.out hb); have nE_ := Aside0.mk (E.out.below hb); clear HB E z0 z1 z34 hb; have HB := nB_; have E := nE_; clear nB_ nE_; have z0 := E.out.cell (enV_0 x _ _); have z1 := E.out.cell (enV_1 x _ _); have z34 := E.out.cell (enV_34 x _ _ HT.out)) | (go_at_call 9; with_reducible refine (tsize_calls E.out.K HSZ.out).mono ?_; rw [HSP.out]; rintro e w3 ⟨rfl, hb⟩; have nB_ := Aside0.mk (below_step HB.out hb); have nE_ := Aside0.mk (E.out.below hb); clear HB E z0 z1 z34 hb; have HB := nB_; have E := nE_; clear nB_ nE_; have z0 := E.out.cell (enV_0 x _ _); have z1 := E.out.cell (enV_1 x _ _); have z34 := E.out.cell (enV_34 x _ _ HT.out)) | (go_at_call 10; with_reducible refine (rsize_calls E.out.K HSZ.out).mono ?_; rw [HSP.out]; rintro e w4 ⟨rfl, hb⟩; have nB_ := Aside0.mk (below_step HB.out hb); have nE_ := Aside0.mk (E.out.below hb); clear HB E z0 z1 z34 hb; have HB := nB_; have E := nE_; clear nB_ nE_; have z0 := E.out.cell (enV_0 x _ _); have z1 := E.out.cell (enV_1 x _ _); have z34 := E.out.cell (enV_34 x _ _ HT.out)) | (go_at_call 11; with_reducible refine (trow_calls E.out.K HSZ.out).mono ?_; rw [HSP.out, HRP.out]; rintro e w5 ⟨V5, rfl, hv, hb⟩; obtain ⟨A5, c5, rfl, hc5, hC5⟩ := Kd.R_reads hv; have R5 := Aside0.mk hC5; clear hv hC5; have nB_ := Aside0.mk (below_step HB.out hb); have nE_ := Aside0.mk (E.out.below hb); clear HB E z0 z1 z34 hb; have HB := nB_; have E := nE_; clear nB_ nE_; have z0 := E.out.cell (enV_0 x _ _); have z1 := E.out.cell (enV_1 x _ _); have z34 := E.out.cell (enV_34 x _ _ HT.out)) | (go_at_call 12; with_reducible refine (rrow_calls E.out.K HSZ.out).mono ?_; rw [HSP.out, HRP.out]; rintro e w6 ⟨V6, rfl, hv, hb⟩; obtain ⟨A6, c6, rfl, hc6, hC6⟩ := Kd.R_reads hv; have R6 := Aside0.mk hC6; clear hv hC6; have nR5_ := Aside0.mk (Kd.C_below R5.out hb); clear R5; have R5 := nR5_; clear nR5_; have nB_ := Aside0.mk (below_step HB.out hb); have nE_ := Aside0.mk (E.out.below hb); clear HB E z0 z1 z34 hb; have HB := nB_; have E := nE_; clear nB_ nE_; have z0 := E.out.cell (enV_0 x _ _); have z1 := E.out.cell (enV_1 x _ _); have z34 := E.out.cell (enV_34 x _ _ HT.out)) | (go_at_call 8; with_reducible refine (awake_calls _).mono ?_; rintro e w9 ⟨rfl, hb⟩; have HB9 := Aside0.mk (below_step HB.out hb); clear hb))
  clear z0 z1 z34 E
  generalize HW7 : w6 = wq at *
  clear HW7
  go_loopw [58] (fun v58 wr => ∃ i : Nat, i ≤ r.length ∧ v58 = .int .i64 i ∧ Aside0 (Below w.heap.size w wr) ∧ Aside0 (Below wq.heap.size wq wr)) (fun v58 _ => r.length - (intOf v58).toNat)
  case atStart => exact ⟨0, by omega, rfl, HB, ⟨Below.refl _ _⟩⟩
  case round =>
    obtain ⟨i, hi, rfl, HBn, HQ⟩ := hrel
    clear HB
    have HB := HBn
    clear HBn
    by_cases hlt : i < r.length
    · have hltb : decide ((i : Int) < (r.length : Int)) = true := decide_eq_true (lt_lt hlt)
      have HIx := Aside0.mk (HI.out _ (rd_mem hlt))
      obtain ⟨ad, rfl, hx0⟩ := at_C R5.out (i : Int) (Int.natCast_nonneg _) (lt_lt hlt)
      obtain ⟨ae, rfl, hy0, hz0⟩ := at_T34 R6.out (i : Int) (Int.natCast_nonneg _) (lt_lt hlt)
      rw [Int.toNat_natCast] at hx0 hy0 hz0
      have HX := Aside0.mk hx0
      have HY := Aside0.mk hy0
      have HZ := Aside0.mk hz0
      have hx := (HQ.out.cell (World.block_lt_of_cell? wq _ hx0)).trans hx0
      have hy := (HQ.out.cell (World.block_lt_of_cell? wq _ hy0)).trans hy0
      have hz := (HQ.out.cell (World.block_lt_of_cell? wq _ hz0)).trans hz0
      have p1 : (0 ≤ (i : Int)) = True := eq_true (Int.natCast_nonneg _)
      have p2 : ((i : Int) < (r.length : Int)) = True := eq_true (lt_lt hlt)
      clear hx0 hy0 hz0
      generalize rd_T34 r (i : Int) = y at *
      have hwi := wi hlt hrl
      go_wp2
      refine start_ (n := 10) (S := fun w' => w'.cell? (ad.add i) = some (Cx y.f0 y.f1) ∧ w'.cell? (ae.add (i * 2)) = some (.int .i64 y.f0) ∧ w'.cell? ⟨(ae.add (i * 2)).block, (ae.add (i * 2)).off + 1, none⟩ = some (.int .i64 y.f1)) (ds := []) #[false, false, false, false, false, false, false, false, false, false] (by kernel_rfl) rfl rfl ⟨hx, hy, hz⟩ (fun hHeld => ?_)
      refine pure_ (i := 0) (N := some 61) (v := ?_) (a' := ?_) #[true, false, false, false, false, false, false, false, false, false] rfl rfl (by kernel_rfl) (fun _ _ _ h => h) (Or.inl ⟨by rfl, ?_⟩) ?_ ?_
      rotate_left
      · intro w'
        go_simp
        with_reducible rfl
      rotate_left
      · simp only [Act.put, List.setIfInBounds_toArray, List.set_cons_zero, List.set_cons_succ, i64_w, i32_w]
        rfl
      refine pure_ (i := 1) (N := some 62) (v := ?_) (a' := ?_) #[true, true, false, false, false, false, false, false, false, false] rfl rfl (by kernel_rfl) (fun _ _ _ h => h) (Or.inl ⟨by rfl, ?_⟩) ?_ ?_
      rotate_left
      · intro w'
        go_simp
        with_reducible rfl
      rotate_left
      · simp only [Act.put, List.setIfInBounds_toArray, List.set_cons_zero, List.set_cons_succ, i64_w, i32_w]
        rfl
      refine pure_ (i := 2) (N := some 63) (v := ?_) (a' := ?_) #[true, true, true, false, false, false, false, false, false, false] rfl rfl (by kernel_rfl) (fun _ _ _ h => h) (Or.inl ⟨by rfl, ?_⟩) ?_ ?_
      rotate_left
      · intro w'
        go_simp
        with_reducible rfl
      rotate_left
      · simp only [Act.put, List.setIfInBounds_toArray, List.set_cons_zero, List.set_cons_succ, i64_w, i32_w]
        rfl
      refine pure_ (i := 4) (N := some 65) (v := ?_) (a' := ?_) #[true, true, true, false, true, false, false, false, false, false] rfl rfl (by kernel_rfl) (fun _ _ _ h => h) (Or.inl ⟨by rfl, ?_⟩) ?_ ?_
      rotate_left
      · intro w'
        go_simp
        with_reducible rfl
      rotate_left
      · simp only [Act.put, List.setIfInBounds_toArray, List.set_cons_zero, List.set_cons_succ, i64_w, i32_w]
        rfl
      refine pure_ (i := 5) (N := some 66) (v := ?_) (a' := ?_) #[true, true, true, false, true, true, false, false, false, false] rfl rfl (by kernel_rfl) (fun _ _ _ h => h) (Or.inl ⟨by rfl, ?_⟩) ?_ ?_
      rotate_left
      · intro w'
        go_simp
        with_reducible rfl
      rotate_left
      · simp only [Act.put, List.setIfInBounds_toArray, List.set_cons_zero, List.set_cons_succ, i64_w, i32_w]
        rfl
      refine pure_ (i := 6) (N := some 67) (v := ?_) (a' := ?_) #[true, true, true, false, true, true, true, false, false, false] rfl rfl (by kernel_rfl) (fun _ _ _ h => h) (Or.inl ⟨by rfl, ?_⟩) ?_ ?_
      rotate_left
      · intro w'
        go_simp
        with_reducible rfl
      rotate_left
      · simp only [Act.put, List.setIfInBounds_toArray, List.set_cons_zero, List.set_cons_succ, i64_w, i32_w]
        rfl
      refine take_ (i := 3) (N := some 64) (v := ?_) (a' := ?_) #[true, true, true, true, true, true, true, false, false, false] rfl rfl (by kernel_rfl) (fun _ _ _ h => h) (Or.inl ⟨by rfl, ?_⟩) hHeld ?_ ?_
      rotate_left
      · rintro w' ⟨s0, s1, s2⟩
        go_simp
        with_reducible rfl
      rotate_left
      · simp only [Act.put, List.setIfInBounds_toArray, List.set_cons_zero, List.set_cons_succ, i64_w, i32_w]
        rfl
      refine take_ (i := 7) (N := some 68) (v := ?_) (a' := ?_) #[true, true, true, true, true, true, true, true, false, false] rfl rfl (by kernel_rfl) (fun _ _ _ h => h) (Or.inl ⟨by rfl, ?_⟩) hHeld ?_ ?_
      rotate_left
      · rintro w' ⟨s0, s1, s2⟩
        go_simp
        with_reducible rfl
      rotate_left
      · simp only [Act.put, List.setIfInBounds_toArray, List.set_cons_zero, List.set_cons_succ, i64_w, i32_w]
        rfl
      refine one_ (i := 8) (N := some 69) #[true, true, true, true, true, true, true, true, true, false] rfl rfl (by kernel_rfl) (by decide) (fun K hK => ?_)
      refine goes_ Try.func13 (by kernel_rfl) rfl #[Cx y.f0 y.f1, .agg #[.int .i64 y.f0, .int .i64 y.f1]] (by rfl) rfl rfl (by simp only [List.map_toArray, List.map_cons, List.map_nil]; rfl) ?_
      with_reducible refine (is_calls HIx.out.1 HIx.out.2 _).mono ?_
      rintro e w8 ⟨rfl, hb⟩
      refine ⟨_, rfl, ?_⟩
      have n0_ := Aside0.mk (below_step (below_drew1 HB.out) hb)
      have n1_ := Aside0.mk (below_step (below_drew1 HQ.out) hb)
      clear HB HQ hb
      have HB := n0_
      have HQ := n1_
      clear n0_ n1_
      refine hK.out _ _ ⟨(Below.cell HQ.out (World.block_lt_of_cell? wq _ HX.out)).trans HX.out, (Below.cell HQ.out (World.block_lt_of_cell? wq _ HY.out)).trans HY.out, (Below.cell HQ.out (World.block_lt_of_cell? wq _ HZ.out)).trans HZ.out⟩ (fun hHeld => ?_)
      clear hK K
      refine norm_ (a' := ?_) ?_ ?_
      rotate_left
      · show Act.put _ (some 69) _ = _
        simp only [Act.put, List.setIfInBounds_toArray, List.set_cons_zero, List.set_cons_succ, i64_w, i32_w]
        rfl
      refine pure_ (i := 9) (N := some 70) (v := ?_) (a' := ?_) #[true, true, true, true, true, true, true, true, true, true] rfl rfl (by kernel_rfl) (fun _ _ _ h => h) (Or.inl ⟨by rfl, ?_⟩) ?_ ?_
      rotate_left
      · intro w'
        go_simp
        with_reducible rfl
      rotate_left
      · simp only [Act.put, List.setIfInBounds_toArray, List.set_cons_zero, List.set_cons_succ, i64_w, i32_w]
        rfl
      refine done_ (by kernel_rfl) ?_
      go_wp2
      go_roundw
      case rel => exact ⟨i + 1, hlt, by go_num, HB, HQ⟩
      case measure => simp [intOf]; exact left_less hlt
    · obtain rfl : i = r.length := Nat.le_antisymm hi (Nat.le_of_not_lt hlt)
      have hltb : decide ((r.length : Int) < (r.length : Int)) = false := decide_eq_false (Int.lt_irrefl _)
      go_wp2_with (go_at_call 8; with_reducible refine (awake_calls _).mono ?_; rintro e w9 ⟨rfl, hb⟩; have HB9 := Aside0.mk (below_step HB.out hb); clear hb)
      go_ret
      exact ⟨rfl, HB9.out⟩
theorem rows_walk (x : En) (cs : List Value) (w : World) (h : kEn.K w x cs) : Calls Try.prog 3 #[.agg cs.toArray] w fun e w' => e = .returned (.bool true) ∧ Below w.heap.size w w' := by
  cases hf : fewB x with
  | true => exact rows_few h hf
  | false => exact rows_many h hf
end Go.Proofs.Ytphpinfingaffaa.Law
