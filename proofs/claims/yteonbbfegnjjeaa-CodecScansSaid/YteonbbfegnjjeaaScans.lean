/- CodecScans: the walk. -/
import Derived.Test.YteonbbfegnjjeaaAsked3
namespace Go.Proofs.Yteonbbfegnjjeaa.Law
open Go.RowKit Go.Proofs.Yteonbbfegnjjeaa Go.Proofs.YteonbbfegnjjeaaW.PrintWords Go.Proofs.YteonbbfegnjjeaaW.PrintLast Go.Proofs.YteonbbfegnjjeaaW.PrintMore Go.Proofs.Yteonbbfegnjjeaa.D
set_option linter.unusedSimpArgs false
/-- a world with its first n blocks alone -/
def cutW (w : World) (n : Nat) : World := { w with heap := w.heap.extract 0 n }
theorem cutW_size {w : World} {n : Nat} (h : n ≤ w.heap.size) : (cutW w n).heap.size = n := by
  show (w.heap.extract 0 n).size = n
  simp; omega
theorem cutW_block {w : World} {n k : Nat} (hk : k < n) : (cutW w n).heap[k]? = w.heap[k]? := by
  show (w.heap.extract 0 n)[k]? = _
  simp [Array.getElem?_extract]; omega
theorem cutW_below {w : World} {n : Nat} (h : n ≤ w.heap.size) : Below (cutW w n).heap.size (cutW w n) w := by
  refine ⟨rfl, rfl, rfl, by rw [cutW_size h]; exact h, fun k hk => ?_⟩
  rw [cutW_size h] at hk
  exact (cutW_block hk).symm
theorem cutW_C {w : World} {n : Nat} {A : Option Addr} {l : List Int} (h : Kd.C (Kd.int .u8) w A l.length l) (hA : ∀ ad, A = some ad → 0 < l.length → ad.block < n) : Kd.C (Kd.int .u8) (cutW w n) A l.length l := by
  have hr := Kd.reads_of_C (enc := Value.int .u8) (d := (0 : Int)) (h1 := fun _ => rfl) h
  refine Kd.C_of_reads (d := (0 : Int)) ⟨hr.1, hr.2.1, fun hp => ?_⟩
  obtain ⟨ad, e, hc⟩ := hr.2.2 hp
  refine ⟨ad, e, fun j hj => ?_⟩
  rw [World.cell?_of_block (w := w) (cutW_block (by rw [add_block]; exact hA ad e hp))]
  exact hc j hj
theorem add_far1 (a : Addr) (i : Nat) : a.add (i * 3 + 1) = ⟨(a.add (i * 3)).block, (a.add (i * 3)).off + 1, none⟩ := by
  unfold Addr.add
  by_cases h : i * 3 = 0
  · simp [h]
  · simp [h, Nat.add_assoc]
theorem add_far2 (a : Addr) (i : Nat) : a.add (i * 3 + 2) = ⟨(a.add (i * 3)).block, (a.add (i * 3)).off + 2, none⟩ := by
  unfold Addr.add
  by_cases h : i * 3 = 0
  · simp [h]
  · simp [h, Nat.add_assoc]
set_option maxRecDepth 100000 in
theorem scans_long (A B : Option Addr) (n c m d : Nat) (w : World) (h : 100 < (m : Int)) :
    Calls Try.prog 7 #[.slice A n c, .slice B m d] w fun e w' => e = .returned (.bool true) ∧ Below w.heap.size w w' := by
  have b1 := decide_eq_true h
  go_enter Try.func7, Try.ntmps7
  go_wp2_with (first | (go_at_call 14; refine (awake_calls _).mono ?_; rintro e w' ⟨rfl, hb⟩))
  go_ret
  exact ⟨rfl, hb⟩
set_option maxHeartbeats 4000000 in
set_option maxRecDepth 100000 in
theorem scans_0 (A Q : Option Addr) (c d : Nat) (l : List Int) (qs : List (Int × Int × Int)) (w : World) (hr : Kd.C (Kd.int .u8) w A l.length l) (hc : l.length ≤ c) (hy : Bytes l) (hm : l.length < 140737488355328) (hq : qs.length ≤ 100)
    (hcells : ∀ i (hi : i < qs.length), ∃ aq, Q = some aq ∧ w.cell? (aq.add (i * 3)) = some (.int .i64 qs[i].1) ∧ w.cell? (aq.add (i * 3 + 1)) = some (.int .i64 qs[i].2.1) ∧ w.cell? (aq.add (i * 3 + 2)) = some (.int .i64 qs[i].2.2)) :
    Calls Try.prog 7 #[.slice A l.length c, .slice Q qs.length d] w fun e w' => e = .returned (.bool true) ∧ Below w.heap.size w w' := by
  have HA := Aside0.mk (show Rd w (.slice A l.length c) l from ⟨A, c, rfl, hr, hc⟩)
  have HR := Aside0.mk hr
  have HC := Aside0.mk hc
  have HY := Aside0.mk hy
  have HCL := Aside0.mk hcells
  have b1 : decide (100 < (qs.length : Int)) = false := decide_eq_false (by omega)
  clear hr hc hy hcells
  go_enter Try.func7, Try.ntmps7
  go_wp2_with (first | (go_at_call 9; refine (own_calls HA.out hm).mono ?_; rintro e w1 ⟨V1, rfl, hv, hb⟩; obtain ⟨A1, c1, e1⟩ := Kd.R_slice hv; subst e1; have HV1 := Aside0.mk hv; have HW1 := Aside0.mk hb; clear hv hb) | (go_at_call 15; refine (from_calls (Rd.own HV1.out) hm).mono ?_; rintro e w2 ⟨V2, rfl, hv, hb⟩; obtain ⟨Av, cv, e2⟩ := Kd.R_slice hv; subst e2; have n1_ := Aside0.mk (Kd.R_alloc (Kd.R_alloc (Kd.R_below HV1.out hb) (.cells #[.slice Av l.length cv, .int .i64 0] 30)) (.cells #[.slice A l.length c, .int .i64 0] 44)); have HVL := Aside0.mk (show ∀ k_, (Value.slice A1 l.length c1).ownBlock = some k_ → w.heap.size ≤ k_ ∧ k_ < w1.heap.size from fun k_ hk => ⟨Kd.R_base HV1.out k_ hk, Kd.R_lt HV1.out k_ hk⟩); clear HV1; have HV1 := n1_; clear n1_; have HSL := Aside0.mk (show ∀ k_, (Value.slice Av l.length cv).ownBlock = some k_ → k_ < w2.heap.size from Kd.R_lt hv); have HS := Aside0.mk (Kd.R_alloc (Kd.R_alloc hv (.cells #[.slice Av l.length cv, .int .i64 0] 30)) (.cells #[.slice A l.length c, .int .i64 0] 44)); have K6 := Aside0.mk (heap_alloc2_old w2 (.cells #[.slice Av l.length cv, .int .i64 0] 30) (.cells #[.slice A l.length c, .int .i64 0] 44)); have K7 := Aside0.mk (heap_alloc2_new w2 (.cells #[.slice Av l.length cv, .int .i64 0] 30) (.cells #[.slice A l.length c, .int .i64 0] 44)); have HB := Aside0.mk (below_alloc2 (below_step HW1.out hb) (.cells #[.slice Av l.length cv, .int .i64 0] 30) (.cells #[.slice A l.length c, .int .i64 0] 44)); have h12 := hb.size; have h01 := HW1.out.size; clear hv hb))
  generalize (w2.alloc (.cells #[.slice Av l.length cv, .int .i64 0] 30)).alloc (.cells #[.slice A l.length c, .int .i64 0] 44) = wq at *
  have hxm := Kd.C_max (Kd.R_reads' HV1.out).2.2
  go_loopw [29] (fun v29 wr => ∃ (i : Nat) (xs : List Int), i ≤ l.length ∧ v29 = .int .i64 i ∧ xs.length = l.length ∧ Aside0 (Kd.R (Kd.int .u8) 5 wr w.heap.size (fun _ => True) (.slice A1 l.length c1) xs) ∧ Aside0 (Kd.R (Kd.int .u8) 5 wr w1.heap.size (fun _ => True) (.slice Av l.length cv) l) ∧ Aside0 (wr.heap[w2.heap.size]? = some (.cells #[.slice Av l.length cv, .int .i64 0] 30 (0, 0))) ∧ Aside0 (wr.heap[w2.heap.size + 1]? = some (.cells #[.slice A l.length c, .int .i64 0] 44 (0, 0))) ∧ Aside0 (Below w.heap.size w wr)) (fun v29 _ => l.length - (intOf v29).toNat)
  case atStart => exact ⟨0, l, by omega, rfl, rfl, HV1, HS, K6, K7, HB⟩
  case round =>
    obtain ⟨i, xs, hi, rfl, hxl, HVr, JS, J6, J7, JB⟩ := hrel
    obtain ⟨wo, rfl⟩ : ∃ x : World, x = wr := ⟨_, rfl⟩
    clear HV1 K6 K7 HB HS
    have HS := JS
    have K6 := J6
    have K7 := J7
    have HB := JB
    clear J6 J7 JB JS
    by_cases hlt : i < l.length
    · have hltb : decide ((i : Int) < (l.length : Int)) = true := decide_eq_true (by omega)
      have hwi : wrap64 ((i : Int) + 1) = (i : Int) + 1 := w64 (by omega) (by omega)
      obtain ⟨gv, cap, ev, _, _, _⟩ := Kd.R_form HVr.out (by omega)
      injection ev with ev1 ev2 ev3
      subst ev1 ev3
      have hgv := HVL.out gv (by simp [Value.ownBlock])
      have hv1 := hgv.1
      have hv2 := hgv.2
      have hrw : Kd.R (Kd.int .u8) 5 wo w.heap.size (fun _ => True) (.slice (some ⟨gv, 0, none⟩) xs.length c1) xs := by rw [hxl]; exact HVr.out
      obtain ⟨hcl, hfz⟩ := Kd.R_cell (enc := Value.int .u8) (d := (0 : Int)) (h1 := fun _ => rfl) hrw (i : Int) (by omega) (by omega)
      rw [Int.toNat_natCast] at hcl hfz
      have HPU := Aside0.mk (fun u : Int => (Kd.R_put (enc := Value.int .u8) (h1 := fun _ => rfl) hrw (i : Int) u).1)
      generalize rdOf (0 : Int) xs (i : Int) = y at *
      clear hrw hgv ev2
      go_wp2
      go_roundw
      case rel => exact ⟨i + 1, xs.set i ((y + 1) % 256), by omega, by go_num, by rw [List.length_set]; exact hxl, ⟨by have h := HPU.out ((y + 1) % 256); rw [Int.toNat_natCast, hxl] at h; exact h⟩, ⟨R_set_low HS.out (by show gv < _; omega) _⟩, ⟨blk_far K6.out (by show _ ≠ gv; omega) _⟩, ⟨blk_far K7.out (by show _ ≠ gv; omega) _⟩, ⟨below_set HB.out (by omega)⟩⟩
      case measure => simp [intOf]; omega
    · obtain rfl : i = l.length := by omega
      have hltb : decide ((l.length : Int) < (l.length : Int)) = false := decide_eq_false (by omega)
      go_wp2
      have hs := Kd.R_reads' HS.out
      have HSa := Aside0.mk (show Scn (cutW wo w2.heap.size) (.agg #[.slice Av l.length cv, .int .i64 0]) l 0 from ⟨Av, cv, rfl, cutW_C hs.2.2 (fun ad e _ => HSL.out ad.block (by rw [e]; simp [Value.ownBlock])), hs.2.1, HY.out⟩)
      have HSb := Aside0.mk (show Scn (cutW wo w2.heap.size) (.agg #[.slice A l.length c, .int .i64 0]) l 0 from ⟨A, c, rfl, cutW_C (Kd.C_below HR.out HB.out) (fun ad e hp => by
        obtain ⟨ad', e', h⟩ := Kd.at_int HR.out 0 (by omega) (by omega)
        rw [e] at e'
        injection e' with e'
        subst e'
        have := World.block_lt_of_cell? w _ h
        rw [add_block] at this
        omega), HC.out, HY.out⟩)
      have hlt2 := blk_lt K6.out
      have HBw := HB
      have HBc := Aside0.mk (cutW_below (w := wo) (n := w2.heap.size) (by omega))
      have HCZ := Aside0.mk (cutW_size (w := wo) (n := w2.heap.size) (by omega))
      clear HB HS hs HVr
      have HB := HBc
      clear HBc
      generalize cutW wo w2.heap.size = wc at *
      go_loopw [41] (fun v41 wr => ∃ (i : Nat) (lr : List Int) (er : Int) (A1_ : Option Addr) (c1_ : Nat) (A2_ : Option Addr) (c2_ : Nat), i ≤ qs.length ∧ v41 = .int .i64 i ∧ lr.length ≤ l.length ∧ Aside0 (wr.heap[w2.heap.size]? = some (.cells #[.slice A1_ lr.length c1_, .int .i64 er] 30 (0, 0))) ∧ Aside0 (wr.heap[w2.heap.size + 1]? = some (.cells #[.slice A2_ lr.length c2_, .int .i64 er] 44 (0, 0))) ∧ Aside0 (Scn wc (.agg #[.slice A1_ lr.length c1_, .int .i64 er]) lr er) ∧ Aside0 (Scn wc (.agg #[.slice A2_ lr.length c2_, .int .i64 er]) lr er) ∧ Aside0 (Below wc.heap.size wc wr) ∧ Aside0 (Below w.heap.size w wr)) (fun v41 _ => qs.length - (intOf v41).toNat)
      case atStart => exact ⟨0, l, 0, Av, cv, A, c, by omega, rfl, Nat.le_refl _, K6, K7, HSa, HSb, HB, HBw⟩
      case round =>
      obtain ⟨i, lr, er, A1_, c1_, A2_, c2_, hi, rfl, hlr, J6, J7, JA, JB, JC, JD⟩ := hrel
      obtain ⟨wo, rfl⟩ : ∃ x : World, x = wr := ⟨_, rfl⟩
      clear K6 K7 HSa HSb HB HBw
      have K6 := J6
      have K7 := J7
      have HSa := JA
      have HSb := JB
      have HB := JC
      have HBw := JD
      clear J6 J7 JA JB JC JD
      by_cases hlt : i < qs.length
      · have hltb : decide ((i : Int) < (qs.length : Int)) = true := decide_eq_true (by omega)
        have hwi : wrap64 ((i : Int) + 1) = (i : Int) + 1 := w64 (by omega) (by omega)
        obtain ⟨aq, hQ, q0, q1, q2⟩ := HCL.out i hlt
        obtain rfl := hQ
        have y0 := (HBw.out.cell (World.block_lt_of_cell? w _ q0)).trans q0
        have y1 := (HBw.out.cell (World.block_lt_of_cell? w _ q1)).trans q1
        have y2 := (HBw.out.cell (World.block_lt_of_cell? w _ q2)).trans q2
        rw [add_far1] at y1
        rw [add_far2] at y2
        clear q0 q1 q2
        generalize qs[i].1 = kd at *
        generalize qs[i].2.1 = a at *
        generalize qs[i].2.2 = b at *
        obtain ⟨k3, e3, hk3⟩ : ∃ k3 e3, askP lr er kd a b = (k3, e3) := ⟨_, _, rfl⟩
        obtain ⟨l3, hl3⟩ : ∃ l3, lr.drop k3 = l3 := ⟨_, rfl⟩
        have hl3l : l3.length ≤ l.length := by rw [← hl3, List.length_drop]; omega
        have HK := Aside0.mk hk3
        have HL3 := Aside0.mk hl3
        clear hk3 hl3 HCL
        have hk7 := blk_lt K7.out
        have hcz : wc.heap.size ≤ w2.heap.size := by rw [HCZ.out]; exact Nat.le_refl _
        have z0_ := (blk_cell (blk_below K6.out (below_alloc (Below.refl _ _) (.cells #[.int .i64 kd, .int .i64 a, .int .i64 b] 46))) 0).trans rfl
        have z1_ := (blk_cell (blk_below K6.out (below_alloc (Below.refl _ _) (.cells #[.int .i64 kd, .int .i64 a, .int .i64 b] 46))) 1).trans rfl
        have z2_ := (blk_cell (blk_below K7.out (below_alloc (Below.refl _ _) (.cells #[.int .i64 kd, .int .i64 a, .int .i64 b] 46))) 0).trans rfl
        have z3_ := (blk_cell (blk_below K7.out (below_alloc (Below.refl _ _) (.cells #[.int .i64 kd, .int .i64 a, .int .i64 b] 46))) 1).trans rfl
        have z4_ := (blk_cell (heap_alloc_new wo (.cells #[.int .i64 kd, .int .i64 a, .int .i64 b] 46)) 0).trans rfl
        have z5_ := (blk_cell (heap_alloc_new wo (.cells #[.int .i64 kd, .int .i64 a, .int .i64 b] 46)) 1).trans rfl
        have z6_ := (blk_cell (heap_alloc_new wo (.cells #[.int .i64 kd, .int .i64 a, .int .i64 b] 46)) 2).trans rfl
        go_wp2_with (first | (go_at_call 20; (with_reducible refine (asked_calls HSa.out HSb.out ?hl ?hw kd a b).mono ?_); (case hl => omega); (case hw => exact below_alloc HB.out (.cells #[.int .i64 kd, .int .i64 a, .int .i64 b] 46)); rw [HK.out]; dsimp only; rw [HL3.out]; rintro x w3 ⟨S', R', rfl, ⟨A3, c3, rfl, hr3, hc3, hy3⟩, ⟨A4, c4, rfl, hr4, hc4, hy4⟩, hb⟩; have nK6_ := Aside0.mk (blk_below (blk_below (blk_below K6.out (below_alloc (Below.refl _ _) (.cells #[.int .i64 kd, .int .i64 a, .int .i64 b] 46))) hb) (below_alloc2 (Below.refl w3.heap.size w3) (.cells #[.slice A3 l3.length c3, .int .i64 e3] 30) (.cells #[.slice A4 l3.length c4, .int .i64 e3] 44))); have nK7_ := Aside0.mk (blk_below (blk_below (blk_below K7.out (below_alloc (Below.refl _ _) (.cells #[.int .i64 kd, .int .i64 a, .int .i64 b] 46))) hb) (below_alloc2 (Below.refl w3.heap.size w3) (.cells #[.slice A3 l3.length c3, .int .i64 e3] 30) (.cells #[.slice A4 l3.length c4, .int .i64 e3] 44))); clear K6 K7; have K6 := nK6_; have K7 := nK7_; clear nK6_ nK7_; have K10 := Aside0.mk (blk_below (blk_below (heap_alloc_new wo (.cells #[.int .i64 kd, .int .i64 a, .int .i64 b] 46)) hb) (below_alloc2 (Below.refl w3.heap.size w3) (.cells #[.slice A3 l3.length c3, .int .i64 e3] 30) (.cells #[.slice A4 l3.length c4, .int .i64 e3] 44))); have K11 := Aside0.mk (heap_alloc2_old w3 (.cells #[.slice A3 l3.length c3, .int .i64 e3] 30) (.cells #[.slice A4 l3.length c4, .int .i64 e3] 44)); have K12 := Aside0.mk (heap_alloc2_new w3 (.cells #[.slice A3 l3.length c3, .int .i64 e3] 30) (.cells #[.slice A4 l3.length c4, .int .i64 e3] 44)); have nB_ := Aside0.mk (below_alloc2 (below_step (below_alloc HB.out (.cells #[.int .i64 kd, .int .i64 a, .int .i64 b] 46)) hb) (.cells #[.slice A3 l3.length c3, .int .i64 e3] 30) (.cells #[.slice A4 l3.length c4, .int .i64 e3] 44)); have nW_ := Aside0.mk (below_alloc2 (below_step (below_alloc HBw.out (.cells #[.int .i64 kd, .int .i64 a, .int .i64 b] 46)) hb) (.cells #[.slice A3 l3.length c3, .int .i64 e3] 30) (.cells #[.slice A4 l3.length c4, .int .i64 e3] 44)); clear HB HBw; have HB := nB_; have HBw := nW_; clear nB_ nW_; have HSc := Aside0.mk (show Scn wc (.agg #[.slice A3 l3.length c3, .int .i64 e3]) l3 e3 from ⟨A3, c3, rfl, hr3, hc3, hy3⟩); have HSd := Aside0.mk (show Scn wc (.agg #[.slice A4 l3.length c4, .int .i64 e3]) l3 e3 from ⟨A4, c4, rfl, hr4, hc4, hy4⟩); have hlt3 := Nat.lt_of_lt_of_le (blk_lt (heap_alloc_new wo (.cells #[.int .i64 kd, .int .i64 a, .int .i64 b] 46))) hb.size; clear y0 y1 y2 z0_ z1_ z2_ z3_ z4_ z5_ z6_; have x00 := (blk_cell K6.out 0).trans rfl; have x01 := (blk_cell K6.out 1).trans rfl; have x10 := (blk_cell K7.out 0).trans rfl; have x11 := (blk_cell K7.out 1).trans rfl; have x20 := (blk_cell K10.out 0).trans rfl; have x21 := (blk_cell K10.out 1).trans rfl; have x22 := (blk_cell K10.out 2).trans rfl; clear hr3 hc3 hy3 hr4 hc4 hy4 hb) | (go_at_call 20; refine (asked_calls HSa.out HSb.out (by omega) HB.out kd a b).mono ?_; rw [HK.out]; dsimp only; rw [HL3.out]; rintro x w4 ⟨S', R', rfl, ⟨A5, c5, rfl, hr5, hc5, hy5⟩, ⟨A6, c6, rfl, _, _, _⟩, hb⟩; have nK6_ := Aside0.mk (blk_below (blk_below K6.out hb) (below_alloc2 (Below.refl w4.heap.size w4) (.cells #[.slice A5 l3.length c5, .int .i64 e3] 30) (.cells #[.slice A6 l3.length c6, .int .i64 e3] 44))); have nK7_ := Aside0.mk (blk_below (blk_below K7.out hb) (below_alloc2 (Below.refl w4.heap.size w4) (.cells #[.slice A5 l3.length c5, .int .i64 e3] 30) (.cells #[.slice A6 l3.length c6, .int .i64 e3] 44))); have nK11_ := Aside0.mk (blk_below (blk_below K11.out hb) (below_alloc2 (Below.refl w4.heap.size w4) (.cells #[.slice A5 l3.length c5, .int .i64 e3] 30) (.cells #[.slice A6 l3.length c6, .int .i64 e3] 44))); have nK12_ := Aside0.mk (blk_below (blk_below K12.out hb) (below_alloc2 (Below.refl w4.heap.size w4) (.cells #[.slice A5 l3.length c5, .int .i64 e3] 30) (.cells #[.slice A6 l3.length c6, .int .i64 e3] 44))); clear K6 K7 K11 K12; have K6 := nK6_; have K7 := nK7_; have K11 := nK11_; have K12 := nK12_; clear nK6_ nK7_ nK11_ nK12_; have K14 := Aside0.mk (heap_alloc2_old w4 (.cells #[.slice A5 l3.length c5, .int .i64 e3] 30) (.cells #[.slice A6 l3.length c6, .int .i64 e3] 44)); have nB_ := Aside0.mk (below_alloc2 (below_step HB.out hb) (.cells #[.slice A5 l3.length c5, .int .i64 e3] 30) (.cells #[.slice A6 l3.length c6, .int .i64 e3] 44)); have nW_ := Aside0.mk (below_alloc2 (below_step HBw.out hb) (.cells #[.slice A5 l3.length c5, .int .i64 e3] 30) (.cells #[.slice A6 l3.length c6, .int .i64 e3] 44)); have hlt4 := hb.size; clear HB HBw; have HB := nB_; have HBw := nW_; clear nB_ nW_; have HSe := Aside0.mk (show Scn wc (.agg #[.slice A5 l3.length c5, .int .i64 e3]) l3 e3 from ⟨A5, c5, rfl, hr5, hc5, hy5⟩); clear K10 hr5 hc5 hy5 hb))
        generalize (w4.alloc (.cells #[.slice A5 l3.length c5, .int .i64 e3] 30)).alloc (.cells #[.slice A6 l3.length c6, .int .i64 e3] 44) = wz at *
        refine start_ (n := 58) (S := fun w' => w'.cell? ⟨w3.heap.size, 0, none⟩ = some (.slice A3 l3.length c3) ∧ w'.cell? ⟨w3.heap.size, 1, none⟩ = some (.int .i64 e3) ∧ w'.cell? ⟨w3.heap.size + 1, 0, none⟩ = some (.slice A4 l3.length c4) ∧ w'.cell? ⟨w3.heap.size + 1, 1, none⟩ = some (.int .i64 e3) ∧ w'.cell? ⟨w4.heap.size, 0, none⟩ = some (.slice A5 l3.length c5) ∧ w'.cell? ⟨w4.heap.size, 1, none⟩ = some (.int .i64 e3) ∧ w'.cell? ⟨w2.heap.size, 0, none⟩ = some (.slice A1_ lr.length c1_) ∧ w'.cell? ⟨w2.heap.size, 1, none⟩ = some (.int .i64 er) ∧ w'.cell? ⟨w2.heap.size + 1, 0, none⟩ = some (.slice A2_ lr.length c2_) ∧ w'.cell? ⟨w2.heap.size + 1, 1, none⟩ = some (.int .i64 er)) (ds := []) #[false, false, false, false, false, false, false, false, false, false, false, false, false, false, false, false, false, false, false, false, false, false, false, false, false, false, false, false, false, false, false, false, false, false, false, false, false, false, false, false, false, false, false, false, false, false, false, false, false, false, false, false, false, false, false, false, false, false] (by kernel_rfl) rfl rfl ⟨(blk_cell K11.out 0).trans rfl, (blk_cell K11.out 1).trans rfl, (blk_cell K12.out 0).trans rfl, (blk_cell K12.out 1).trans rfl, (blk_cell K14.out 0).trans rfl, (blk_cell K14.out 1).trans rfl, (blk_cell K6.out 0).trans rfl, (blk_cell K6.out 1).trans rfl, (blk_cell K7.out 0).trans rfl, (blk_cell K7.out 1).trans rfl⟩ (fun hHeld => ?_)
        refine pure_ (i := 0) (N := some 61) (v := ?_) (a' := ?_) #[true, false, false, false, false, false, false, false, false, false, false, false, false, false, false, false, false, false, false, false, false, false, false, false, false, false, false, false, false, false, false, false, false, false, false, false, false, false, false, false, false, false, false, false, false, false, false, false, false, false, false, false, false, false, false, false, false, false] rfl rfl (by kernel_rfl) (fun _ _ _ h => h) (Or.inl ⟨by rfl, ?_⟩) ?_ ?_
        rotate_left
        · intro w'
          go_simp
          with_reducible rfl
        rotate_left
        · simp only [Act.put, List.setIfInBounds_toArray, List.set_cons_zero, List.set_cons_succ, i64_w, i32_w]
          rfl
        refine pure_ (i := 1) (N := some 62) (v := ?_) (a' := ?_) #[true, true, false, false, false, false, false, false, false, false, false, false, false, false, false, false, false, false, false, false, false, false, false, false, false, false, false, false, false, false, false, false, false, false, false, false, false, false, false, false, false, false, false, false, false, false, false, false, false, false, false, false, false, false, false, false, false, false] rfl rfl (by kernel_rfl) (fun _ _ _ h => h) (Or.inl ⟨by rfl, ?_⟩) ?_ ?_
        rotate_left
        · intro w'
          go_simp
          with_reducible rfl
        rotate_left
        · simp only [Act.put, List.setIfInBounds_toArray, List.set_cons_zero, List.set_cons_succ, i64_w, i32_w]
          rfl
        refine pure_ (i := 2) (N := some 63) (v := ?_) (a' := ?_) #[true, true, true, false, false, false, false, false, false, false, false, false, false, false, false, false, false, false, false, false, false, false, false, false, false, false, false, false, false, false, false, false, false, false, false, false, false, false, false, false, false, false, false, false, false, false, false, false, false, false, false, false, false, false, false, false, false, false] rfl rfl (by kernel_rfl) (fun _ _ _ h => h) (Or.inl ⟨by rfl, ?_⟩) ?_ ?_
        rotate_left
        · intro w'
          go_simp
          with_reducible rfl
        rotate_left
        · simp only [Act.put, List.setIfInBounds_toArray, List.set_cons_zero, List.set_cons_succ, i64_w, i32_w]
          rfl
        refine pure_ (i := 3) (N := some 64) (v := ?_) (a' := ?_) #[true, true, true, true, false, false, false, false, false, false, false, false, false, false, false, false, false, false, false, false, false, false, false, false, false, false, false, false, false, false, false, false, false, false, false, false, false, false, false, false, false, false, false, false, false, false, false, false, false, false, false, false, false, false, false, false, false, false] rfl rfl (by kernel_rfl) (fun _ _ _ h => h) (Or.inl ⟨by rfl, ?_⟩) ?_ ?_
        rotate_left
        · intro w'
          go_simp
          with_reducible rfl
        rotate_left
        · simp only [Act.put, List.setIfInBounds_toArray, List.set_cons_zero, List.set_cons_succ, i64_w, i32_w]
          rfl
        refine pure_ (i := 4) (N := some 65) (v := ?_) (a' := ?_) #[true, true, true, true, true, false, false, false, false, false, false, false, false, false, false, false, false, false, false, false, false, false, false, false, false, false, false, false, false, false, false, false, false, false, false, false, false, false, false, false, false, false, false, false, false, false, false, false, false, false, false, false, false, false, false, false, false, false] rfl rfl (by kernel_rfl) (fun _ _ _ h => h) (Or.inl ⟨by rfl, ?_⟩) ?_ ?_
        rotate_left
        · intro w'
          go_simp
          with_reducible rfl
        rotate_left
        · simp only [Act.put, List.setIfInBounds_toArray, List.set_cons_zero, List.set_cons_succ, i64_w, i32_w]
          rfl
        refine pure_ (i := 5) (N := some 66) (v := ?_) (a' := ?_) #[true, true, true, true, true, true, false, false, false, false, false, false, false, false, false, false, false, false, false, false, false, false, false, false, false, false, false, false, false, false, false, false, false, false, false, false, false, false, false, false, false, false, false, false, false, false, false, false, false, false, false, false, false, false, false, false, false, false] rfl rfl (by kernel_rfl) (fun _ _ _ h => h) (Or.inl ⟨by rfl, ?_⟩) ?_ ?_
        rotate_left
        · intro w'
          go_simp
          with_reducible rfl
        rotate_left
        · simp only [Act.put, List.setIfInBounds_toArray, List.set_cons_zero, List.set_cons_succ, i64_w, i32_w]
          rfl
        refine pure_ (i := 6) (N := some 67) (v := ?_) (a' := ?_) #[true, true, true, true, true, true, true, false, false, false, false, false, false, false, false, false, false, false, false, false, false, false, false, false, false, false, false, false, false, false, false, false, false, false, false, false, false, false, false, false, false, false, false, false, false, false, false, false, false, false, false, false, false, false, false, false, false, false] rfl rfl (by kernel_rfl) (fun _ _ _ h => h) (Or.inl ⟨by rfl, ?_⟩) ?_ ?_
        rotate_left
        · intro w'
          go_simp
          with_reducible rfl
        rotate_left
        · simp only [Act.put, List.setIfInBounds_toArray, List.set_cons_zero, List.set_cons_succ, i64_w, i32_w]
          rfl
        refine pure_ (i := 9) (N := some 70) (v := ?_) (a' := ?_) #[true, true, true, true, true, true, true, false, false, true, false, false, false, false, false, false, false, false, false, false, false, false, false, false, false, false, false, false, false, false, false, false, false, false, false, false, false, false, false, false, false, false, false, false, false, false, false, false, false, false, false, false, false, false, false, false, false, false] rfl rfl (by kernel_rfl) (fun _ _ _ h => h) (Or.inl ⟨by rfl, ?_⟩) ?_ ?_
        rotate_left
        · intro w'
          go_simp
          with_reducible rfl
        rotate_left
        · simp only [Act.put, List.setIfInBounds_toArray, List.set_cons_zero, List.set_cons_succ, i64_w, i32_w]
          rfl
        refine take_ (i := 7) (N := some 68) (v := ?_) (a' := ?_) #[true, true, true, true, true, true, true, true, false, true, false, false, false, false, false, false, false, false, false, false, false, false, false, false, false, false, false, false, false, false, false, false, false, false, false, false, false, false, false, false, false, false, false, false, false, false, false, false, false, false, false, false, false, false, false, false, false, false] rfl rfl (by kernel_rfl) (fun _ _ _ h => h) (Or.inl ⟨by rfl, ?_⟩) hHeld ?_ ?_
        rotate_left
        · rintro w' ⟨s0, s1, s2, s3, s4, s5, s6, s7, s8, s9⟩
          go_simp
          with_reducible rfl
        rotate_left
        · simp only [Act.put, List.setIfInBounds_toArray, List.set_cons_zero, List.set_cons_succ, i64_w, i32_w]
          rfl
        refine take_ (i := 10) (N := some 71) (v := ?_) (a' := ?_) #[true, true, true, true, true, true, true, true, false, true, true, false, false, false, false, false, false, false, false, false, false, false, false, false, false, false, false, false, false, false, false, false, false, false, false, false, false, false, false, false, false, false, false, false, false, false, false, false, false, false, false, false, false, false, false, false, false, false] rfl rfl (by kernel_rfl) (fun _ _ _ h => h) (Or.inl ⟨by rfl, ?_⟩) hHeld ?_ ?_
        rotate_left
        · rintro w' ⟨s0, s1, s2, s3, s4, s5, s6, s7, s8, s9⟩
          go_simp
          with_reducible rfl
        rotate_left
        · simp only [Act.put, List.setIfInBounds_toArray, List.set_cons_zero, List.set_cons_succ, i64_w, i32_w]
          rfl
        refine one_ (i := 8) (N := some 69) #[true, true, true, true, true, true, true, true, true, true, true, false, false, false, false, false, false, false, false, false, false, false, false, false, false, false, false, false, false, false, false, false, false, false, false, false, false, false, false, false, false, false, false, false, false, false, false, false, false, false, false, false, false, false, false, false, false, false] rfl rfl (by kernel_rfl) (by decide) (fun K hK => ?_)
        refine goes_ Try.func18 (by kernel_rfl) rfl #[.agg #[.slice A3 l3.length c3, .int .i64 e3]] (by rfl) rfl rfl (by simp only [List.map_toArray, List.map_cons, List.map_nil]; rfl) ?_
        with_reducible refine (err_calls (HSc.out.below (below_drew1 HB.out))).mono ?_
        rintro x wv0 ⟨rfl, hb⟩
        refine ⟨_, rfl, ?_⟩
        have nK11_ := Aside0.mk (blk_below (w := wz.drew) K11.out hb)
        have nK12_ := Aside0.mk (blk_below (w := wz.drew) K12.out hb)
        have nK14_ := Aside0.mk (blk_below (w := wz.drew) K14.out hb)
        have nK6_ := Aside0.mk (blk_below (w := wz.drew) K6.out hb)
        have nK7_ := Aside0.mk (blk_below (w := wz.drew) K7.out hb)
        clear K11 K12 K14 K6 K7
        have K11 := nK11_
        have K12 := nK12_
        have K14 := nK14_
        have K6 := nK6_
        have K7 := nK7_
        clear nK11_ nK12_ nK14_ nK6_ nK7_
        have nB_ := Aside0.mk (below_step (below_drew1 HB.out) hb)
        have nW_ := Aside0.mk (below_step (below_drew1 HBw.out) hb)
        clear HB HBw hb
        have HB := nB_
        have HBw := nW_
        clear nB_ nW_
        refine hK.out _ _ ⟨(blk_cell K11.out 0).trans rfl, (blk_cell K11.out 1).trans rfl, (blk_cell K12.out 0).trans rfl, (blk_cell K12.out 1).trans rfl, (blk_cell K14.out 0).trans rfl, (blk_cell K14.out 1).trans rfl, (blk_cell K6.out 0).trans rfl, (blk_cell K6.out 1).trans rfl, (blk_cell K7.out 0).trans rfl, (blk_cell K7.out 1).trans rfl⟩ (fun hHeld => ?_)
        clear hK K
        refine norm_ (a' := ?_) ?_ ?_
        rotate_left
        · show Act.put _ (some 69) _ = _
          simp only [Act.put, List.setIfInBounds_toArray, List.set_cons_zero, List.set_cons_succ, i64_w, i32_w]
          rfl
        refine pure_ (i := 11) (N := some 72) (v := ?_) (a' := ?_) #[true, true, true, true, true, true, true, true, true, true, true, true, false, false, false, false, false, false, false, false, false, false, false, false, false, false, false, false, false, false, false, false, false, false, false, false, false, false, false, false, false, false, false, false, false, false, false, false, false, false, false, false, false, false, false, false, false, false] rfl rfl (by kernel_rfl) (fun _ _ _ h => h) (Or.inl ⟨by rfl, ?_⟩) ?_ ?_
        rotate_left
        · intro w'
          go_simp
          with_reducible rfl
        rotate_left
        · simp only [Act.put, List.setIfInBounds_toArray, List.set_cons_zero, List.set_cons_succ, i64_w, i32_w]
          rfl
        refine pure_ (i := 12) (N := some 73) (v := ?_) (a' := ?_) #[true, true, true, true, true, true, true, true, true, true, true, true, true, false, false, false, false, false, false, false, false, false, false, false, false, false, false, false, false, false, false, false, false, false, false, false, false, false, false, false, false, false, false, false, false, false, false, false, false, false, false, false, false, false, false, false, false, false] rfl rfl (by kernel_rfl) (fun _ _ _ h => h) (Or.inl ⟨by rfl, ?_⟩) ?_ ?_
        rotate_left
        · intro w'
          go_simp
          with_reducible rfl
        rotate_left
        · simp only [Act.put, List.setIfInBounds_toArray, List.set_cons_zero, List.set_cons_succ, i64_w, i32_w]
          rfl
        refine pure_ (i := 13) (N := some 74) (v := ?_) (a' := ?_) #[true, true, true, true, true, true, true, true, true, true, true, true, true, true, false, false, false, false, false, false, false, false, false, false, false, false, false, false, false, false, false, false, false, false, false, false, false, false, false, false, false, false, false, false, false, false, false, false, false, false, false, false, false, false, false, false, false, false] rfl rfl (by kernel_rfl) (fun _ _ _ h => h) (Or.inl ⟨by rfl, ?_⟩) ?_ ?_
        rotate_left
        · intro w'
          go_simp
          with_reducible rfl
        rotate_left
        · simp only [Act.put, List.setIfInBounds_toArray, List.set_cons_zero, List.set_cons_succ, i64_w, i32_w]
          rfl
        refine pure_ (i := 16) (N := some 77) (v := ?_) (a' := ?_) #[true, true, true, true, true, true, true, true, true, true, true, true, true, true, false, false, true, false, false, false, false, false, false, false, false, false, false, false, false, false, false, false, false, false, false, false, false, false, false, false, false, false, false, false, false, false, false, false, false, false, false, false, false, false, false, false, false, false] rfl rfl (by kernel_rfl) (fun _ _ _ h => h) (Or.inl ⟨by rfl, ?_⟩) ?_ ?_
        rotate_left
        · intro w'
          go_simp
          with_reducible rfl
        rotate_left
        · simp only [Act.put, List.setIfInBounds_toArray, List.set_cons_zero, List.set_cons_succ, i64_w, i32_w]
          rfl
        refine take_ (i := 14) (N := some 75) (v := ?_) (a' := ?_) #[true, true, true, true, true, true, true, true, true, true, true, true, true, true, true, false, true, false, false, false, false, false, false, false, false, false, false, false, false, false, false, false, false, false, false, false, false, false, false, false, false, false, false, false, false, false, false, false, false, false, false, false, false, false, false, false, false, false] rfl rfl (by kernel_rfl) (fun _ _ _ h => h) (Or.inl ⟨by rfl, ?_⟩) hHeld ?_ ?_
        rotate_left
        · rintro w' ⟨s0, s1, s2, s3, s4, s5, s6, s7, s8, s9⟩
          go_simp
          with_reducible rfl
        rotate_left
        · simp only [Act.put, List.setIfInBounds_toArray, List.set_cons_zero, List.set_cons_succ, i64_w, i32_w]
          rfl
        refine take_ (i := 17) (N := some 78) (v := ?_) (a' := ?_) #[true, true, true, true, true, true, true, true, true, true, true, true, true, true, true, false, true, true, false, false, false, false, false, false, false, false, false, false, false, false, false, false, false, false, false, false, false, false, false, false, false, false, false, false, false, false, false, false, false, false, false, false, false, false, false, false, false, false] rfl rfl (by kernel_rfl) (fun _ _ _ h => h) (Or.inl ⟨by rfl, ?_⟩) hHeld ?_ ?_
        rotate_left
        · rintro w' ⟨s0, s1, s2, s3, s4, s5, s6, s7, s8, s9⟩
          go_simp
          with_reducible rfl
        rotate_left
        · simp only [Act.put, List.setIfInBounds_toArray, List.set_cons_zero, List.set_cons_succ, i64_w, i32_w]
          rfl
        refine pure_ (i := 18) (N := some 79) (v := ?_) (a' := ?_) #[true, true, true, true, true, true, true, true, true, true, true, true, true, true, true, false, true, true, true, false, false, false, false, false, false, false, false, false, false, false, false, false, false, false, false, false, false, false, false, false, false, false, false, false, false, false, false, false, false, false, false, false, false, false, false, false, false, false] rfl rfl (by kernel_rfl) (fun _ _ _ h => h) (Or.inl ⟨by rfl, ?_⟩) ?_ ?_
        rotate_left
        · intro w'
          go_simp
          with_reducible rfl
        rotate_left
        · simp only [Act.put, List.setIfInBounds_toArray, List.set_cons_zero, List.set_cons_succ, i64_w, i32_w]
          rfl
        refine one_ (i := 15) (N := some 76) #[true, true, true, true, true, true, true, true, true, true, true, true, true, true, true, true, true, true, true, false, false, false, false, false, false, false, false, false, false, false, false, false, false, false, false, false, false, false, false, false, false, false, false, false, false, false, false, false, false, false, false, false, false, false, false, false, false, false] rfl rfl (by kernel_rfl) (by decide) (fun K hK => ?_)
        refine goes_ Try.func19 (by kernel_rfl) rfl #[.agg #[.slice A3 l3.length c3, .int .i64 e3]] (by rfl) rfl rfl (by simp only [List.map_toArray, List.map_cons, List.map_nil]; rfl) ?_
        with_reducible refine (left_calls (HSc.out.below HB.out)).mono ?_
        rintro x wv1 ⟨rfl, hb⟩
        refine ⟨_, rfl, ?_⟩
        have nK11_ := Aside0.mk (blk_below K11.out hb)
        have nK12_ := Aside0.mk (blk_below K12.out hb)
        have nK14_ := Aside0.mk (blk_below K14.out hb)
        have nK6_ := Aside0.mk (blk_below K6.out hb)
        have nK7_ := Aside0.mk (blk_below K7.out hb)
        clear K11 K12 K14 K6 K7
        have K11 := nK11_
        have K12 := nK12_
        have K14 := nK14_
        have K6 := nK6_
        have K7 := nK7_
        clear nK11_ nK12_ nK14_ nK6_ nK7_
        have nB_ := Aside0.mk (below_step HB.out hb)
        have nW_ := Aside0.mk (below_step HBw.out hb)
        clear HB HBw hb
        have HB := nB_
        have HBw := nW_
        clear nB_ nW_
        refine hK.out _ _ ⟨(blk_cell K11.out 0).trans rfl, (blk_cell K11.out 1).trans rfl, (blk_cell K12.out 0).trans rfl, (blk_cell K12.out 1).trans rfl, (blk_cell K14.out 0).trans rfl, (blk_cell K14.out 1).trans rfl, (blk_cell K6.out 0).trans rfl, (blk_cell K6.out 1).trans rfl, (blk_cell K7.out 0).trans rfl, (blk_cell K7.out 1).trans rfl⟩ (fun hHeld => ?_)
        clear hK K
        refine norm_ (a' := ?_) ?_ ?_
        rotate_left
        · show Act.put _ (some 76) _ = _
          simp only [Act.put, List.setIfInBounds_toArray, List.set_cons_zero, List.set_cons_succ, i64_w, i32_w]
          rfl
        refine pure_ (i := 19) (N := some 80) (v := ?_) (a' := ?_) #[true, true, true, true, true, true, true, true, true, true, true, true, true, true, true, true, true, true, true, true, false, false, false, false, false, false, false, false, false, false, false, false, false, false, false, false, false, false, false, false, false, false, false, false, false, false, false, false, false, false, false, false, false, false, false, false, false, false] rfl rfl (by kernel_rfl) (fun _ _ _ h => h) (Or.inl ⟨by rfl, ?_⟩) ?_ ?_
        rotate_left
        · intro w'
          go_simp
          with_reducible rfl
        rotate_left
        · simp only [Act.put, List.setIfInBounds_toArray, List.set_cons_zero, List.set_cons_succ, i64_w, i32_w]
          rfl
        refine pure_ (i := 20) (N := some 81) (v := ?_) (a' := ?_) #[true, true, true, true, true, true, true, true, true, true, true, true, true, true, true, true, true, true, true, true, true, false, false, false, false, false, false, false, false, false, false, false, false, false, false, false, false, false, false, false, false, false, false, false, false, false, false, false, false, false, false, false, false, false, false, false, false, false] rfl rfl (by kernel_rfl) (fun _ _ _ h => h) (Or.inl ⟨by rfl, ?_⟩) ?_ ?_
        rotate_left
        · intro w'
          go_simp
          with_reducible rfl
        rotate_left
        · simp only [Act.put, List.setIfInBounds_toArray, List.set_cons_zero, List.set_cons_succ, i64_w, i32_w]
          rfl
        refine pure_ (i := 21) (N := some 82) (v := ?_) (a' := ?_) #[true, true, true, true, true, true, true, true, true, true, true, true, true, true, true, true, true, true, true, true, true, true, false, false, false, false, false, false, false, false, false, false, false, false, false, false, false, false, false, false, false, false, false, false, false, false, false, false, false, false, false, false, false, false, false, false, false, false] rfl rfl (by kernel_rfl) (fun _ _ _ h => h) (Or.inl ⟨by rfl, ?_⟩) ?_ ?_
        rotate_left
        · intro w'
          go_simp
          with_reducible rfl
        rotate_left
        · simp only [Act.put, List.setIfInBounds_toArray, List.set_cons_zero, List.set_cons_succ, i64_w, i32_w]
          rfl
        refine take_ (i := 22) (N := some 83) (v := ?_) (a' := ?_) #[true, true, true, true, true, true, true, true, true, true, true, true, true, true, true, true, true, true, true, true, true, true, true, false, false, false, false, false, false, false, false, false, false, false, false, false, false, false, false, false, false, false, false, false, false, false, false, false, false, false, false, false, false, false, false, false, false, false] rfl rfl (by kernel_rfl) (fun _ _ _ h => h) (Or.inl ⟨by rfl, ?_⟩) hHeld ?_ ?_
        rotate_left
        · rintro w' ⟨s0, s1, s2, s3, s4, s5, s6, s7, s8, s9⟩
          go_simp
          with_reducible rfl
        rotate_left
        · simp only [Act.put, List.setIfInBounds_toArray, List.set_cons_zero, List.set_cons_succ, i64_w, i32_w]
          rfl
        refine take_ (i := 24) (N := some 85) (v := ?_) (a' := ?_) #[true, true, true, true, true, true, true, true, true, true, true, true, true, true, true, true, true, true, true, true, true, true, true, false, true, false, false, false, false, false, false, false, false, false, false, false, false, false, false, false, false, false, false, false, false, false, false, false, false, false, false, false, false, false, false, false, false, false] rfl rfl (by kernel_rfl) (fun _ _ _ h => h) (Or.inl ⟨by rfl, ?_⟩) hHeld ?_ ?_
        rotate_left
        · rintro w' ⟨s0, s1, s2, s3, s4, s5, s6, s7, s8, s9⟩
          go_simp
          with_reducible rfl
        rotate_left
        · simp only [Act.put, List.setIfInBounds_toArray, List.set_cons_zero, List.set_cons_succ, i64_w, i32_w]
          rfl
        refine one_ (i := 23) (N := some 84) #[true, true, true, true, true, true, true, true, true, true, true, true, true, true, true, true, true, true, true, true, true, true, true, true, true, false, false, false, false, false, false, false, false, false, false, false, false, false, false, false, false, false, false, false, false, false, false, false, false, false, false, false, false, false, false, false, false, false] rfl rfl (by kernel_rfl) (by decide) (fun K hK => ?_)
        refine goes_ Try.func21 (by kernel_rfl) rfl #[.agg #[.slice A3 l3.length c3, .int .i64 e3]] (by rfl) rfl rfl (by simp only [List.map_toArray, List.map_cons, List.map_nil]; rfl) ?_
        with_reducible refine (end_calls (HSc.out.below HB.out)).mono ?_
        rintro x wv2 ⟨rfl, hb⟩
        refine ⟨_, rfl, ?_⟩
        have nK11_ := Aside0.mk (blk_below K11.out hb)
        have nK12_ := Aside0.mk (blk_below K12.out hb)
        have nK14_ := Aside0.mk (blk_below K14.out hb)
        have nK6_ := Aside0.mk (blk_below K6.out hb)
        have nK7_ := Aside0.mk (blk_below K7.out hb)
        clear K11 K12 K14 K6 K7
        have K11 := nK11_
        have K12 := nK12_
        have K14 := nK14_
        have K6 := nK6_
        have K7 := nK7_
        clear nK11_ nK12_ nK14_ nK6_ nK7_
        have nB_ := Aside0.mk (below_step HB.out hb)
        have nW_ := Aside0.mk (below_step HBw.out hb)
        clear HB HBw hb
        have HB := nB_
        have HBw := nW_
        clear nB_ nW_
        refine hK.out _ _ ⟨(blk_cell K11.out 0).trans rfl, (blk_cell K11.out 1).trans rfl, (blk_cell K12.out 0).trans rfl, (blk_cell K12.out 1).trans rfl, (blk_cell K14.out 0).trans rfl, (blk_cell K14.out 1).trans rfl, (blk_cell K6.out 0).trans rfl, (blk_cell K6.out 1).trans rfl, (blk_cell K7.out 0).trans rfl, (blk_cell K7.out 1).trans rfl⟩ (fun hHeld => ?_)
        clear hK K
        refine norm_ (a' := ?_) ?_ ?_
        rotate_left
        · show Act.put _ (some 84) _ = _
          simp only [Act.put, List.setIfInBounds_toArray, List.set_cons_zero, List.set_cons_succ, i64_w, i32_w]
          rfl
        refine one_ (i := 25) (N := some 86) #[true, true, true, true, true, true, true, true, true, true, true, true, true, true, true, true, true, true, true, true, true, true, true, true, true, true, false, false, false, false, false, false, false, false, false, false, false, false, false, false, false, false, false, false, false, false, false, false, false, false, false, false, false, false, false, false, false, false] rfl rfl (by kernel_rfl) (by decide) (fun K hK => ?_)
        refine goes_ Try.func22 (by kernel_rfl) rfl #[.agg #[.slice A4 l3.length c4, .int .i64 e3]] (by rfl) rfl rfl (by simp only [List.map_toArray, List.map_cons, List.map_nil]; rfl) ?_
        with_reducible refine (rend_calls (HSd.out.below HB.out)).mono ?_
        rintro x wv3 ⟨rfl, hb⟩
        refine ⟨_, rfl, ?_⟩
        have nK11_ := Aside0.mk (blk_below K11.out hb)
        have nK12_ := Aside0.mk (blk_below K12.out hb)
        have nK14_ := Aside0.mk (blk_below K14.out hb)
        have nK6_ := Aside0.mk (blk_below K6.out hb)
        have nK7_ := Aside0.mk (blk_below K7.out hb)
        clear K11 K12 K14 K6 K7
        have K11 := nK11_
        have K12 := nK12_
        have K14 := nK14_
        have K6 := nK6_
        have K7 := nK7_
        clear nK11_ nK12_ nK14_ nK6_ nK7_
        have nB_ := Aside0.mk (below_step HB.out hb)
        have nW_ := Aside0.mk (below_step HBw.out hb)
        clear HB HBw hb
        have HB := nB_
        have HBw := nW_
        clear nB_ nW_
        refine hK.out _ _ ⟨(blk_cell K11.out 0).trans rfl, (blk_cell K11.out 1).trans rfl, (blk_cell K12.out 0).trans rfl, (blk_cell K12.out 1).trans rfl, (blk_cell K14.out 0).trans rfl, (blk_cell K14.out 1).trans rfl, (blk_cell K6.out 0).trans rfl, (blk_cell K6.out 1).trans rfl, (blk_cell K7.out 0).trans rfl, (blk_cell K7.out 1).trans rfl⟩ (fun hHeld => ?_)
        clear hK K
        refine norm_ (a' := ?_) ?_ ?_
        rotate_left
        · show Act.put _ (some 86) _ = _
          simp only [Act.put, List.setIfInBounds_toArray, List.set_cons_zero, List.set_cons_succ, i64_w, i32_w]
          rfl
        refine pure_ (i := 26) (N := some 87) (v := ?_) (a' := ?_) #[true, true, true, true, true, true, true, true, true, true, true, true, true, true, true, true, true, true, true, true, true, true, true, true, true, true, true, false, false, false, false, false, false, false, false, false, false, false, false, false, false, false, false, false, false, false, false, false, false, false, false, false, false, false, false, false, false, false] rfl rfl (by kernel_rfl) (fun _ _ _ h => h) (Or.inl ⟨by rfl, ?_⟩) ?_ ?_
        rotate_left
        · intro w'
          go_simp
          with_reducible rfl
        rotate_left
        · simp only [Act.put, List.setIfInBounds_toArray, List.set_cons_zero, List.set_cons_succ, i64_w, i32_w]
          rfl
        refine pure_ (i := 27) (N := some 88) (v := ?_) (a' := ?_) #[true, true, true, true, true, true, true, true, true, true, true, true, true, true, true, true, true, true, true, true, true, true, true, true, true, true, true, true, false, false, false, false, false, false, false, false, false, false, false, false, false, false, false, false, false, false, false, false, false, false, false, false, false, false, false, false, false, false] rfl rfl (by kernel_rfl) (fun _ _ _ h => h) (Or.inl ⟨by rfl, ?_⟩) ?_ ?_
        rotate_left
        · intro w'
          go_simp
          with_reducible rfl
        rotate_left
        · simp only [Act.put, List.setIfInBounds_toArray, List.set_cons_zero, List.set_cons_succ, i64_w, i32_w]
          rfl
        refine pure_ (i := 28) (N := some 89) (v := ?_) (a' := ?_) #[true, true, true, true, true, true, true, true, true, true, true, true, true, true, true, true, true, true, true, true, true, true, true, true, true, true, true, true, true, false, false, false, false, false, false, false, false, false, false, false, false, false, false, false, false, false, false, false, false, false, false, false, false, false, false, false, false, false] rfl rfl (by kernel_rfl) (fun _ _ _ h => h) (Or.inl ⟨by rfl, ?_⟩) ?_ ?_
        rotate_left
        · intro w'
          go_simp
          with_reducible rfl
        rotate_left
        · simp only [Act.put, List.setIfInBounds_toArray, List.set_cons_zero, List.set_cons_succ, i64_w, i32_w]
          rfl
        refine pure_ (i := 31) (N := some 92) (v := ?_) (a' := ?_) #[true, true, true, true, true, true, true, true, true, true, true, true, true, true, true, true, true, true, true, true, true, true, true, true, true, true, true, true, true, false, false, true, false, false, false, false, false, false, false, false, false, false, false, false, false, false, false, false, false, false, false, false, false, false, false, false, false, false] rfl rfl (by kernel_rfl) (fun _ _ _ h => h) (Or.inl ⟨by rfl, ?_⟩) ?_ ?_
        rotate_left
        · intro w'
          go_simp
          with_reducible rfl
        rotate_left
        · simp only [Act.put, List.setIfInBounds_toArray, List.set_cons_zero, List.set_cons_succ, i64_w, i32_w]
          rfl
        refine take_ (i := 29) (N := some 90) (v := ?_) (a' := ?_) #[true, true, true, true, true, true, true, true, true, true, true, true, true, true, true, true, true, true, true, true, true, true, true, true, true, true, true, true, true, true, false, true, false, false, false, false, false, false, false, false, false, false, false, false, false, false, false, false, false, false, false, false, false, false, false, false, false, false] rfl rfl (by kernel_rfl) (fun _ _ _ h => h) (Or.inl ⟨by rfl, ?_⟩) hHeld ?_ ?_
        rotate_left
        · rintro w' ⟨s0, s1, s2, s3, s4, s5, s6, s7, s8, s9⟩
          go_simp
          with_reducible rfl
        rotate_left
        · simp only [Act.put, List.setIfInBounds_toArray, List.set_cons_zero, List.set_cons_succ, i64_w, i32_w]
          rfl
        refine take_ (i := 32) (N := some 93) (v := ?_) (a' := ?_) #[true, true, true, true, true, true, true, true, true, true, true, true, true, true, true, true, true, true, true, true, true, true, true, true, true, true, true, true, true, true, false, true, true, false, false, false, false, false, false, false, false, false, false, false, false, false, false, false, false, false, false, false, false, false, false, false, false, false] rfl rfl (by kernel_rfl) (fun _ _ _ h => h) (Or.inl ⟨by rfl, ?_⟩) hHeld ?_ ?_
        rotate_left
        · rintro w' ⟨s0, s1, s2, s3, s4, s5, s6, s7, s8, s9⟩
          go_simp
          with_reducible rfl
        rotate_left
        · simp only [Act.put, List.setIfInBounds_toArray, List.set_cons_zero, List.set_cons_succ, i64_w, i32_w]
          rfl
        refine one_ (i := 30) (N := some 91) #[true, true, true, true, true, true, true, true, true, true, true, true, true, true, true, true, true, true, true, true, true, true, true, true, true, true, true, true, true, true, true, true, true, false, false, false, false, false, false, false, false, false, false, false, false, false, false, false, false, false, false, false, false, false, false, false, false, false] rfl rfl (by kernel_rfl) (by decide) (fun K hK => ?_)
        refine goes_ Try.func18 (by kernel_rfl) rfl #[.agg #[.slice A5 l3.length c5, .int .i64 e3]] (by rfl) rfl rfl (by simp only [List.map_toArray, List.map_cons, List.map_nil]; rfl) ?_
        with_reducible refine (err_calls (HSe.out.below HB.out)).mono ?_
        rintro x wv4 ⟨rfl, hb⟩
        refine ⟨_, rfl, ?_⟩
        have nK11_ := Aside0.mk (blk_below K11.out hb)
        have nK12_ := Aside0.mk (blk_below K12.out hb)
        have nK14_ := Aside0.mk (blk_below K14.out hb)
        have nK6_ := Aside0.mk (blk_below K6.out hb)
        have nK7_ := Aside0.mk (blk_below K7.out hb)
        clear K11 K12 K14 K6 K7
        have K11 := nK11_
        have K12 := nK12_
        have K14 := nK14_
        have K6 := nK6_
        have K7 := nK7_
        clear nK11_ nK12_ nK14_ nK6_ nK7_
        have nB_ := Aside0.mk (below_step HB.out hb)
        have nW_ := Aside0.mk (below_step HBw.out hb)
        clear HB HBw hb
        have HB := nB_
        have HBw := nW_
        clear nB_ nW_
        refine hK.out _ _ ⟨(blk_cell K11.out 0).trans rfl, (blk_cell K11.out 1).trans rfl, (blk_cell K12.out 0).trans rfl, (blk_cell K12.out 1).trans rfl, (blk_cell K14.out 0).trans rfl, (blk_cell K14.out 1).trans rfl, (blk_cell K6.out 0).trans rfl, (blk_cell K6.out 1).trans rfl, (blk_cell K7.out 0).trans rfl, (blk_cell K7.out 1).trans rfl⟩ (fun hHeld => ?_)
        clear hK K
        refine norm_ (a' := ?_) ?_ ?_
        rotate_left
        · show Act.put _ (some 91) _ = _
          simp only [Act.put, List.setIfInBounds_toArray, List.set_cons_zero, List.set_cons_succ, i64_w, i32_w]
          rfl
        refine pure_ (i := 33) (N := some 94) (v := ?_) (a' := ?_) #[true, true, true, true, true, true, true, true, true, true, true, true, true, true, true, true, true, true, true, true, true, true, true, true, true, true, true, true, true, true, true, true, true, true, false, false, false, false, false, false, false, false, false, false, false, false, false, false, false, false, false, false, false, false, false, false, false, false] rfl rfl (by kernel_rfl) (fun _ _ _ h => h) (Or.inl ⟨by rfl, ?_⟩) ?_ ?_
        rotate_left
        · intro w'
          go_simp
          with_reducible rfl
        rotate_left
        · simp only [Act.put, List.setIfInBounds_toArray, List.set_cons_zero, List.set_cons_succ, i64_w, i32_w]
          rfl
        refine pure_ (i := 34) (N := some 95) (v := ?_) (a' := ?_) #[true, true, true, true, true, true, true, true, true, true, true, true, true, true, true, true, true, true, true, true, true, true, true, true, true, true, true, true, true, true, true, true, true, true, true, false, false, false, false, false, false, false, false, false, false, false, false, false, false, false, false, false, false, false, false, false, false, false] rfl rfl (by kernel_rfl) (fun _ _ _ h => h) (Or.inl ⟨by rfl, ?_⟩) ?_ ?_
        rotate_left
        · intro w'
          go_simp
          with_reducible rfl
        rotate_left
        · simp only [Act.put, List.setIfInBounds_toArray, List.set_cons_zero, List.set_cons_succ, i64_w, i32_w]
          rfl
        refine pure_ (i := 35) (N := some 96) (v := ?_) (a' := ?_) #[true, true, true, true, true, true, true, true, true, true, true, true, true, true, true, true, true, true, true, true, true, true, true, true, true, true, true, true, true, true, true, true, true, true, true, true, false, false, false, false, false, false, false, false, false, false, false, false, false, false, false, false, false, false, false, false, false, false] rfl rfl (by kernel_rfl) (fun _ _ _ h => h) (Or.inl ⟨by rfl, ?_⟩) ?_ ?_
        rotate_left
        · intro w'
          go_simp
          with_reducible rfl
        rotate_left
        · simp only [Act.put, List.setIfInBounds_toArray, List.set_cons_zero, List.set_cons_succ, i64_w, i32_w]
          rfl
        refine pure_ (i := 38) (N := some 99) (v := ?_) (a' := ?_) #[true, true, true, true, true, true, true, true, true, true, true, true, true, true, true, true, true, true, true, true, true, true, true, true, true, true, true, true, true, true, true, true, true, true, true, true, false, false, true, false, false, false, false, false, false, false, false, false, false, false, false, false, false, false, false, false, false, false] rfl rfl (by kernel_rfl) (fun _ _ _ h => h) (Or.inl ⟨by rfl, ?_⟩) ?_ ?_
        rotate_left
        · intro w'
          go_simp
          with_reducible rfl
        rotate_left
        · simp only [Act.put, List.setIfInBounds_toArray, List.set_cons_zero, List.set_cons_succ, i64_w, i32_w]
          rfl
        refine take_ (i := 36) (N := some 97) (v := ?_) (a' := ?_) #[true, true, true, true, true, true, true, true, true, true, true, true, true, true, true, true, true, true, true, true, true, true, true, true, true, true, true, true, true, true, true, true, true, true, true, true, true, false, true, false, false, false, false, false, false, false, false, false, false, false, false, false, false, false, false, false, false, false] rfl rfl (by kernel_rfl) (fun _ _ _ h => h) (Or.inl ⟨by rfl, ?_⟩) hHeld ?_ ?_
        rotate_left
        · rintro w' ⟨s0, s1, s2, s3, s4, s5, s6, s7, s8, s9⟩
          go_simp
          with_reducible rfl
        rotate_left
        · simp only [Act.put, List.setIfInBounds_toArray, List.set_cons_zero, List.set_cons_succ, i64_w, i32_w]
          rfl
        refine take_ (i := 39) (N := some 100) (v := ?_) (a' := ?_) #[true, true, true, true, true, true, true, true, true, true, true, true, true, true, true, true, true, true, true, true, true, true, true, true, true, true, true, true, true, true, true, true, true, true, true, true, true, false, true, true, false, false, false, false, false, false, false, false, false, false, false, false, false, false, false, false, false, false] rfl rfl (by kernel_rfl) (fun _ _ _ h => h) (Or.inl ⟨by rfl, ?_⟩) hHeld ?_ ?_
        rotate_left
        · rintro w' ⟨s0, s1, s2, s3, s4, s5, s6, s7, s8, s9⟩
          go_simp
          with_reducible rfl
        rotate_left
        · simp only [Act.put, List.setIfInBounds_toArray, List.set_cons_zero, List.set_cons_succ, i64_w, i32_w]
          rfl
        refine pure_ (i := 40) (N := some 101) (v := ?_) (a' := ?_) #[true, true, true, true, true, true, true, true, true, true, true, true, true, true, true, true, true, true, true, true, true, true, true, true, true, true, true, true, true, true, true, true, true, true, true, true, true, false, true, true, true, false, false, false, false, false, false, false, false, false, false, false, false, false, false, false, false, false] rfl rfl (by kernel_rfl) (fun _ _ _ h => h) (Or.inl ⟨by rfl, ?_⟩) ?_ ?_
        rotate_left
        · intro w'
          go_simp
          with_reducible rfl
        rotate_left
        · simp only [Act.put, List.setIfInBounds_toArray, List.set_cons_zero, List.set_cons_succ, i64_w, i32_w]
          rfl
        refine one_ (i := 37) (N := some 98) #[true, true, true, true, true, true, true, true, true, true, true, true, true, true, true, true, true, true, true, true, true, true, true, true, true, true, true, true, true, true, true, true, true, true, true, true, true, true, true, true, true, false, false, false, false, false, false, false, false, false, false, false, false, false, false, false, false, false] rfl rfl (by kernel_rfl) (by decide) (fun K hK => ?_)
        refine goes_ Try.func19 (by kernel_rfl) rfl #[.agg #[.slice A5 l3.length c5, .int .i64 e3]] (by rfl) rfl rfl (by simp only [List.map_toArray, List.map_cons, List.map_nil]; rfl) ?_
        with_reducible refine (left_calls (HSe.out.below HB.out)).mono ?_
        rintro x wv5 ⟨rfl, hb⟩
        refine ⟨_, rfl, ?_⟩
        have nK11_ := Aside0.mk (blk_below K11.out hb)
        have nK12_ := Aside0.mk (blk_below K12.out hb)
        have nK14_ := Aside0.mk (blk_below K14.out hb)
        have nK6_ := Aside0.mk (blk_below K6.out hb)
        have nK7_ := Aside0.mk (blk_below K7.out hb)
        clear K11 K12 K14 K6 K7
        have K11 := nK11_
        have K12 := nK12_
        have K14 := nK14_
        have K6 := nK6_
        have K7 := nK7_
        clear nK11_ nK12_ nK14_ nK6_ nK7_
        have nB_ := Aside0.mk (below_step HB.out hb)
        have nW_ := Aside0.mk (below_step HBw.out hb)
        clear HB HBw hb
        have HB := nB_
        have HBw := nW_
        clear nB_ nW_
        refine hK.out _ _ ⟨(blk_cell K11.out 0).trans rfl, (blk_cell K11.out 1).trans rfl, (blk_cell K12.out 0).trans rfl, (blk_cell K12.out 1).trans rfl, (blk_cell K14.out 0).trans rfl, (blk_cell K14.out 1).trans rfl, (blk_cell K6.out 0).trans rfl, (blk_cell K6.out 1).trans rfl, (blk_cell K7.out 0).trans rfl, (blk_cell K7.out 1).trans rfl⟩ (fun hHeld => ?_)
        clear hK K
        refine norm_ (a' := ?_) ?_ ?_
        rotate_left
        · show Act.put _ (some 98) _ = _
          simp only [Act.put, List.setIfInBounds_toArray, List.set_cons_zero, List.set_cons_succ, i64_w, i32_w]
          rfl
        refine pure_ (i := 41) (N := some 102) (v := ?_) (a' := ?_) #[true, true, true, true, true, true, true, true, true, true, true, true, true, true, true, true, true, true, true, true, true, true, true, true, true, true, true, true, true, true, true, true, true, true, true, true, true, true, true, true, true, true, false, false, false, false, false, false, false, false, false, false, false, false, false, false, false, false] rfl rfl (by kernel_rfl) (fun _ _ _ h => h) (Or.inl ⟨by rfl, ?_⟩) ?_ ?_
        rotate_left
        · intro w'
          go_simp
          with_reducible rfl
        rotate_left
        · simp only [Act.put, List.setIfInBounds_toArray, List.set_cons_zero, List.set_cons_succ, i64_w, i32_w]
          rfl
        refine pure_ (i := 42) (N := some 103) (v := ?_) (a' := ?_) #[true, true, true, true, true, true, true, true, true, true, true, true, true, true, true, true, true, true, true, true, true, true, true, true, true, true, true, true, true, true, true, true, true, true, true, true, true, true, true, true, true, true, true, false, false, false, false, false, false, false, false, false, false, false, false, false, false, false] rfl rfl (by kernel_rfl) (fun _ _ _ h => h) (Or.inl ⟨by rfl, ?_⟩) ?_ ?_
        rotate_left
        · intro w'
          go_simp
          with_reducible rfl
        rotate_left
        · simp only [Act.put, List.setIfInBounds_toArray, List.set_cons_zero, List.set_cons_succ, i64_w, i32_w]
          rfl
        refine pure_ (i := 43) (N := some 104) (v := ?_) (a' := ?_) #[true, true, true, true, true, true, true, true, true, true, true, true, true, true, true, true, true, true, true, true, true, true, true, true, true, true, true, true, true, true, true, true, true, true, true, true, true, true, true, true, true, true, true, true, false, false, false, false, false, false, false, false, false, false, false, false, false, false] rfl rfl (by kernel_rfl) (fun _ _ _ h => h) (Or.inl ⟨by rfl, ?_⟩) ?_ ?_
        rotate_left
        · intro w'
          go_simp
          with_reducible rfl
        rotate_left
        · simp only [Act.put, List.setIfInBounds_toArray, List.set_cons_zero, List.set_cons_succ, i64_w, i32_w]
          rfl
        refine pure_ (i := 46) (N := some 107) (v := ?_) (a' := ?_) #[true, true, true, true, true, true, true, true, true, true, true, true, true, true, true, true, true, true, true, true, true, true, true, true, true, true, true, true, true, true, true, true, true, true, true, true, true, true, true, true, true, true, true, true, false, false, true, false, false, false, false, false, false, false, false, false, false, false] rfl rfl (by kernel_rfl) (fun _ _ _ h => h) (Or.inl ⟨by rfl, ?_⟩) ?_ ?_
        rotate_left
        · intro w'
          go_simp
          with_reducible rfl
        rotate_left
        · simp only [Act.put, List.setIfInBounds_toArray, List.set_cons_zero, List.set_cons_succ, i64_w, i32_w]
          rfl
        refine take_ (i := 44) (N := some 105) (v := ?_) (a' := ?_) #[true, true, true, true, true, true, true, true, true, true, true, true, true, true, true, true, true, true, true, true, true, true, true, true, true, true, true, true, true, true, true, true, true, true, true, true, true, true, true, true, true, true, true, true, true, false, true, false, false, false, false, false, false, false, false, false, false, false] rfl rfl (by kernel_rfl) (fun _ _ _ h => h) (Or.inl ⟨by rfl, ?_⟩) hHeld ?_ ?_
        rotate_left
        · rintro w' ⟨s0, s1, s2, s3, s4, s5, s6, s7, s8, s9⟩
          go_simp
          with_reducible rfl
        rotate_left
        · simp only [Act.put, List.setIfInBounds_toArray, List.set_cons_zero, List.set_cons_succ, i64_w, i32_w]
          rfl
        refine take_ (i := 47) (N := some 108) (v := ?_) (a' := ?_) #[true, true, true, true, true, true, true, true, true, true, true, true, true, true, true, true, true, true, true, true, true, true, true, true, true, true, true, true, true, true, true, true, true, true, true, true, true, true, true, true, true, true, true, true, true, false, true, true, false, false, false, false, false, false, false, false, false, false] rfl rfl (by kernel_rfl) (fun _ _ _ h => h) (Or.inl ⟨by rfl, ?_⟩) hHeld ?_ ?_
        rotate_left
        · rintro w' ⟨s0, s1, s2, s3, s4, s5, s6, s7, s8, s9⟩
          go_simp
          with_reducible rfl
        rotate_left
        · simp only [Act.put, List.setIfInBounds_toArray, List.set_cons_zero, List.set_cons_succ, i64_w, i32_w]
          rfl
        refine pure_ (i := 48) (N := some 109) (v := ?_) (a' := ?_) #[true, true, true, true, true, true, true, true, true, true, true, true, true, true, true, true, true, true, true, true, true, true, true, true, true, true, true, true, true, true, true, true, true, true, true, true, true, true, true, true, true, true, true, true, true, false, true, true, true, false, false, false, false, false, false, false, false, false] rfl rfl (by kernel_rfl) (fun _ _ _ h => h) (Or.inl ⟨by rfl, ?_⟩) ?_ ?_
        rotate_left
        · intro w'
          go_simp
          with_reducible rfl
        rotate_left
        · simp only [Act.put, List.setIfInBounds_toArray, List.set_cons_zero, List.set_cons_succ, i64_w, i32_w]
          rfl
        refine one_ (i := 45) (N := some 106) #[true, true, true, true, true, true, true, true, true, true, true, true, true, true, true, true, true, true, true, true, true, true, true, true, true, true, true, true, true, true, true, true, true, true, true, true, true, true, true, true, true, true, true, true, true, true, true, true, true, false, false, false, false, false, false, false, false, false] rfl rfl (by kernel_rfl) (by decide) (fun K hK => ?_)
        refine goes_ Try.func19 (by kernel_rfl) rfl #[.agg #[.slice A1_ lr.length c1_, .int .i64 er]] (by rfl) rfl rfl (by simp only [List.map_toArray, List.map_cons, List.map_nil]; rfl) ?_
        with_reducible refine (left_calls (HSa.out.below HB.out)).mono ?_
        rintro x wv6 ⟨rfl, hb⟩
        refine ⟨_, rfl, ?_⟩
        have nK11_ := Aside0.mk (blk_below K11.out hb)
        have nK12_ := Aside0.mk (blk_below K12.out hb)
        have nK14_ := Aside0.mk (blk_below K14.out hb)
        have nK6_ := Aside0.mk (blk_below K6.out hb)
        have nK7_ := Aside0.mk (blk_below K7.out hb)
        clear K11 K12 K14 K6 K7
        have K11 := nK11_
        have K12 := nK12_
        have K14 := nK14_
        have K6 := nK6_
        have K7 := nK7_
        clear nK11_ nK12_ nK14_ nK6_ nK7_
        have nB_ := Aside0.mk (below_step HB.out hb)
        have nW_ := Aside0.mk (below_step HBw.out hb)
        clear HB HBw hb
        have HB := nB_
        have HBw := nW_
        clear nB_ nW_
        refine hK.out _ _ ⟨(blk_cell K11.out 0).trans rfl, (blk_cell K11.out 1).trans rfl, (blk_cell K12.out 0).trans rfl, (blk_cell K12.out 1).trans rfl, (blk_cell K14.out 0).trans rfl, (blk_cell K14.out 1).trans rfl, (blk_cell K6.out 0).trans rfl, (blk_cell K6.out 1).trans rfl, (blk_cell K7.out 0).trans rfl, (blk_cell K7.out 1).trans rfl⟩ (fun hHeld => ?_)
        clear hK K
        refine norm_ (a' := ?_) ?_ ?_
        rotate_left
        · show Act.put _ (some 106) _ = _
          simp only [Act.put, List.setIfInBounds_toArray, List.set_cons_zero, List.set_cons_succ, i64_w, i32_w]
          rfl
        refine pure_ (i := 49) (N := some 110) (v := ?_) (a' := ?_) #[true, true, true, true, true, true, true, true, true, true, true, true, true, true, true, true, true, true, true, true, true, true, true, true, true, true, true, true, true, true, true, true, true, true, true, true, true, true, true, true, true, true, true, true, true, true, true, true, true, true, false, false, false, false, false, false, false, false] rfl rfl (by kernel_rfl) (fun _ _ _ h => h) (Or.inl ⟨by rfl, ?_⟩) ?_ ?_
        rotate_left
        · intro w'
          go_simp
          with_reducible rfl
        rotate_left
        · simp only [Act.put, List.setIfInBounds_toArray, List.set_cons_zero, List.set_cons_succ, i64_w, i32_w]
          rfl
        refine pure_ (i := 50) (N := some 111) (v := ?_) (a' := ?_) #[true, true, true, true, true, true, true, true, true, true, true, true, true, true, true, true, true, true, true, true, true, true, true, true, true, true, true, true, true, true, true, true, true, true, true, true, true, true, true, true, true, true, true, true, true, true, true, true, true, true, true, false, false, false, false, false, false, false] rfl rfl (by kernel_rfl) (fun _ _ _ h => h) (Or.inl ⟨by rfl, ?_⟩) ?_ ?_
        rotate_left
        · intro w'
          go_simp
          with_reducible rfl
        rotate_left
        · simp only [Act.put, List.setIfInBounds_toArray, List.set_cons_zero, List.set_cons_succ, i64_w, i32_w]
          rfl
        refine pure_ (i := 51) (N := some 112) (v := ?_) (a' := ?_) #[true, true, true, true, true, true, true, true, true, true, true, true, true, true, true, true, true, true, true, true, true, true, true, true, true, true, true, true, true, true, true, true, true, true, true, true, true, true, true, true, true, true, true, true, true, true, true, true, true, true, true, true, false, false, false, false, false, false] rfl rfl (by kernel_rfl) (fun _ _ _ h => h) (Or.inl ⟨by rfl, ?_⟩) ?_ ?_
        rotate_left
        · intro w'
          go_simp
          with_reducible rfl
        rotate_left
        · simp only [Act.put, List.setIfInBounds_toArray, List.set_cons_zero, List.set_cons_succ, i64_w, i32_w]
          rfl
        refine pure_ (i := 54) (N := some 115) (v := ?_) (a' := ?_) #[true, true, true, true, true, true, true, true, true, true, true, true, true, true, true, true, true, true, true, true, true, true, true, true, true, true, true, true, true, true, true, true, true, true, true, true, true, true, true, true, true, true, true, true, true, true, true, true, true, true, true, true, false, false, true, false, false, false] rfl rfl (by kernel_rfl) (fun _ _ _ h => h) (Or.inl ⟨by rfl, ?_⟩) ?_ ?_
        rotate_left
        · intro w'
          go_simp
          with_reducible rfl
        rotate_left
        · simp only [Act.put, List.setIfInBounds_toArray, List.set_cons_zero, List.set_cons_succ, i64_w, i32_w]
          rfl
        refine take_ (i := 52) (N := some 113) (v := ?_) (a' := ?_) #[true, true, true, true, true, true, true, true, true, true, true, true, true, true, true, true, true, true, true, true, true, true, true, true, true, true, true, true, true, true, true, true, true, true, true, true, true, true, true, true, true, true, true, true, true, true, true, true, true, true, true, true, true, false, true, false, false, false] rfl rfl (by kernel_rfl) (fun _ _ _ h => h) (Or.inl ⟨by rfl, ?_⟩) hHeld ?_ ?_
        rotate_left
        · rintro w' ⟨s0, s1, s2, s3, s4, s5, s6, s7, s8, s9⟩
          go_simp
          with_reducible rfl
        rotate_left
        · simp only [Act.put, List.setIfInBounds_toArray, List.set_cons_zero, List.set_cons_succ, i64_w, i32_w]
          rfl
        refine take_ (i := 55) (N := some 116) (v := ?_) (a' := ?_) #[true, true, true, true, true, true, true, true, true, true, true, true, true, true, true, true, true, true, true, true, true, true, true, true, true, true, true, true, true, true, true, true, true, true, true, true, true, true, true, true, true, true, true, true, true, true, true, true, true, true, true, true, true, false, true, true, false, false] rfl rfl (by kernel_rfl) (fun _ _ _ h => h) (Or.inl ⟨by rfl, ?_⟩) hHeld ?_ ?_
        rotate_left
        · rintro w' ⟨s0, s1, s2, s3, s4, s5, s6, s7, s8, s9⟩
          go_simp
          with_reducible rfl
        rotate_left
        · simp only [Act.put, List.setIfInBounds_toArray, List.set_cons_zero, List.set_cons_succ, i64_w, i32_w]
          rfl
        refine one_ (i := 53) (N := some 114) #[true, true, true, true, true, true, true, true, true, true, true, true, true, true, true, true, true, true, true, true, true, true, true, true, true, true, true, true, true, true, true, true, true, true, true, true, true, true, true, true, true, true, true, true, true, true, true, true, true, true, true, true, true, true, true, true, false, false] rfl rfl (by kernel_rfl) (by decide) (fun K hK => ?_)
        refine goes_ Try.func18 (by kernel_rfl) rfl #[.agg #[.slice A1_ lr.length c1_, .int .i64 er]] (by rfl) rfl rfl (by simp only [List.map_toArray, List.map_cons, List.map_nil]; rfl) ?_
        with_reducible refine (err_calls (HSa.out.below HB.out)).mono ?_
        rintro x wv7 ⟨rfl, hb⟩
        refine ⟨_, rfl, ?_⟩
        have nK11_ := Aside0.mk (blk_below K11.out hb)
        have nK12_ := Aside0.mk (blk_below K12.out hb)
        have nK14_ := Aside0.mk (blk_below K14.out hb)
        have nK6_ := Aside0.mk (blk_below K6.out hb)
        have nK7_ := Aside0.mk (blk_below K7.out hb)
        clear K11 K12 K14 K6 K7
        have K11 := nK11_
        have K12 := nK12_
        have K14 := nK14_
        have K6 := nK6_
        have K7 := nK7_
        clear nK11_ nK12_ nK14_ nK6_ nK7_
        have nB_ := Aside0.mk (below_step HB.out hb)
        have nW_ := Aside0.mk (below_step HBw.out hb)
        clear HB HBw hb
        have HB := nB_
        have HBw := nW_
        clear nB_ nW_
        refine hK.out _ _ ⟨(blk_cell K11.out 0).trans rfl, (blk_cell K11.out 1).trans rfl, (blk_cell K12.out 0).trans rfl, (blk_cell K12.out 1).trans rfl, (blk_cell K14.out 0).trans rfl, (blk_cell K14.out 1).trans rfl, (blk_cell K6.out 0).trans rfl, (blk_cell K6.out 1).trans rfl, (blk_cell K7.out 0).trans rfl, (blk_cell K7.out 1).trans rfl⟩ (fun hHeld => ?_)
        clear hK K
        refine norm_ (a' := ?_) ?_ ?_
        rotate_left
        · show Act.put _ (some 114) _ = _
          simp only [Act.put, List.setIfInBounds_toArray, List.set_cons_zero, List.set_cons_succ, i64_w, i32_w]
          rfl
        refine pure_ (i := 56) (N := some 117) (v := ?_) (a' := ?_) #[true, true, true, true, true, true, true, true, true, true, true, true, true, true, true, true, true, true, true, true, true, true, true, true, true, true, true, true, true, true, true, true, true, true, true, true, true, true, true, true, true, true, true, true, true, true, true, true, true, true, true, true, true, true, true, true, true, false] rfl rfl (by kernel_rfl) (fun _ _ _ h => h) (Or.inl ⟨by rfl, ?_⟩) ?_ ?_
        rotate_left
        · intro w'
          go_simp
          with_reducible rfl
        rotate_left
        · simp only [Act.put, List.setIfInBounds_toArray, List.set_cons_zero, List.set_cons_succ, i64_w, i32_w]
          rfl
        refine pure_ (i := 57) (N := some 118) (v := ?_) (a' := ?_) #[true, true, true, true, true, true, true, true, true, true, true, true, true, true, true, true, true, true, true, true, true, true, true, true, true, true, true, true, true, true, true, true, true, true, true, true, true, true, true, true, true, true, true, true, true, true, true, true, true, true, true, true, true, true, true, true, true, true] rfl rfl (by kernel_rfl) (fun _ _ _ h => h) (Or.inl ⟨by rfl, ?_⟩) ?_ ?_
        rotate_left
        · intro w'
          go_simp
          with_reducible rfl
        rotate_left
        · simp only [Act.put, List.setIfInBounds_toArray, List.set_cons_zero, List.set_cons_succ, i64_w, i32_w]
          rfl
        refine done_ (by kernel_rfl) ?_
        go_wp2
        refine start_ (n := 4) (S := fun w' => w'.cell? ⟨w3.heap.size, 0, none⟩ = some (.slice A3 l3.length c3) ∧ w'.cell? ⟨w3.heap.size, 1, none⟩ = some (.int .i64 e3) ∧ w'.cell? ⟨w3.heap.size + 1, 0, none⟩ = some (.slice A4 l3.length c4) ∧ w'.cell? ⟨w3.heap.size + 1, 1, none⟩ = some (.int .i64 e3)) (ds := []) #[false, false, false, false] (by kernel_rfl) rfl rfl ⟨(blk_cell (w := wv7.drew) K11.out 0).trans rfl, (blk_cell (w := wv7.drew) K11.out 1).trans rfl, (blk_cell (w := wv7.drew) K12.out 0).trans rfl, (blk_cell (w := wv7.drew) K12.out 1).trans rfl⟩ (fun hHeld => ?_)
        refine take_ (i := 0) (N := some 119) (v := ?_) (a' := ?_) #[true, false, false, false] rfl rfl (by kernel_rfl) (fun _ _ _ h => h) (Or.inl ⟨by rfl, ?_⟩) hHeld ?_ ?_
        rotate_left
        · rintro w' ⟨s0, s1, s2, s3⟩
          go_simp
          with_reducible rfl
        rotate_left
        · simp only [Act.put, List.setIfInBounds_toArray, List.set_cons_zero, List.set_cons_succ, i64_w, i32_w]
          rfl
        refine take_ (i := 1) (N := some 120) (v := ?_) (a' := ?_) #[true, true, false, false] rfl rfl (by kernel_rfl) (fun _ _ _ h => h) (Or.inl ⟨by rfl, ?_⟩) hHeld ?_ ?_
        rotate_left
        · rintro w' ⟨s0, s1, s2, s3⟩
          go_simp
          with_reducible rfl
        rotate_left
        · simp only [Act.put, List.setIfInBounds_toArray, List.set_cons_zero, List.set_cons_succ, i64_w, i32_w]
          rfl
        refine one_ (i := 2) (N := none) #[true, true, true, false] rfl rfl (by kernel_rfl) (by decide) (fun K hK => ?_)
        have r0 := (blk_cell K6.out 0).trans rfl
        have r1 := (blk_cell K6.out 1).trans rfl
        have r2 := blk_frozen K6.out 0
        have r3 := blk_frozen K6.out 1
        refine skip_ (w1 := ((wv7.drew.setCell ⟨w2.heap.size, 0, none⟩ (.slice A3 l3.length c3)).setCell ⟨w2.heap.size, 1, none⟩ (.int .i64 e3))) (by rfl) rfl ?_ ?_
        · go_simp
          try rfl
        have nA_ := Aside0.mk (show ((wv7.drew.setCell ⟨w2.heap.size, 0, none⟩ (.slice A3 l3.length c3)).setCell ⟨w2.heap.size, 1, none⟩ (.int .i64 e3)).heap[w2.heap.size]? = some (.cells #[.slice A3 l3.length c3, .int .i64 e3] 30 (0, 0)) from blk_put (blk_put (w := wv7.drew) K6.out 0 _ rfl) 1 _ rfl)
        have nK7_ := Aside0.mk (blk_far (blk_far (w := wv7.drew) K7.out (p := ⟨w2.heap.size, 0, none⟩) (by show _ ≠ w2.heap.size; omega) (.slice A3 l3.length c3)) (p := ⟨w2.heap.size, 1, none⟩) (by show _ ≠ w2.heap.size; omega) (.int .i64 e3))
        have nK11_ := Aside0.mk (blk_far (blk_far (w := wv7.drew) K11.out (p := ⟨w2.heap.size, 0, none⟩) (by show _ ≠ w2.heap.size; omega) (.slice A3 l3.length c3)) (p := ⟨w2.heap.size, 1, none⟩) (by show _ ≠ w2.heap.size; omega) (.int .i64 e3))
        have nK12_ := Aside0.mk (blk_far (blk_far (w := wv7.drew) K12.out (p := ⟨w2.heap.size, 0, none⟩) (by show _ ≠ w2.heap.size; omega) (.slice A3 l3.length c3)) (p := ⟨w2.heap.size, 1, none⟩) (by show _ ≠ w2.heap.size; omega) (.int .i64 e3))
        have nB_ := Aside0.mk (below_set (j := 1) (v := .int .i64 e3) (below_set (j := 0) (v := (.slice A3 l3.length c3)) (below_drew1 HB.out) (show wc.heap.size ≤ w2.heap.size by omega)) (show wc.heap.size ≤ w2.heap.size by omega))
        have nW_ := Aside0.mk (below_set (j := 1) (v := .int .i64 e3) (below_set (j := 0) (v := (.slice A3 l3.length c3)) (below_drew1 HBw.out) (show w.heap.size ≤ w2.heap.size by omega)) (show w.heap.size ≤ w2.heap.size by omega))
        clear HB HBw K6 K7 K11 K12 r0 r1 r2 r3
        have K6 := nA_
        have K7 := nK7_
        have K11 := nK11_
        have K12 := nK12_
        have HB := nB_
        have HBw := nW_
        clear nA_ nK7_ nK11_ nK12_ nB_ nW_
        generalize ((wv7.drew.setCell ⟨w2.heap.size, 0, none⟩ (.slice A3 l3.length c3)).setCell ⟨w2.heap.size, 1, none⟩ (.int .i64 e3)) = wr_ at *
        refine hK.out _ _ ⟨(blk_cell K11.out 0).trans rfl, (blk_cell K11.out 1).trans rfl, (blk_cell K12.out 0).trans rfl, (blk_cell K12.out 1).trans rfl⟩ (fun hHeld => ?_)
        clear hK K
        refine one_ (i := 3) (N := none) #[true, true, true, true] rfl rfl (by kernel_rfl) (by decide) (fun K hK => ?_)
        have r0 := (blk_cell K7.out 0).trans rfl
        have r1 := (blk_cell K7.out 1).trans rfl
        have r2 := blk_frozen K7.out 0
        have r3 := blk_frozen K7.out 1
        refine skip_ (w1 := ((wr_.setCell ⟨w2.heap.size + 1, 0, none⟩ (.slice A4 l3.length c4)).setCell ⟨w2.heap.size + 1, 1, none⟩ (.int .i64 e3))) (by rfl) rfl ?_ ?_
        · go_simp
          try rfl
        have nA_ := Aside0.mk (show ((wr_.setCell ⟨w2.heap.size + 1, 0, none⟩ (.slice A4 l3.length c4)).setCell ⟨w2.heap.size + 1, 1, none⟩ (.int .i64 e3)).heap[w2.heap.size + 1]? = some (.cells #[.slice A4 l3.length c4, .int .i64 e3] 44 (0, 0)) from blk_put (blk_put (w := wr_) K7.out 0 _ rfl) 1 _ rfl)
        have nK6_ := Aside0.mk (blk_far (blk_far (w := wr_) K6.out (p := ⟨w2.heap.size + 1, 0, none⟩) (by show _ ≠ w2.heap.size + 1; omega) (.slice A4 l3.length c4)) (p := ⟨w2.heap.size + 1, 1, none⟩) (by show _ ≠ w2.heap.size + 1; omega) (.int .i64 e3))
        have nK11_ := Aside0.mk (blk_far (blk_far (w := wr_) K11.out (p := ⟨w2.heap.size + 1, 0, none⟩) (by show _ ≠ w2.heap.size + 1; omega) (.slice A4 l3.length c4)) (p := ⟨w2.heap.size + 1, 1, none⟩) (by show _ ≠ w2.heap.size + 1; omega) (.int .i64 e3))
        have nK12_ := Aside0.mk (blk_far (blk_far (w := wr_) K12.out (p := ⟨w2.heap.size + 1, 0, none⟩) (by show _ ≠ w2.heap.size + 1; omega) (.slice A4 l3.length c4)) (p := ⟨w2.heap.size + 1, 1, none⟩) (by show _ ≠ w2.heap.size + 1; omega) (.int .i64 e3))
        have nB_ := Aside0.mk (below_set (j := 1) (v := .int .i64 e3) (below_set (j := 0) (v := (.slice A4 l3.length c4)) HB.out (show wc.heap.size ≤ w2.heap.size + 1 by omega)) (show wc.heap.size ≤ w2.heap.size + 1 by omega))
        have nW_ := Aside0.mk (below_set (j := 1) (v := .int .i64 e3) (below_set (j := 0) (v := (.slice A4 l3.length c4)) HBw.out (show w.heap.size ≤ w2.heap.size + 1 by omega)) (show w.heap.size ≤ w2.heap.size + 1 by omega))
        clear HB HBw K6 K7 K11 K12 r0 r1 r2 r3
        have K7 := nA_
        have K6 := nK6_
        have K11 := nK11_
        have K12 := nK12_
        have HB := nB_
        have HBw := nW_
        clear nA_ nK6_ nK11_ nK12_ nB_ nW_
        generalize ((wr_.setCell ⟨w2.heap.size + 1, 0, none⟩ (.slice A4 l3.length c4)).setCell ⟨w2.heap.size + 1, 1, none⟩ (.int .i64 e3)) = ws_ at *
        refine hK.out _ _ ⟨(blk_cell K11.out 0).trans rfl, (blk_cell K11.out 1).trans rfl, (blk_cell K12.out 0).trans rfl, (blk_cell K12.out 1).trans rfl⟩ (fun hHeld => ?_)
        clear hK K
        refine done_ (by kernel_rfl) ?_
        go_wp2
        go_roundw
        case rel => exact ⟨i + 1, l3, e3, A3, c3, A4, c4, by omega, by go_num, hl3l, K6, K7, HSc, HSd, HB, HBw⟩
        case measure => simp [intOf]; omega
      · obtain rfl : i = qs.length := by omega
        have hltb : decide ((qs.length : Int) < (qs.length : Int)) = false := decide_eq_false (by omega)
        go_wp2_with (first | (go_at_call 14; refine (awake_calls _).mono ?_; rintro e_ w9 ⟨rfl, hb⟩; have HB9 := Aside0.mk (below_step HBw.out hb); clear hb))
        go_ret
        exact ⟨rfl, HB9.out⟩
end Go.Proofs.Yteonbbfegnjjeaa.Law
