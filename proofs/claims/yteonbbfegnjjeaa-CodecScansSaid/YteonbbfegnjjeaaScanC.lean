/- The walks of the document's Scan: fail, Number. -/
import Derived.Test.YteonbbfegnjjeaaScanB
namespace Go.Proofs.Yteonbbfegnjjeaa.Law
open Go.RowKit Go.Proofs.Yteonbbfegnjjeaa Go.Proofs.YteonbbfegnjjeaaW.PrintWords Go.Proofs.YteonbbfegnjjeaaW.PrintLast Go.Proofs.YteonbbfegnjjeaaW.PrintMore
set_option maxHeartbeats 400000 in
set_option maxRecDepth 100000 in
theorem rfail_calls (A : Option Addr) (n c : Nat) (er e : Int) (w : World) :
    Calls Try.prog 34 #[.agg #[.slice A n c, .int .i64 er], .int .i64 e] w fun x w' => x = .returned (.agg #[.slice A n c, .int .i64 e]) ∧ Below w.heap.size w w' := by
  have HBL := Aside0.mk (Below.refl w.heap.size w)
  go_enter Try.func34, Try.ntmps34
  go_wp2
  exact bodyPost_ret (results_cell_row rfl _ _ (w.heap.size + 1) 44 _ (0, 0) _ rfl (heap_alloc2_new _ _ _) Try.underlying44 rfl (by kernel_rfl)) rfl ⟨rfl, below_alloc (below_alloc HBL.out _) _⟩
set_option maxHeartbeats 1000000 in
set_option maxRecDepth 100000 in
theorem rnum_0 (A : Option Addr) (c : Nat) (er a b : Int) (l : List Int) (w : World) (he : er ≠ 0) :
    Calls Try.prog 29 #[.agg #[.slice A l.length c, .int .i64 er], .int .i64 a, .int .i64 b] w fun x w' => x = .returned (.tuple #[.int .i64 0, .agg #[.slice A l.length c, .int .i64 er]]) ∧ Below w.heap.size w w' := by
  have HBL := Aside0.mk (Below.refl w.heap.size w)
  have he1 : (er != 0) = true := bne_iff_ne.mpr he
  go_enter Try.func29, Try.ntmps29
  go_wp2
  go_region
  go_wp2
  exact bodyPost_ret (results_tmp_cell_row rfl _ _ (w.heap.size + 1) 44 _ (0, 0) _ rfl (heap_alloc2_new _ _ _) Try.underlying44 rfl (by kernel_rfl)) rfl ⟨rfl, below_drew1 (below_alloc (below_alloc HBL.out _) _)⟩
set_option maxHeartbeats 1000000 in
set_option maxRecDepth 100000 in
theorem rnum_1 (A : Option Addr) (n c : Nat) (a b : Int) (w : World) (h0 : n = 0) :
    Calls Try.prog 29 #[.agg #[.slice A n c, .int .i64 0], .int .i64 a, .int .i64 b] w fun x w' => x = .returned (.tuple #[.int .i64 0, .agg #[.slice A n c, .int .i64 3]]) ∧ Below w.heap.size w w' := by
  subst h0
  go_enter Try.func29, Try.ntmps29
  go_wp2_with (first | (go_at_call 34; refine (rfail_calls A 0 c 0 3 _).mono ?_; rintro x w3 ⟨rfl, hb⟩; have BK3 := blk_below (heap_alloc2_new w _ _) hb; have HB3 := Aside0.mk (below_step (below_alloc (below_alloc (Below.refl w.heap.size w) _) _) hb); clear hb; have hz3 := (blk_cell BK3 0).trans rfl; have hz4 := (blk_cell BK3 1).trans rfl; have hf0 := blk_frozen BK3 0; have hf1 := blk_frozen BK3 1))
  exact bodyPost_ret (results_tmp_cell_row rfl _ _ (w.heap.size + 1) 44 _ (0, 0) _ rfl (blk_put (blk_put BK3 0 _ rfl) 1 _ rfl) Try.underlying44 rfl (by kernel_rfl)) rfl ⟨rfl, below_set (below_set HB3.out (by omega)) (by omega)⟩
set_option maxHeartbeats 1000000 in
set_option maxRecDepth 100000 in
theorem rnum_2 (ad : Addr) (n c : Nat) (a b x0 : Int) (w : World) (h0 : 0 < n) (hc : w.cell? ad = some (.int .u8 x0)) (hx0 : 0 ≤ x0) (hx1 : x0 < 256) (h7 : 7 < x0) :
    Calls Try.prog 29 #[.agg #[.slice (some ad) n c, .int .i64 0], .int .i64 a, .int .i64 b] w fun x w' => x = .returned (.tuple #[.int .i64 0, .agg #[.slice (some ad) n c, .int .i64 5]]) ∧ Below w.heap.size w w' := by
  have hBL := below_alloc (below_alloc (Below.refl w.heap.size w) (.cells #[.slice (some ad) n c, .int .i64 0] 44)) (.cells #[.slice none 0 0, .int .i64 0] 44)
  have hc1 := (hBL.cell (World.block_lt_of_cell? w _ hc)).trans hc
  have hn0 : ((n : Int) == 0) = false := beq_eq_false_iff_ne.mpr (by omega)
  have hn : (0 < (n : Int)) := by omega
  clear hBL
  have b7 : decide (x0 > 7) = true := decide_eq_true h7
  go_enter Try.func29, Try.ntmps29
  go_wp2_with (first | (go_at_call 34; refine (rfail_calls (some ad) n c 0 5 _).mono ?_; rintro x w3 ⟨rfl, hb⟩; have BK3 := blk_below (heap_alloc2_new w _ _) hb; have HB3 := Aside0.mk (below_step (below_alloc (below_alloc (Below.refl w.heap.size w) _) _) hb); clear hb; have hz3 := (blk_cell BK3 0).trans rfl; have hz4 := (blk_cell BK3 1).trans rfl; have hf0 := blk_frozen BK3 0; have hf1 := blk_frozen BK3 1))
  exact bodyPost_ret (results_tmp_cell_row rfl _ _ (w.heap.size + 1) 44 _ (0, 0) _ rfl (blk_put (blk_put BK3 0 _ rfl) 1 _ rfl) Try.underlying44 rfl (by kernel_rfl)) rfl ⟨rfl, below_set (below_set HB3.out (by omega)) (by omega)⟩
set_option maxHeartbeats 1000000 in
set_option maxRecDepth 100000 in
theorem rnum_3 (ad : Addr) (n c : Nat) (a b x0 : Int) (w : World) (h0 : 0 < n) (hn9 : n ≤ 9223372036854775807) (hc : w.cell? ad = some (.int .u8 x0)) (hx0 : 0 ≤ x0) (hx1 : x0 < 256) (h7 : ¬ 7 < x0) (hs : (n : Int) < 1 + x0) :
    Calls Try.prog 29 #[.agg #[.slice (some ad) n c, .int .i64 0], .int .i64 a, .int .i64 b] w fun x w' => x = .returned (.tuple #[.int .i64 0, .agg #[.slice (some ad) n c, .int .i64 3]]) ∧ Below w.heap.size w w' := by
  have hBL := below_alloc (below_alloc (Below.refl w.heap.size w) (.cells #[.slice (some ad) n c, .int .i64 0] 44)) (.cells #[.slice none 0 0, .int .i64 0] 44)
  have hc1 := (hBL.cell (World.block_lt_of_cell? w _ hc)).trans hc
  have hn0 : ((n : Int) == 0) = false := beq_eq_false_iff_ne.mpr (by omega)
  have hn : (0 < (n : Int)) := by omega
  clear hBL
  have b7 : decide (x0 > 7) = false := decide_eq_false h7
  have bs : decide (x0 > (n : Int) - 1) = true := decide_eq_true (by omega)
  go_enter Try.func29, Try.ntmps29
  go_wp2_with (first | (go_at_call 34; refine (rfail_calls (some ad) n c 0 3 _).mono ?_; rintro x w3 ⟨rfl, hb⟩; have BK3 := blk_below (heap_alloc2_new w _ _) hb; have HB3 := Aside0.mk (below_step (below_alloc (below_alloc (Below.refl w.heap.size w) _) _) hb); clear hb; have hz3 := (blk_cell BK3 0).trans rfl; have hz4 := (blk_cell BK3 1).trans rfl; have hf0 := blk_frozen BK3 0; have hf1 := blk_frozen BK3 1))
  exact bodyPost_ret (results_tmp_cell_row rfl _ _ (w.heap.size + 1) 44 _ (0, 0) _ rfl (blk_put (blk_put BK3 0 _ rfl) 1 _ rfl) Try.underlying44 rfl (by kernel_rfl)) rfl ⟨rfl, below_set (below_set HB3.out (by omega)) (by omega)⟩
set_option maxHeartbeats 2000000 in
set_option maxRecDepth 100000 in
theorem rnum_4 (ad : Addr) (c : Nat) (l : List Int) (a b x0 : Int) (w0 w : World) (hr0 : Kd.C (Kd.int .u8) w0 (some ad) l.length l) (d : List Int) (hd : (d.length : Int) = x0) (hbd : Bytes d) (hc0 : w.cell? ad = some (.int .u8 x0)) (hx0 : 0 ≤ x0) (hx1 : x0 < 256) (h7 : ¬ 7 < x0) (hs : ¬ (l.length : Int) < 1 + x0)
    (hr : Kd.C (Kd.int .u8) w (some ad) l.length l) (hc : l.length ≤ c) (hb : Bytes l) (hcells : ∀ j, j < d.length → w.cell? ⟨ad.block, ad.off + 1 + j, none⟩ = some (.int .u8 (d.getD j 0))) (r1 : Int) (rk : Nat) (re : Int)
    (hz : (0 < x0 ∧ d.getD 0 0 = 0) → r1 = 0 ∧ rk = 0 ∧ re = 5) (hf : ¬ (0 < x0 ∧ d.getD 0 0 = 0) → (9007199254740992 < val d ∨ val d < a ∨ b < val d) → r1 = 0 ∧ rk = 0 ∧ re = 6)
    (ho : ¬ (0 < x0 ∧ d.getD 0 0 = 0) → ¬ (9007199254740992 < val d ∨ val d < a ∨ b < val d) → r1 = val d ∧ rk = (x0 + 1).toNat ∧ re = 0) :
    Calls Try.prog 29 #[.agg #[.slice (some ad) l.length c, .int .i64 0], .int .i64 a, .int .i64 b] w fun x w' => ∃ v', x = .returned (.tuple #[.int .i64 r1, v']) ∧ Scn w0 v' (l.drop rk) re ∧ Below w.heap.size w w' := by
  have hn9 := Kd.C_max hr
  have hBL := below_alloc (below_alloc (Below.refl w.heap.size w) (.cells #[.slice (some ad) l.length c, .int .i64 0] 44)) (.cells #[.slice none 0 0, .int .i64 0] 44)
  have hcell : ∀ {p : Addr} {v : Value}, w.cell? p = some v → _ := fun {p v} (h : w.cell? p = some v) => (hBL.cell (World.block_lt_of_cell? w _ h)).trans h
  have hc1 := hcell hc0
  have HCS := Aside0.mk (fun j (hj : j < d.length) => hcell (hcells j hj))
  have hn0 : ((l.length : Int) == 0) = false := beq_eq_false_iff_ne.mpr (by omega)
  have hn : (0 < (l.length : Int)) := by omega
  have b7 : decide (x0 > 7) = false := decide_eq_false h7
  have bs : decide (x0 > (l.length : Int) - 1) = false := decide_eq_false (by omega)
  have HBL := Aside0.mk hBL
  have K1 := Aside0.mk (heap_alloc2_old w (.cells #[.slice (some ad) l.length c, .int .i64 0] 44) (.cells #[.slice none 0 0, .int .i64 0] 44))
  have K2 := Aside0.mk (heap_alloc2_new w (.cells #[.slice (some ad) l.length c, .int .i64 0] 44) (.cells #[.slice none 0 0, .int .i64 0] 44))
  have HBD := Aside0.mk hbd
  have HD := Aside0.mk hd
  have HZ := Aside0.mk hz
  have HF := Aside0.mk hf
  have HO := Aside0.mk ho
  have HR := Aside0.mk hr0
  have HN := Aside0.mk hc
  have HY := Aside0.mk hb
  clear hcell hBL hcells hc0 hbd hd hz hf ho hr0 hr hc hb
  go_enter Try.func29, Try.ntmps29
  go_wp2
  have k0 := (blk_cell K1.out 0).trans rfl
  have k1 := (blk_cell K1.out 1).trans rfl
  generalize (w.alloc (.cells #[.slice (some ad) l.length c, .int .i64 0] 44)).alloc (.cells #[.slice none 0 0, .int .i64 0] 44) = w1 at *
  have hdl := HD.out
  clear hn0 b7 bs hc1
  go_loop [9, 10] (fun v9 v10 => ∃ (i : Nat), i ≤ d.length ∧ v10 = .int .i64 ((i : Int) + 1) ∧ v9 = .int .i64 (val (d.take i))) (fun _ v10 => d.length + 1 - (intOf v10).toNat)
  case atStart => exact ⟨0, by omega, rfl, rfl⟩
  case round =>
    obtain ⟨i, hi, rfl, rfl⟩ := hrel
    by_cases hlt : i < d.length
    · have hltb : decide ((i : Int) + 1 ≤ x0) = true := decide_eq_true (by omega)
      have hin : (i : Int) + 1 < (l.length : Int) := by omega
      have hk : w1.cell? ⟨ad.block, ad.off + (i + 1), none⟩ = some (.int .u8 (d.getD i 0)) := by rw [show ad.off + (i + 1) = ad.off + 1 + i by omega]; exact HCS.out i hlt
      have hst : val (d.take (i + 1)) = val (d.take i) * 256 + d.getD i 0 := by
        rw [List.take_succ_eq_append_getElem hlt, val_snoc, List.getD_eq_getElem?_getD, List.getElem?_eq_getElem hlt]; rfl
      have hby := HBD.out _ (List.getElem_mem hlt)
      have hge : d.getD i 0 = d[i] := by rw [List.getD_eq_getElem?_getD, List.getElem?_eq_getElem hlt]; rfl
      rw [← hge] at hby
      have hvb := val_bound (l := d.take i) (fun x hx => HBD.out x (List.mem_of_mem_take hx))
      have hp : (256 : Int) ^ (d.take i).length ≤ 256 ^ 6 := by
        rw [List.length_take, show min i d.length = i by omega]
        have := Nat.pow_le_pow_right (n := 256) (by omega) (show i ≤ 6 by omega)
        exact_mod_cast this
      have h6 : (256 : Int) ^ 6 = 281474976710656 := by decide
      have hab : val (d.take i) < 281474976710656 := by omega
      have hv0 := hvb.1
      have HS := Aside0.mk hst
      clear hst hvb hp h6 hge
      generalize d.getD i 0 = bt at *
      generalize val (d.take i) = vt at *
      go_wp2
      go_round
      case rel => exact ⟨i + 1, by omega, by go_num, by rw [HS.out]⟩
      case measure => simp [intOf]; omega
    · obtain rfl : i = d.length := by omega
      have hltb : decide ((d.length : Int) + 1 ≤ x0) = false := decide_eq_false (by omega)
      rw [List.take_length]
      have HCS0 : 0 < x0 → w1.cell? ⟨ad.block, ad.off + 1, none⟩ = some (.int .u8 (d.getD 0 0)) := fun h => HCS.out 0 (by omega)
      clear HCS HBD hltb
      have hdn := Aside0.mk hdl
      generalize val d = vd at *
      generalize d.getD 0 0 = z at *
      by_cases hp : 0 < x0
      · have bp : decide (x0 > 0) = true := decide_eq_true hp
        have hk1 := HCS0 hp
        clear HCS0
        by_cases hz : z = 0
        · subst hz
          have hl1 : (1 : Int) < (l.length : Int) := by omega
          obtain ⟨rfl, rfl, rfl⟩ := HZ.out ⟨hp, rfl⟩
          clear HZ HF HO
          go_wp2_with (first | (go_at_call 34; refine (rfail_calls (some ad) l.length c 0 5 _).mono ?_; rintro x w3 ⟨rfl, hb⟩; have BK3 := blk_below K2.out hb; have HB3 := Aside0.mk (below_step HBL.out hb); clear hb; have hz3 := (blk_cell BK3 0).trans rfl; have hz4 := (blk_cell BK3 1).trans rfl; have hf0 := blk_frozen BK3 0; have hf1 := blk_frozen BK3 1))
          exact bodyPost_ret (results_tmp_cell_row rfl _ _ (w.heap.size + 1) 44 _ (0, 0) _ rfl (blk_put (blk_put BK3 0 _ rfl) 1 _ rfl) Try.underlying44 rfl (by kernel_rfl)) rfl ⟨_, rfl, ⟨_, c, rfl, HR.out, HN.out, HY.out⟩, below_set (below_set HB3.out (by omega)) (by omega)⟩
        · have bz : (z == 0) = false := beq_eq_false_iff_ne.mpr hz
          have hl1 : (1 : Int) < (l.length : Int) := by omega
          by_cases hfar : 9007199254740992 < vd
          · have bf : decide (vd > 9007199254740992) = true := decide_eq_true hfar
            obtain ⟨rfl, rfl, rfl⟩ := HF.out (fun h => hz h.2) (.inl hfar)
            clear HZ HF HO
            go_wp2_with (first | (go_at_call 34; refine (rfail_calls (some ad) l.length c 0 6 _).mono ?_; rintro x w3 ⟨rfl, hb⟩; have BK3 := blk_below K2.out hb; have HB3 := Aside0.mk (below_step HBL.out hb); clear hb; have hz3 := (blk_cell BK3 0).trans rfl; have hz4 := (blk_cell BK3 1).trans rfl; have hf0 := blk_frozen BK3 0; have hf1 := blk_frozen BK3 1))
            exact bodyPost_ret (results_tmp_cell_row rfl _ _ (w.heap.size + 1) 44 _ (0, 0) _ rfl (blk_put (blk_put BK3 0 _ rfl) 1 _ rfl) Try.underlying44 rfl (by kernel_rfl)) rfl ⟨_, rfl, ⟨_, c, rfl, HR.out, HN.out, HY.out⟩, below_set (below_set HB3.out (by omega)) (by omega)⟩
          · have bf : decide (vd > 9007199254740992) = false := decide_eq_false hfar
            by_cases hna : vd < a
            · have ba := decide_eq_true hna
              obtain ⟨rfl, rfl, rfl⟩ := HF.out (fun h => hz h.2) (.inr (.inl hna))
              clear HZ HF HO
              go_wp2_with (first | (go_at_call 34; refine (rfail_calls (some ad) l.length c 0 6 _).mono ?_; rintro x w3 ⟨rfl, hb⟩; have BK3 := blk_below K2.out hb; have HB3 := Aside0.mk (below_step HBL.out hb); clear hb; have hz3 := (blk_cell BK3 0).trans rfl; have hz4 := (blk_cell BK3 1).trans rfl; have hf0 := blk_frozen BK3 0; have hf1 := blk_frozen BK3 1))
              exact bodyPost_ret (results_tmp_cell_row rfl _ _ (w.heap.size + 1) 44 _ (0, 0) _ rfl (blk_put (blk_put BK3 0 _ rfl) 1 _ rfl) Try.underlying44 rfl (by kernel_rfl)) rfl ⟨_, rfl, ⟨_, c, rfl, HR.out, HN.out, HY.out⟩, below_set (below_set HB3.out (by omega)) (by omega)⟩
            · have ba := decide_eq_false hna
              by_cases hnb : b < vd
              · have bb : decide (vd > b) = true := decide_eq_true hnb
                obtain ⟨rfl, rfl, rfl⟩ := HF.out (fun h => hz h.2) (.inr (.inr hnb))
                clear HZ HF HO
                go_wp2_with (first | (go_at_call 34; refine (rfail_calls (some ad) l.length c 0 6 _).mono ?_; rintro x w3 ⟨rfl, hb⟩; have BK3 := blk_below K2.out hb; have HB3 := Aside0.mk (below_step HBL.out hb); clear hb; have hz3 := (blk_cell BK3 0).trans rfl; have hz4 := (blk_cell BK3 1).trans rfl; have hf0 := blk_frozen BK3 0; have hf1 := blk_frozen BK3 1))
                exact bodyPost_ret (results_tmp_cell_row rfl _ _ (w.heap.size + 1) 44 _ (0, 0) _ rfl (blk_put (blk_put BK3 0 _ rfl) 1 _ rfl) Try.underlying44 rfl (by kernel_rfl)) rfl ⟨_, rfl, ⟨_, c, rfl, HR.out, HN.out, HY.out⟩, below_set (below_set HB3.out (by omega)) (by omega)⟩
              · have bb : decide (vd > b) = false := decide_eq_false hnb
                obtain ⟨rfl, rfl, rfl⟩ := HO.out (fun h => hz h.2) (fun h => h.elim hfar (fun h => h.elim hna hnb))
                clear HZ HF HO
                have hz3 := (blk_cell K2.out 0).trans rfl
                have hz4 := (blk_cell K2.out 1).trans rfl
                have hf0 := blk_frozen K2.out 0
                have hf1 := blk_frozen K2.out 1
                go_wp2
                have hlc := HN.out
                have hk1 : x0 + 1 ≤ (l.length : Int) := by omega
                have HBE : ∀ v, Below w.heap.size w ((w1.setCell ⟨w.heap.size + 1, 0, none⟩ v).setCell ⟨w.heap.size + 1, 1, none⟩ (.int .i64 0)).drew := fun v => below_drew1 (below_set (below_set HBL.out (Nat.le_succ _)) (Nat.le_succ _))
                go_region
                go_wp2
                all_goals
                  refine bodyPost_ret (results_tmp_cell_row rfl _ _ (w.heap.size + 1) 44 _ (0, 0) _ rfl (blk_put (blk_put K2.out 0 _ rfl) 1 _ rfl) Try.underlying44 rfl (by kernel_rfl)) rfl ⟨_, rfl, ?_, HBE _⟩
                  first | exact scn_drop_all HR.out (by omega) (by omega) HY.out | exact scn_drop HR.out (by omega) HN.out HY.out h
      · have bp : decide (x0 > 0) = false := decide_eq_false hp
        by_cases hfar : 9007199254740992 < vd
        · have bf : decide (vd > 9007199254740992) = true := decide_eq_true hfar
          obtain ⟨rfl, rfl, rfl⟩ := HF.out (fun h => hp h.1) (.inl hfar)
          clear HZ HF HO
          go_wp2_with (first | (go_at_call 34; refine (rfail_calls (some ad) l.length c 0 6 _).mono ?_; rintro x w3 ⟨rfl, hb⟩; have BK3 := blk_below K2.out hb; have HB3 := Aside0.mk (below_step HBL.out hb); clear hb; have hz3 := (blk_cell BK3 0).trans rfl; have hz4 := (blk_cell BK3 1).trans rfl; have hf0 := blk_frozen BK3 0; have hf1 := blk_frozen BK3 1))
          exact bodyPost_ret (results_tmp_cell_row rfl _ _ (w.heap.size + 1) 44 _ (0, 0) _ rfl (blk_put (blk_put BK3 0 _ rfl) 1 _ rfl) Try.underlying44 rfl (by kernel_rfl)) rfl ⟨_, rfl, ⟨_, c, rfl, HR.out, HN.out, HY.out⟩, below_set (below_set HB3.out (by omega)) (by omega)⟩
        · have bf : decide (vd > 9007199254740992) = false := decide_eq_false hfar
          by_cases hna : vd < a
          · have ba := decide_eq_true hna
            obtain ⟨rfl, rfl, rfl⟩ := HF.out (fun h => hp h.1) (.inr (.inl hna))
            clear HZ HF HO
            go_wp2_with (first | (go_at_call 34; refine (rfail_calls (some ad) l.length c 0 6 _).mono ?_; rintro x w3 ⟨rfl, hb⟩; have BK3 := blk_below K2.out hb; have HB3 := Aside0.mk (below_step HBL.out hb); clear hb; have hz3 := (blk_cell BK3 0).trans rfl; have hz4 := (blk_cell BK3 1).trans rfl; have hf0 := blk_frozen BK3 0; have hf1 := blk_frozen BK3 1))
            exact bodyPost_ret (results_tmp_cell_row rfl _ _ (w.heap.size + 1) 44 _ (0, 0) _ rfl (blk_put (blk_put BK3 0 _ rfl) 1 _ rfl) Try.underlying44 rfl (by kernel_rfl)) rfl ⟨_, rfl, ⟨_, c, rfl, HR.out, HN.out, HY.out⟩, below_set (below_set HB3.out (by omega)) (by omega)⟩
          · have ba := decide_eq_false hna
            by_cases hnb : b < vd
            · have bb : decide (vd > b) = true := decide_eq_true hnb
              obtain ⟨rfl, rfl, rfl⟩ := HF.out (fun h => hp h.1) (.inr (.inr hnb))
              clear HZ HF HO
              go_wp2_with (first | (go_at_call 34; refine (rfail_calls (some ad) l.length c 0 6 _).mono ?_; rintro x w3 ⟨rfl, hb⟩; have BK3 := blk_below K2.out hb; have HB3 := Aside0.mk (below_step HBL.out hb); clear hb; have hz3 := (blk_cell BK3 0).trans rfl; have hz4 := (blk_cell BK3 1).trans rfl; have hf0 := blk_frozen BK3 0; have hf1 := blk_frozen BK3 1))
              exact bodyPost_ret (results_tmp_cell_row rfl _ _ (w.heap.size + 1) 44 _ (0, 0) _ rfl (blk_put (blk_put BK3 0 _ rfl) 1 _ rfl) Try.underlying44 rfl (by kernel_rfl)) rfl ⟨_, rfl, ⟨_, c, rfl, HR.out, HN.out, HY.out⟩, below_set (below_set HB3.out (by omega)) (by omega)⟩
            · have bb : decide (vd > b) = false := decide_eq_false hnb
              obtain ⟨rfl, rfl, rfl⟩ := HO.out (fun h => hp h.1) (fun h => h.elim hfar (fun h => h.elim hna hnb))
              clear HZ HF HO
              have hz3 := (blk_cell K2.out 0).trans rfl
              have hz4 := (blk_cell K2.out 1).trans rfl
              have hf0 := blk_frozen K2.out 0
              have hf1 := blk_frozen K2.out 1
              go_wp2
              have hlc := HN.out
              have hk1 : x0 + 1 ≤ (l.length : Int) := by omega
              have HBE : ∀ v, Below w.heap.size w ((w1.setCell ⟨w.heap.size + 1, 0, none⟩ v).setCell ⟨w.heap.size + 1, 1, none⟩ (.int .i64 0)).drew := fun v => below_drew1 (below_set (below_set HBL.out (Nat.le_succ _)) (Nat.le_succ _))
              go_region
              go_wp2
              all_goals
                refine bodyPost_ret (results_tmp_cell_row rfl _ _ (w.heap.size + 1) 44 _ (0, 0) _ rfl (blk_put (blk_put K2.out 0 _ rfl) 1 _ rfl) Try.underlying44 rfl (by kernel_rfl)) rfl ⟨_, rfl, ?_, HBE _⟩
                first | exact scn_drop_all HR.out (by omega) (by omega) HY.out | exact scn_drop HR.out (by omega) HN.out HY.out h
theorem rnum_calls {w0 w : World} {v : Value} {l : List Int} {er : Int} (h : Scn w0 v l er) (hW : Below w0.heap.size w0 w) (a b : Int) :
    Calls Try.prog 29 #[v, .int .i64 a, .int .i64 b] w fun x w' => ∃ v', x = .returned (.tuple #[.int .i64 (numP l er a b).1, v']) ∧ Scn w0 v' (l.drop (numP l er a b).2.1) (numP l er a b).2.2 ∧ Below w.heap.size w w' := by
  obtain ⟨A, c, rfl, hr0, hc, hb⟩ := h
  have hr := Kd.C_below hr0 hW
  by_cases he : er ≠ 0
  · have e : numP l er a b = (0, 0, er) := by unfold numP; rw [if_pos he]
    rw [e]
    refine (rnum_0 A c er a b l w he).mono ?_
    rintro x w' ⟨rfl, hB⟩
    exact ⟨_, rfl, ⟨A, c, rfl, hr0, hc, hb⟩, hB⟩
  obtain rfl : er = 0 := by omega
  have e0 : numP l 0 a b = if (nx l).2.2 ≠ 0 then (0, 0, (nx l).2.2) else if (nx l).1 < a ∨ b < (nx l).1 then (0, 0, 6) else ((nx l).1, (nx l).2.1.toNat, 0) := by unfold numP; rw [if_neg (by omega)]
  by_cases h0 : l.length = 0
  · have e : numP l 0 a b = (0, 0, 3) := by rw [e0]; unfold nx; rw [if_pos h0]; rfl
    rw [e]
    refine (rnum_1 A l.length c a b w h0).mono ?_
    rintro x w' ⟨rfl, hB⟩
    exact ⟨_, rfl, ⟨A, c, rfl, hr0, hc, hb⟩, hB⟩
  obtain ⟨ad, rfl, hc0⟩ := Kd.at_int hr 0 (by omega) (by omega)
  rw [show (0 : Int).toNat = 0 from rfl, add0] at hc0
  obtain ⟨b0, b1⟩ := rd_mem hb (i := 0) (by omega) (by omega)
  by_cases h7 : 7 < rd l 0
  · have e : numP l 0 a b = (0, 0, 5) := by rw [e0]; unfold nx; rw [if_neg h0, if_pos h7]; rfl
    rw [e]
    refine (rnum_2 ad l.length c a b _ w (by omega) hc0 b0 b1 h7).mono ?_
    rintro x w' ⟨rfl, hB⟩
    exact ⟨_, rfl, ⟨_, c, rfl, hr0, hc, hb⟩, hB⟩
  by_cases hs : (l.length : Int) < 1 + rd l 0
  · have e : numP l 0 a b = (0, 0, 3) := by rw [e0]; unfold nx; rw [if_neg h0, if_neg h7, if_pos hs]; rfl
    rw [e]
    refine (rnum_3 ad l.length c a b _ w (by omega) (Kd.C_max hr) hc0 b0 b1 h7 hs).mono ?_
    rintro x w' ⟨rfl, hB⟩
    exact ⟨_, rfl, ⟨_, c, rfl, hr0, hc, hb⟩, hB⟩
  have hcell : ∀ i : Nat, 1 + i < l.length → w.cell? ⟨ad.block, ad.off + 1 + i, none⟩ = some (.int .u8 (rd l (1 + i))) := by
    intro i hi
    obtain ⟨ad', e, h⟩ := Kd.at_int hr (1 + i) (by omega) (by omega)
    injection e with e; subst e
    rw [show (1 + (i : Int)).toNat = i + 1 by omega] at h
    rw [← h]
    unfold Addr.add
    rw [if_neg (by omega)]
    congr 2
    omega
  have hl : ((l.drop 1).take (rd l 0).toNat).length = (rd l 0).toNat := by rw [List.length_take, List.length_drop]; omega
  have hget : ∀ j, j < (rd l 0).toNat → ((l.drop 1).take (rd l 0).toNat).getD j 0 = rd l (1 + j) := by
    intro j hj
    show _ = l.getD (1 + (j : Int)).toNat 0
    rw [show (1 + (j : Int)).toNat = 1 + j by omega, List.getD_eq_getElem?_getD, List.getD_eq_getElem?_getD, List.getElem?_take, if_pos hj, List.getElem?_drop]
  have hf0 : 0 < rd l 0 → ((l.drop 1).take (rd l 0).toNat).getD 0 0 = rd l 1 := fun h => hget 0 (by omega)
  have e1 : nx l = if 0 < rd l 0 ∧ rd l 1 = 0 then (0, 0, 5) else if far < val ((l.drop 1).take (rd l 0).toNat) then (0, 0, 6) else (val ((l.drop 1).take (rd l 0).toNat), 1 + rd l 0, 0) := by unfold nx; rw [if_neg h0, if_neg h7, if_neg hs]
  generalize hd : (l.drop 1).take (rd l 0).toNat = d at *
  refine rnum_4 ad c l a b _ w0 w hr0 d (by omega) ?_ hc0 b0 b1 h7 hs hr hc hb (fun j hj => ?_) _ _ _ (fun hz => ?_) (fun hz hv => ?_) (fun hz hv => ?_)
  · intro x hx; exact hb x (List.mem_of_mem_drop (List.mem_of_mem_take (hd ▸ hx)))
  · rw [hget j (by omega)]; exact hcell j (by omega)
  · rw [hf0 hz.1] at hz
    rw [e0, e1, if_pos hz]
    exact ⟨rfl, rfl, rfl⟩
  all_goals
    have hz' : ¬ (0 < rd l 0 ∧ rd l 1 = 0) := fun h => hz ⟨h.1, by rw [hf0 h.1]; exact h.2⟩
    rw [e0, e1, if_neg hz']
  · by_cases hf : far < val d
    · rw [if_pos hf]; exact ⟨rfl, rfl, rfl⟩
    · rw [if_neg hf, if_neg (by simp)]
      have : val d < a ∨ b < val d := hv.resolve_left hf
      rw [if_pos (show val d < a ∨ b < val d from this)]
      exact ⟨rfl, rfl, rfl⟩
  · rw [if_neg (show ¬ far < val d from fun h => hv (.inl h)), if_neg (by simp), if_neg (show ¬ (val d < a ∨ b < val d) from fun h => hv (.inr h))]
    exact ⟨rfl, by rw [show rd l 0 + 1 = 1 + rd l 0 from Int.add_comm _ _], rfl⟩
end Go.Proofs.Yteonbbfegnjjeaa.Law
