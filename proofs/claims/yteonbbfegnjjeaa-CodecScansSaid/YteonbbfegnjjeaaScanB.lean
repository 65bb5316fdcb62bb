/- The walks of codec.Scan: Fail, Number, Fixed; of the document's. -/
import Derived.Test.YteonbbfegnjjeaaScan
import Derived.Test.YteonbbfegnjjeaaDx1
namespace Go.Proofs.Yteonbbfegnjjeaa.Law
open Go.RowKit Go.Proofs.Yteonbbfegnjjeaa Go.Proofs.YteonbbfegnjjeaaW.PrintWords Go.Proofs.YteonbbfegnjjeaaW.PrintLast Go.Proofs.YteonbbfegnjjeaaW.PrintMore
theorem results_tmp_cell_row {P : Program} {fn : Func} {p u : Tmp} {ty : TypeId} (h : fn.results = #[.tmp u, .cell p ty]) (tmps : Array Value) (w : World) (g : Nat) (t : TypeId) (cs : Array Value) (fr : Nat × Nat) (d : TypeDesc)
    (hp : tmps.getD p undef = .pointer (some ⟨g, 0, none⟩)) (hg : w.heap[g]? = some (.cells cs t fr))
    (hu : P.underlying ty = some d) (hd : (match d with | .struct _ | .array _ _ => true | _ => false) = true) (hi : (P.info? ty).map (·.size) = some cs.size) :
    (results fn tmps).run P w = .ok (.tuple #[tmps.getD u undef, .agg cs]) w := by
  have hp' : tmps[p]?.getD undef = .pointer (some ⟨g, 0, none⟩) := by simpa using hp
  simp [results, h, hp', asAddr, Result.andThen, run_loadVar_row w g t ty cs fr d hg hu hd hi]
set_option maxHeartbeats 400000 in
set_option maxRecDepth 100000 in
theorem fail_calls (A : Option Addr) (n c : Nat) (er e : Int) (w : World) :
    Calls Try.prog 27 #[.agg #[.slice A n c, .int .i64 er], .int .i64 e] w fun x w' => x = .returned (.agg #[.slice A n c, .int .i64 (if er = 0 then e else er)]) ∧ Below w.heap.size w w' := by
  have HBL := Aside0.mk (Below.refl w.heap.size w)
  by_cases he : er = 0
  · subst he
    go_enter Try.func27, Try.ntmps27
    go_wp2
    exact bodyPost_ret (results_cell_row rfl _ _ (w.heap.size + 1) 30 _ (0, 0) _ rfl (heap_alloc2_new _ _ _) Try.underlying30 rfl (by kernel_rfl)) rfl ⟨rfl, below_alloc (below_alloc HBL.out _) _⟩
  · have he1 : (er == 0) = false := beq_eq_false_iff_ne.mpr he
    rw [if_neg he]
    go_enter Try.func27, Try.ntmps27
    go_wp2
    exact bodyPost_ret (results_cell_row rfl _ _ (w.heap.size + 1) 30 _ (0, 0) _ rfl (heap_alloc2_new _ _ _) Try.underlying30 rfl (by kernel_rfl)) rfl ⟨rfl, below_alloc (below_alloc HBL.out _) _⟩
theorem fail_calls0 (A : Option Addr) (n c : Nat) (e : Int) (w : World) :
    Calls Try.prog 27 #[.agg #[.slice A n c, .int .i64 0], .int .i64 e] w fun x w' => x = .returned (.agg #[.slice A n c, .int .i64 e]) ∧ Below w.heap.size w w' := fail_calls A n c 0 e w
/-- a scan: bytes that are read, an error -/
def Scn (w : World) (v : Value) (l : List Int) (er : Int) : Prop := ∃ A c, v = .agg #[.slice A l.length c, .int .i64 er] ∧ Kd.C (Kd.int .u8) w A l.length l ∧ l.length ≤ c ∧ Bytes l
theorem Scn.below {w w' : World} {v : Value} {l : List Int} {er : Int} (h : Scn w v l er) (hb : Below w.heap.size w w') : Scn w' v l er := by
  obtain ⟨A, c, e, h1, h2, h3⟩ := h
  exact ⟨A, c, e, Kd.C_below h1 hb, h2, h3⟩
theorem bytes_drop {l : List Int} (h : Bytes l) (k : Nat) : Bytes (l.drop k) := fun x hx => h x (List.mem_of_mem_drop hx)
theorem bytes_take {l : List Int} (h : Bytes l) (k : Nat) : Bytes (l.take k) := fun x hx => h x (List.mem_of_mem_take hx)
theorem scn_drop {w : World} {ad : Addr} {c k : Nat} {l : List Int} (h : Kd.C (Kd.int .u8) w (some ad) l.length l) (hk : k ≤ l.length) (hc : l.length ≤ c) (hb : Bytes l) (e : ¬ c = k) :
    Scn w (.agg #[.slice (some (ad.add k)) (l.length - k) (c - k), .int .i64 0]) (l.drop k) 0 := by
  have hd := Kd.C_drop h hk hc
  rw [if_neg e] at hd
  have hl : (l.drop k).length = l.length - k := List.length_drop
  refine ⟨some (ad.add k), c - k, by rw [hl], ?_, by omega, bytes_drop hb k⟩
  rwa [show (Kd.int IntKind.u8).sz = 1 from rfl, Nat.mul_one] at hd
theorem scn_drop_all {w : World} {ad : Addr} {k : Nat} {l : List Int} (h : Kd.C (Kd.int .u8) w (some ad) l.length l) (hk : k ≤ l.length) (hc : l.length ≤ k) (hb : Bytes l) :
    Scn w (.agg #[.slice (some ad) (l.length - k) 0, .int .i64 0]) (l.drop k) 0 := by
  have hd := Kd.C_drop h hk hc
  rw [if_pos rfl] at hd
  have hl : (l.drop k).length = l.length - k := List.length_drop
  exact ⟨some ad, 0, by rw [hl], hd, by omega, bytes_drop hb k⟩
/-- what Number tells: the number, how many bytes it took, the error -/
def numP (l : List Int) (er a b : Int) : Int × Nat × Int :=
  if er ≠ 0 then (0, 0, er) else if (nx l).2.2 ≠ 0 then (0, 0, (nx l).2.2) else if (nx l).1 < a ∨ b < (nx l).1 then (0, 0, 6) else ((nx l).1, (nx l).2.1.toNat, 0)
set_option maxHeartbeats 1000000 in
set_option maxRecDepth 100000 in
theorem num_0 (A : Option Addr) (c : Nat) (er a b : Int) (l : List Int) (w : World) (he : er ≠ 0) :
    Calls Try.prog 16 #[.agg #[.slice A l.length c, .int .i64 er], .int .i64 a, .int .i64 b] w fun x w' => x = .returned (.tuple #[.int .i64 0, .agg #[.slice A l.length c, .int .i64 er]]) ∧ Below w.heap.size w w' := by
  have HBL := Aside0.mk (Below.refl w.heap.size w)
  have he1 : (er != 0) = true := bne_iff_ne.mpr he
  go_enter Try.func16, Try.ntmps16
  go_wp2
  go_region
  go_wp2
  exact bodyPost_ret (results_tmp_cell_row rfl _ _ (w.heap.size + 1) 30 _ (0, 0) _ rfl (heap_alloc2_new _ _ _) Try.underlying30 rfl (by kernel_rfl)) rfl ⟨rfl, below_drew1 (below_alloc (below_alloc HBL.out _) _)⟩
set_option maxHeartbeats 1000000 in
set_option maxRecDepth 100000 in
theorem num_1 (A : Option Addr) (c : Nat) (a b n size e : Int) (l : List Int) (w : World) (hr : Kd.C (Kd.int .u8) w A l.length l) (hc : l.length ≤ c) (hb : Bytes l) (hx : nx l = (n, size, e)) (he : e ≠ 0) :
    Calls Try.prog 16 #[.agg #[.slice A l.length c, .int .i64 0], .int .i64 a, .int .i64 b] w fun x w' => x = .returned (.tuple #[.int .i64 0, .agg #[.slice A l.length c, .int .i64 e]]) ∧ Below w.heap.size w w' := by
  have he1 : (e == 0) = false := beq_eq_false_iff_ne.mpr he
  have he2 : (e != 0) = true := bne_iff_ne.mpr he
  have HR := Aside0.mk hr
  have HN := Aside0.mk hc
  have HY := Aside0.mk hb
  have HX := Aside0.mk hx
  clear hr hc hb hx
  go_enter Try.func16, Try.ntmps16
  go_wp2_with (first | (go_at_call 26; refine (next_calls A c 0 l _ (Kd.C_alloc (Kd.C_alloc HR.out _) _) HN.out HY.out).mono ?_; rw [HX.out]; rintro x w2 ⟨rfl, hb⟩; have BK1 := blk_below (heap_alloc2_old w _ _) hb; have BK2 := blk_below (heap_alloc2_new w _ _) hb; have HB1 := Aside0.mk (below_step (below_alloc (below_alloc (Below.refl w.heap.size w) _) _) hb); have hz0 := (blk_cell BK1 0).trans rfl; have hz1 := (blk_cell BK1 1).trans rfl; clear hb) | (go_at_call 27; refine (fail_calls0 A l.length c e w2).mono ?_; rintro x w3 ⟨rfl, hb⟩; have BK3 := blk_below BK2 hb; have HB3 := Aside0.mk (below_step HB1.out hb); clear hb; have hz3 := (blk_cell BK3 0).trans rfl; have hz4 := (blk_cell BK3 1).trans rfl; have hf0 := blk_frozen BK3 0; have hf1 := blk_frozen BK3 1))
  exact bodyPost_ret (results_tmp_cell_row rfl _ _ (w.heap.size + 1) 30 _ (0, 0) _ rfl (blk_put (blk_put BK3 0 _ rfl) 1 _ rfl) Try.underlying30 rfl (by kernel_rfl)) rfl ⟨rfl, below_set (below_set HB3.out (by omega)) (by omega)⟩
set_option maxHeartbeats 1000000 in
set_option maxRecDepth 100000 in
theorem num_2 (A : Option Addr) (c : Nat) (a b n size : Int) (l : List Int) (w : World) (hr : Kd.C (Kd.int .u8) w A l.length l) (hc : l.length ≤ c) (hb : Bytes l) (hx : nx l = (n, size, 0)) (hna : n < a) :
    Calls Try.prog 16 #[.agg #[.slice A l.length c, .int .i64 0], .int .i64 a, .int .i64 b] w fun x w' => x = .returned (.tuple #[.int .i64 0, .agg #[.slice A l.length c, .int .i64 6]]) ∧ Below w.heap.size w w' := by
  have he1 := decide_eq_true hna
  have HR := Aside0.mk hr
  have HN := Aside0.mk hc
  have HY := Aside0.mk hb
  have HX := Aside0.mk hx
  clear hr hc hb hx
  go_enter Try.func16, Try.ntmps16
  go_wp2_with (first | (go_at_call 26; refine (next_calls A c 0 l _ (Kd.C_alloc (Kd.C_alloc HR.out _) _) HN.out HY.out).mono ?_; rw [HX.out]; rintro x w2 ⟨rfl, hb⟩; have BK1 := blk_below (heap_alloc2_old w _ _) hb; have BK2 := blk_below (heap_alloc2_new w _ _) hb; have HB1 := Aside0.mk (below_step (below_alloc (below_alloc (Below.refl w.heap.size w) _) _) hb); have hz0 := (blk_cell BK1 0).trans rfl; have hz1 := (blk_cell BK1 1).trans rfl; clear hb) | (go_at_call 27; refine (fail_calls0 A l.length c 6 w2).mono ?_; rintro x w3 ⟨rfl, hb⟩; have BK3 := blk_below BK2 hb; have HB3 := Aside0.mk (below_step HB1.out hb); clear hb; have hz3 := (blk_cell BK3 0).trans rfl; have hz4 := (blk_cell BK3 1).trans rfl; have hf0 := blk_frozen BK3 0; have hf1 := blk_frozen BK3 1))
  exact bodyPost_ret (results_tmp_cell_row rfl _ _ (w.heap.size + 1) 30 _ (0, 0) _ rfl (blk_put (blk_put BK3 0 _ rfl) 1 _ rfl) Try.underlying30 rfl (by kernel_rfl)) rfl ⟨rfl, below_set (below_set HB3.out (by omega)) (by omega)⟩
set_option maxHeartbeats 1000000 in
set_option maxRecDepth 100000 in
theorem num_3 (A : Option Addr) (c : Nat) (a b n size : Int) (l : List Int) (w : World) (hr : Kd.C (Kd.int .u8) w A l.length l) (hc : l.length ≤ c) (hb : Bytes l) (hx : nx l = (n, size, 0)) (hna : ¬ n < a) (hnb : b < n) :
    Calls Try.prog 16 #[.agg #[.slice A l.length c, .int .i64 0], .int .i64 a, .int .i64 b] w fun x w' => x = .returned (.tuple #[.int .i64 0, .agg #[.slice A l.length c, .int .i64 6]]) ∧ Below w.heap.size w w' := by
  have he1 := decide_eq_false hna
  have he2 : decide (n > b) = true := decide_eq_true hnb
  have HR := Aside0.mk hr
  have HN := Aside0.mk hc
  have HY := Aside0.mk hb
  have HX := Aside0.mk hx
  clear hr hc hb hx
  go_enter Try.func16, Try.ntmps16
  go_wp2_with (first | (go_at_call 26; refine (next_calls A c 0 l _ (Kd.C_alloc (Kd.C_alloc HR.out _) _) HN.out HY.out).mono ?_; rw [HX.out]; rintro x w2 ⟨rfl, hb⟩; have BK1 := blk_below (heap_alloc2_old w _ _) hb; have BK2 := blk_below (heap_alloc2_new w _ _) hb; have HB1 := Aside0.mk (below_step (below_alloc (below_alloc (Below.refl w.heap.size w) _) _) hb); have hz0 := (blk_cell BK1 0).trans rfl; have hz1 := (blk_cell BK1 1).trans rfl; clear hb) | (go_at_call 27; refine (fail_calls0 A l.length c 6 w2).mono ?_; rintro x w3 ⟨rfl, hb⟩; have BK3 := blk_below BK2 hb; have HB3 := Aside0.mk (below_step HB1.out hb); clear hb; have hz3 := (blk_cell BK3 0).trans rfl; have hz4 := (blk_cell BK3 1).trans rfl; have hf0 := blk_frozen BK3 0; have hf1 := blk_frozen BK3 1))
  exact bodyPost_ret (results_tmp_cell_row rfl _ _ (w.heap.size + 1) 30 _ (0, 0) _ rfl (blk_put (blk_put BK3 0 _ rfl) 1 _ rfl) Try.underlying30 rfl (by kernel_rfl)) rfl ⟨rfl, below_set (below_set HB3.out (by omega)) (by omega)⟩
set_option maxHeartbeats 1000000 in
set_option maxRecDepth 100000 in
theorem num_4 (ad : Addr) (c k : Nat) (a b n : Int) (l : List Int) (w0 w : World) (hr0 : Kd.C (Kd.int .u8) w0 (some ad) l.length l) (hk : k ≤ l.length) (hr : Kd.C (Kd.int .u8) w (some ad) l.length l) (hc : l.length ≤ c) (hb : Bytes l) (hx : nx l = (n, (k : Int), 0)) (hna : ¬ n < a) (hnb : ¬ b < n) :
    Calls Try.prog 16 #[.agg #[.slice (some ad) l.length c, .int .i64 0], .int .i64 a, .int .i64 b] w fun x w' => ∃ v', x = .returned (.tuple #[.int .i64 n, v']) ∧ Scn w0 v' (l.drop k) 0 ∧ Below w.heap.size w w' := by
  have he1 := decide_eq_false hna
  have he2 : decide (n > b) = false := decide_eq_false hnb
  have HR := Aside0.mk hr
  have HR0 := Aside0.mk hr0
  have HN := Aside0.mk hc
  have HY := Aside0.mk hb
  have HX := Aside0.mk hx
  clear hr0 hr hc hb hx
  go_enter Try.func16, Try.ntmps16
  go_wp2_with (first | (go_at_call 26; refine (next_calls (some ad) c 0 l _ (Kd.C_alloc (Kd.C_alloc HR.out _) _) HN.out HY.out).mono ?_; rw [HX.out]; rintro x w2 ⟨rfl, hb⟩; have BK1 := blk_below (heap_alloc2_old w _ _) hb; have BK2 := blk_below (heap_alloc2_new w _ _) hb; have HB1 := Aside0.mk (below_step (below_alloc (below_alloc (Below.refl w.heap.size w) _) _) hb); have hz0 := (blk_cell BK1 0).trans rfl; have hz1 := (blk_cell BK1 1).trans rfl; have HC2 := Aside0.mk (Kd.C_below (Kd.C_alloc (Kd.C_alloc HR.out (.cells #[.slice (some ad) l.length c, .int .i64 0] 30)) (.cells #[.slice none 0 0, .int .i64 0] 30)) hb); clear hb) | (go_at_call 27; refine (fail_calls0 A l.length c 6 w2).mono ?_; rintro x w3 ⟨rfl, hb⟩; have BK3 := blk_below BK2 hb; have HB3 := Aside0.mk (below_step HB1.out hb); clear hb; have hz3 := (blk_cell BK3 0).trans rfl; have hz4 := (blk_cell BK3 1).trans rfl; have hf0 := blk_frozen BK3 0; have hf1 := blk_frozen BK3 1))
  have hf0 := blk_frozen BK2 0
  have hf1 := blk_frozen BK2 1
  have hz3 := (blk_cell BK2 0).trans rfl
  have hz4 := (blk_cell BK2 1).trans rfl
  have hk1 : (k : Int) ≤ (l.length : Int) := by omega
  have hlc := HN.out
  go_region
  go_wp2
  all_goals
    have HBE : ∀ v, Below w.heap.size w ((w2.setCell ⟨w.heap.size + 1, 0, none⟩ v).setCell ⟨w.heap.size + 1, 1, none⟩ (.int .i64 0)).drew := fun v => below_drew1 (below_set (below_set HB1.out (Nat.le_succ _)) (Nat.le_succ _))
    refine bodyPost_ret (results_tmp_cell_row rfl _ _ (w.heap.size + 1) 30 _ (0, 0) _ rfl (blk_put (blk_put BK2 0 _ rfl) 1 _ rfl) Try.underlying30 rfl (by kernel_rfl)) rfl ⟨_, rfl, ?_, HBE _⟩
    first | exact scn_drop_all HR0.out hk (by have := HN.out; omega) HY.out | exact scn_drop HR0.out hk HN.out HY.out h
theorem nx_len {l : List Int} (hb : Bytes l) (h : (nx l).2.2 = 0) : 0 < l.length ∧ 1 ≤ (nx l).2.1 ∧ (nx l).2.1 ≤ l.length := by
  revert h; unfold nx
  split
  · intro h; exact absurd h (by decide)
  · rename_i h0
    obtain ⟨b0, b1⟩ := rd_mem hb (i := 0) (by omega) (by omega)
    split
    · intro h; exact absurd h (by decide)
    · split
      · intro h; exact absurd h (by decide)
      · split
        · intro h; exact absurd h (by decide)
        · split
          · intro h; exact absurd h (by decide)
          · intro _; refine ⟨by omega, ?_, ?_⟩ <;> dsimp only <;> omega
theorem num_calls {w0 w : World} {v : Value} {l : List Int} {er : Int} (h : Scn w0 v l er) (hW : Below w0.heap.size w0 w) (a b : Int) :
    Calls Try.prog 16 #[v, .int .i64 a, .int .i64 b] w fun x w' => ∃ v', x = .returned (.tuple #[.int .i64 (numP l er a b).1, v']) ∧ Scn w0 v' (l.drop (numP l er a b).2.1) (numP l er a b).2.2 ∧ Below w.heap.size w w' := by
  obtain ⟨A, c, rfl, hr0, hc, hb⟩ := h
  have hr := Kd.C_below hr0 hW
  unfold numP
  by_cases he : er ≠ 0
  · rw [if_pos he]
    refine (num_0 A c er a b l w he).mono ?_
    rintro x w' ⟨rfl, hB⟩
    exact ⟨_, rfl, ⟨A, c, rfl, hr0, hc, hb⟩, hB⟩
  · rw [if_neg he]
    obtain rfl : er = 0 := by omega
    by_cases he2 : (nx l).2.2 ≠ 0
    · rw [if_pos he2]
      refine (num_1 A c a b _ _ _ l w hr hc hb rfl he2).mono ?_
      rintro x w' ⟨rfl, hB⟩
      exact ⟨_, rfl, ⟨A, c, rfl, hr0, hc, hb⟩, hB⟩
    · rw [if_neg he2]
      have h0 : (nx l).2.2 = 0 := by omega
      have hx : nx l = ((nx l).1, (nx l).2.1, 0) := by rw [← h0]
      by_cases hna : (nx l).1 < a
      · rw [if_pos (.inl hna)]
        refine (num_2 A c a b _ _ l w hr hc hb hx hna).mono ?_
        rintro x w' ⟨rfl, hB⟩
        exact ⟨_, rfl, ⟨A, c, rfl, hr0, hc, hb⟩, hB⟩
      · by_cases hnb : b < (nx l).1
        · rw [if_pos (.inr hnb)]
          refine (num_3 A c a b _ _ l w hr hc hb hx hna hnb).mono ?_
          rintro x w' ⟨rfl, hB⟩
          exact ⟨_, rfl, ⟨A, c, rfl, hr0, hc, hb⟩, hB⟩
        · rw [if_neg (fun h => h.elim hna hnb)]
          obtain ⟨h1, h2, h3⟩ := nx_len hb h0
          obtain ⟨ad, rfl, _⟩ := Kd.at_int hr 0 (by omega) (by omega)
          exact num_4 ad c (nx l).2.1.toNat a b _ l w0 w hr0 (by omega) hr hc hb (by rw [Int.toNat_of_nonneg (by omega)]; exact hx) hna hnb
end Go.Proofs.Yteonbbfegnjjeaa.Law
