/- Which parts of which pieces a stretch is: the program's and the document's: the walks. -/
import Derived.Test.YtphpinfingaffaaRo
namespace Go.Proofs.Ytphpinfingaffaa.Law
open Go.RowKit Go.Proofs.Ytphpinfingaffaa Go.Proofs.YtphpinfingaffaaW.PrintWords Go.Proofs.YtphpinfingaffaaW.PrintLast Go.Proofs.YtphpinfingaffaaW.PrintMore Go.Proofs.Ytphpinfingaffaa.D Go.Proofs.Ytphpinfingaffaa.Fl
set_option linter.unusedSimpArgs false
set_option linter.unusedVariables false
theorem rowOk_spans : ∀ (l : List Pc) (b : Int), 0 ≤ b → b + 4096 * l.length ≤ 1099511627776 → (∀ p ∈ l, okN p.n) → rowOk b (spansL b l)
  | [], b, hb, h, _ => ⟨hb, by rw [List.length_nil] at h; omega⟩
  | p :: l, b, hb, h, hp => by
    have h1 := hp p List.mem_cons_self
    unfold okN at h1
    rw [List.length_cons] at h
    exact ⟨rfl, ⟨hb, by omega⟩, ⟨by show 0 ≤ p.n; omega, by show p.n ≤ _; omega⟩, rowOk_spans l (b + p.n) (by omega) (by omega) (fun q hq => hp q (List.mem_cons_of_mem _ hq))⟩
theorem rowE_spans : ∀ (l : List Pc) (b : Int), rowE b (spansL b l) = b + sumN l
  | [], b => by show b = b + 0; omega
  | p :: l, b => by show rowE (b + p.n) (spansL (b + p.n) l) = _; rw [rowE_spans l, sumN_cons]; omega
/-- which parts of which pieces, or why there are none -/
def pickP (x : En) (c m : Int) : List P42 × Int :=
  if (sizeP x).2 ≠ 0 then ([], (sizeP x).2) else if c < 0 ∨ m < 0 ∨ sumN x.ps < c ∨ sumN x.ps - c < m then ([], 6) else (partsL c m 0 (spansL 0 x.ps), 0)
theorem parts_nil (c : Int) : ∀ (l : List S34) (i : Int), partsL c 0 i l = []
  | [], _ => rfl
  | x :: l, i => by rw [partsL, if_pos (by omega), parts_nil c l]
def onePart (c m i : Int) (x : S34) : List P42 := if min (x.f0 + x.f1) (c + m) ≤ max x.f0 c then [] else [⟨i, max x.f0 c - x.f0, min (x.f0 + x.f1) (c + m) - max x.f0 c⟩]
theorem parts_snoc (c m : Int) (y : S34) : ∀ (l : List S34) (i : Int), partsL c m i (l ++ [y]) = partsL c m i l ++ onePart c m (i + l.length) y
  | [], i => by
    show partsL c m i [y] = [] ++ onePart c m (i + ((([] : List S34).length : Nat) : Int)) y
    unfold onePart partsL
    rw [show i + ((([] : List S34).length : Nat) : Int) = i by simp, List.nil_append]
    split <;> rfl
  | x :: l, i => by
    rw [List.cons_append, partsL, partsL, parts_snoc c m y l (i + 1), show i + 1 + (l.length : Int) = i + ((x :: l).length : Int) by rw [List.length_cons]; omega]
    split <;> rfl
theorem parts_len (c m : Int) : ∀ (l : List S34) (i : Int), (partsL c m i l).length ≤ l.length
  | [], _ => Nat.le_refl _
  | x :: l, i => by
    have := parts_len c m l (i + 1)
    rw [partsL]
    split
    · rw [List.length_cons]; omega
    · rw [List.length_cons, List.length_cons]; omega
theorem pick_err {x : En} (h : (sizeP x).2 ≠ 0) (c m : Int) : pickP x c m = ([], (sizeP x).2) := by unfold pickP; rw [if_pos h]
theorem pick_out6 {x : En} (h : (sizeP x).2 = 0) {c m : Int} (h2 : c < 0 ∨ m < 0 ∨ sumN x.ps < c ∨ sumN x.ps - c < m) : pickP x c m = ([], 6) := by unfold pickP; rw [if_neg (by omega), if_pos h2]
theorem pick_in0 {x : En} (h : (sizeP x).2 = 0) {c m : Int} (h2 : ¬ (c < 0 ∨ m < 0 ∨ sumN x.ps < c ∨ sumN x.ps - c < m)) : pickP x c m = (partsL c m 0 (spansL 0 x.ps), 0) := by unfold pickP; rw [if_neg (by omega), if_neg h2]
theorem sum_bd {x : En} (h : FineP x) : 0 ≤ sumN x.ps ∧ sumN x.ps ≤ 8192 := ⟨by have := (sumN_bd h.2.2.1).1; omega, h.2.2.2⟩
/-- a part with its span's beginning and size as whole numbers -/
def k51 : Kd P42 := Kd.iso (Kd.pair (Kd.int .i64) (Kd.pair (Kd.int .i64) (Kd.int .i64))) (fun x : P42 => (x.i, (x.b, x.n)))
theorem k51_open {w : World} {x : P42} {cs : List Value} (h : k51.K w x cs) : cs = [.int .i64 x.i, .int .i64 x.b, .int .i64 x.n] := by
  obtain ⟨_, _, rfl, rfl, _, _, rfl, rfl, rfl⟩ := h
  exact rfl
theorem k51_mkM (w : World) (base : Nat) (ok : Nat → Prop) (x : P42) : k51.M w base ok x [.int .i64 x.i, .int .i64 x.b, .int .i64 x.n] := ⟨[.int .i64 x.i], [.int .i64 x.b, .int .i64 x.n], rfl, rfl, [.int .i64 x.b], [.int .i64 x.n], rfl, rfl, rfl⟩
theorem info51 : (Try.prog.info? 51).map (fun i => (i.zero, i.size, i.bytes)) = some (some (.agg #[(.int .i64 0), (.int .i64 0), (.int .i64 0)]), 3, 24) := by kernel_rfl
theorem at_T51 {w : World} {A : Option Addr} {n : Nat} {xs : List P42} (h : Kd.C k51 w A n xs) (i : Int) (h0 : 0 ≤ i) (h1 : i < n) : ∃ ad , A = some ad ∧ w.cell? (ad.add (i.toNat * 3)) = some (.int .i64 (rd_T42 xs i).i) ∧ w.cell? ⟨(ad.add (i.toNat * 3)).block, (ad.add (i.toNat * 3)).off + 1, none⟩ = some (.int .i64 (rd_T42 xs i).b) ∧ w.cell? ⟨(ad.add (i.toNat * 3)).block, (ad.add (i.toNat * 3)).off + 2, none⟩ = some (.int .i64 (rd_T42 xs i).n) := by
  obtain ⟨ad, c, e, _, hK, hc0⟩ := Kd.C_get h z42 i h0 h1
  have hc : ∀ j u, c[j]? = some u → w.cell? (ad.add (i.toNat * 3 + j)) = some u := hc0
  obtain rfl := k51_open hK
  exact ⟨ad, e, hc 0 _ rfl, by rw [← add_field _ _ 1 (by omega)]; exact hc 1 _ rfl, by rw [← add_field _ _ 2 (by omega)]; exact hc 2 _ rfl⟩
set_option maxHeartbeats 4000000 in
set_option maxRecDepth 100000 in
theorem tpick_calls {x : En} {cs : List Value} {w : World} (h : kEn.K w x cs) (hs : Sz1 x) (c0 m : Int) :
    Calls Try.prog 14 #[.agg cs.toArray, .int .i64 c0, .int .i64 m] w fun e w' => ∃ V, e = .returned (.tuple #[V, .int .i64 (pickP x c0 m).2]) ∧ Kd.R k42 49 w' w.heap.size (fun _ => True) V (pickP x c0 m).1 ∧ Below w.heap.size w w' := by
  obtain ⟨A, c, rfl, ht, hc, hr⟩ := kEn_open h
  have HT := Aside0.mk ht
  have HC := Aside0.mk hc
  have HR := Aside0.mk hr
  have HS := Aside0.mk hs
  clear h ht hc hr hs
  have hp : sizeP x = ((sizeP x).1, (sizeP x).2) := rfl
  by_cases he : (sizeP x).2 = 0
  rotate_left
  · rw [pick_err he]
    have HP := Aside0.mk (show sizeP x = sizeP x from rfl)
    have b1 : ((sizeP x).2 != 0) = true := bne_iff_ne.mpr he
    have b2 : ((sizeP x).2 == 0) = false := beq_eq_false_iff_ne.mpr he
    clear hp he
    go_enter Try.func14, Try.ntmps14
    go_wp2_with (first | ((with_reducible refine gate_dst (N := 3) rfl ?_); refine wpList_box rfl 26 (.tmp 0) rfl (enV x A c) rfl ?_; intro w1 hk hb hs; have E := Aside0.mk (EnAt.mk hk HT.out HC.out (Kd.C_below HR.out hb)); have HB := Aside0.mk hb; have HZZ := Aside0.mk hs; have z0 := E.out.cell (enV_0 x _ _); have z1 := E.out.cell (enV_1 x _ _); have z34 := E.out.cell (enV_34 x _ _ HT.out); clear hk hb hs) | ((with_reducible refine gate_dst (N := 13) rfl ?_); refine load_en rfl (.tmp 3) rfl w.heap.size rfl E.out ?_) | (go_at_call 9; with_reducible refine (tsize_calls E.out.K HS.out).mono ?_; rintro e w2 ⟨rfl, hb⟩; have nB_ := Aside0.mk (below_step HB.out hb); have nE_ := Aside0.mk (E.out.below hb); clear HB E z0 z1 z34 hb; have HB := nB_; have E := nE_; clear nB_ nE_; have z0 := E.out.cell (enV_0 x _ _); have z1 := E.out.cell (enV_1 x _ _); have z34 := E.out.cell (enV_34 x _ _ HT.out)))
    go_ret2
    exact ⟨_, rfl, Kd.R_nil _ _ _ _ _, HB.out⟩
  obtain ⟨hf, hd, hn⟩ := size_ok he
  rw [he, hn] at hp
  have HP := Aside0.mk hp
  have HF := Aside0.mk hf
  have hsb := sum_bd hf
  have hl := hf.2.1
  have HE := Aside0.mk he
  have HSM := Aside0.mk (show sumN x.ps = sumN x.ps from rfl)
  generalize hS : sumN x.ps = S at *
  have HSS := Aside0.mk hS
  clear hf hd hn hp he hS HSM
  by_cases k1 : c0 < 0
  · rw [pick_out6 HE.out (.inl k1)]
    have b1 := decide_eq_true k1
    clear k1 hsb
    go_enter Try.func14, Try.ntmps14
    go_wp2_with (first | ((with_reducible refine gate_dst (N := 3) rfl ?_); refine wpList_box rfl 26 (.tmp 0) rfl (enV x A c) rfl ?_; intro w1 hk hb hs; have E := Aside0.mk (EnAt.mk hk HT.out HC.out (Kd.C_below HR.out hb)); have HB := Aside0.mk hb; have HZZ := Aside0.mk hs; have z0 := E.out.cell (enV_0 x _ _); have z1 := E.out.cell (enV_1 x _ _); have z34 := E.out.cell (enV_34 x _ _ HT.out); clear hk hb hs) | ((with_reducible refine gate_dst (N := 13) rfl ?_); refine load_en rfl (.tmp 3) rfl w.heap.size rfl E.out ?_) | (go_at_call 9; with_reducible refine (tsize_calls E.out.K HS.out).mono ?_; rw [HP.out]; rintro e w2 ⟨rfl, hb⟩; have nB_ := Aside0.mk (below_step HB.out hb); have nE_ := Aside0.mk (E.out.below hb); clear HB E z0 z1 z34 hb; have HB := nB_; have E := nE_; clear nB_ nE_; have z0 := E.out.cell (enV_0 x _ _); have z1 := E.out.cell (enV_1 x _ _); have z34 := E.out.cell (enV_34 x _ _ HT.out)))
    go_ret2
    exact ⟨_, rfl, Kd.R_nil _ _ _ _ _, HB.out⟩
  have b1 := decide_eq_false k1
  by_cases k2 : m < 0
  · rw [pick_out6 HE.out (.inr (.inl k2))]
    have b2 := decide_eq_true k2
    clear k1 k2 hsb
    go_enter Try.func14, Try.ntmps14
    go_wp2_with (first | ((with_reducible refine gate_dst (N := 3) rfl ?_); refine wpList_box rfl 26 (.tmp 0) rfl (enV x A c) rfl ?_; intro w1 hk hb hs; have E := Aside0.mk (EnAt.mk hk HT.out HC.out (Kd.C_below HR.out hb)); have HB := Aside0.mk hb; have HZZ := Aside0.mk hs; have z0 := E.out.cell (enV_0 x _ _); have z1 := E.out.cell (enV_1 x _ _); have z34 := E.out.cell (enV_34 x _ _ HT.out); clear hk hb hs) | ((with_reducible refine gate_dst (N := 13) rfl ?_); refine load_en rfl (.tmp 3) rfl w.heap.size rfl E.out ?_) | (go_at_call 9; with_reducible refine (tsize_calls E.out.K HS.out).mono ?_; rw [HP.out]; rintro e w2 ⟨rfl, hb⟩; have nB_ := Aside0.mk (below_step HB.out hb); have nE_ := Aside0.mk (E.out.below hb); clear HB E z0 z1 z34 hb; have HB := nB_; have E := nE_; clear nB_ nE_; have z0 := E.out.cell (enV_0 x _ _); have z1 := E.out.cell (enV_1 x _ _); have z34 := E.out.cell (enV_34 x _ _ HT.out)))
    go_ret2
    exact ⟨_, rfl, Kd.R_nil _ _ _ _ _, HB.out⟩
  have b2 := decide_eq_false k2
  by_cases k3 : S < c0
  · rw [pick_out6 HE.out (.inr (.inr (.inl (by rw [HSS.out]; exact k3))))]
    have b3 := decide_eq_true k3
    clear k1 k2 k3 hsb
    go_enter Try.func14, Try.ntmps14
    go_wp2_with (first | ((with_reducible refine gate_dst (N := 3) rfl ?_); refine wpList_box rfl 26 (.tmp 0) rfl (enV x A c) rfl ?_; intro w1 hk hb hs; have E := Aside0.mk (EnAt.mk hk HT.out HC.out (Kd.C_below HR.out hb)); have HB := Aside0.mk hb; have HZZ := Aside0.mk hs; have z0 := E.out.cell (enV_0 x _ _); have z1 := E.out.cell (enV_1 x _ _); have z34 := E.out.cell (enV_34 x _ _ HT.out); clear hk hb hs) | ((with_reducible refine gate_dst (N := 13) rfl ?_); refine load_en rfl (.tmp 3) rfl w.heap.size rfl E.out ?_) | (go_at_call 9; with_reducible refine (tsize_calls E.out.K HS.out).mono ?_; rw [HP.out]; rintro e w2 ⟨rfl, hb⟩; have nB_ := Aside0.mk (below_step HB.out hb); have nE_ := Aside0.mk (E.out.below hb); clear HB E z0 z1 z34 hb; have HB := nB_; have E := nE_; clear nB_ nE_; have z0 := E.out.cell (enV_0 x _ _); have z1 := E.out.cell (enV_1 x _ _); have z34 := E.out.cell (enV_34 x _ _ HT.out)))
    go_ret2
    exact ⟨_, rfl, Kd.R_nil _ _ _ _ _, HB.out⟩
  have b3 := decide_eq_false k3
  have hws : wrap64 (S - c0) = S - c0 := n64 (by omega) (by omega)
  by_cases k4 : S - c0 < m
  · rw [pick_out6 HE.out (.inr (.inr (.inr (by rw [HSS.out]; exact k4))))]
    have b4 := decide_eq_true k4
    clear k2 k4
    go_enter Try.func14, Try.ntmps14
    go_wp2_with (first | ((with_reducible refine gate_dst (N := 3) rfl ?_); refine wpList_box rfl 26 (.tmp 0) rfl (enV x A c) rfl ?_; intro w1 hk hb hs; have E := Aside0.mk (EnAt.mk hk HT.out HC.out (Kd.C_below HR.out hb)); have HB := Aside0.mk hb; have HZZ := Aside0.mk hs; have z0 := E.out.cell (enV_0 x _ _); have z1 := E.out.cell (enV_1 x _ _); have z34 := E.out.cell (enV_34 x _ _ HT.out); clear hk hb hs) | ((with_reducible refine gate_dst (N := 13) rfl ?_); refine load_en rfl (.tmp 3) rfl w.heap.size rfl E.out ?_) | (go_at_call 9; with_reducible refine (tsize_calls E.out.K HS.out).mono ?_; rw [HP.out]; rintro e w2 ⟨rfl, hb⟩; have nB_ := Aside0.mk (below_step HB.out hb); have nE_ := Aside0.mk (E.out.below hb); clear HB E z0 z1 z34 hb; have HB := nB_; have E := nE_; clear nB_ nE_; have z0 := E.out.cell (enV_0 x _ _); have z1 := E.out.cell (enV_1 x _ _); have z34 := E.out.cell (enV_34 x _ _ HT.out)))
    go_ret2
    exact ⟨_, rfl, Kd.R_nil _ _ _ _ _, HB.out⟩
  have b4 := decide_eq_false k4
  rw [pick_in0 HE.out (by rw [HSS.out]; omega)]
  by_cases k5 : m = 0
  · subst k5
    rw [parts_nil]
    clear k2 k4
    go_enter Try.func14, Try.ntmps14
    go_wp2_with (first | ((with_reducible refine gate_dst (N := 3) rfl ?_); refine wpList_box rfl 26 (.tmp 0) rfl (enV x A c) rfl ?_; intro w1 hk hb hs; have E := Aside0.mk (EnAt.mk hk HT.out HC.out (Kd.C_below HR.out hb)); have HB := Aside0.mk hb; have HZZ := Aside0.mk hs; have z0 := E.out.cell (enV_0 x _ _); have z1 := E.out.cell (enV_1 x _ _); have z34 := E.out.cell (enV_34 x _ _ HT.out); clear hk hb hs) | ((with_reducible refine gate_dst (N := 13) rfl ?_); refine load_en rfl (.tmp 3) rfl w.heap.size rfl E.out ?_) | (go_at_call 9; with_reducible refine (tsize_calls E.out.K HS.out).mono ?_; rw [HP.out]; rintro e w2 ⟨rfl, hb⟩; have nB_ := Aside0.mk (below_step HB.out hb); have nE_ := Aside0.mk (E.out.below hb); clear HB E z0 z1 z34 hb; have HB := nB_; have E := nE_; clear nB_ nE_; have z0 := E.out.cell (enV_0 x _ _); have z1 := E.out.cell (enV_1 x _ _); have z34 := E.out.cell (enV_34 x _ _ HT.out)) | ((with_reducible refine gate_dst (N := 41) rfl ?_); refine load_en rfl (.tmp 3) rfl w.heap.size rfl E.out ?_))
    go_ret2
    exact ⟨_, rfl, Kd.R_nil _ _ _ _ _, HB.out⟩
  have b5 : (m == 0) = false := beq_eq_false_iff_ne.mpr k5
  have hin : In c0 := ⟨by omega, by omega⟩
  have him : In m := ⟨by omega, by omega⟩
  have hlp : 0 < x.ps.length := by
    rcases Nat.eq_zero_or_pos x.ps.length with h0 | h0
    · have := (sumN_bd HF.out.2.2.1).2
      rw [HSS.out] at this
      omega
    · exact h0
  have HI1 := Aside0.mk hin
  have HI2 := Aside0.mk him
  have HPK := Aside0.mk (fun (A : Option Addr) (cap : Nat) (w : World) (hr : Kd.C kC w A (spansL 0 x.ps).length (spansL 0 x.ps)) (hc : (spansL 0 x.ps).length ≤ cap) => pick_in A cap (spansL 0 x.ps) 0 c0 m w hr hc (by rw [spansL_len]; omega) (by rw [spansL_len]; exact hlp) (rowOk_spans x.ps 0 (Int.le_refl _) (by omega) HF.out.2.2.1) hin him (by omega) (by rw [rowE_spans, HSS.out]; omega))
  have HRW := Aside0.mk (show rowsP x = spansL 0 x.ps by unfold rowsP; rw [if_pos HE.out])
  generalize spansL 0 x.ps = rw_ at *
  clear k1 k2 k3 k4 k5 hin him hlp hl hsb
  go_enter Try.func14, Try.ntmps14
  go_wp2_with (first | ((with_reducible refine gate_dst (N := 3) rfl ?_); refine wpList_box rfl 26 (.tmp 0) rfl (enV x A c) rfl ?_; intro w1 hk hb hs; have E := Aside0.mk (EnAt.mk hk HT.out HC.out (Kd.C_below HR.out hb)); have HB := Aside0.mk hb; have HZZ := Aside0.mk hs; have z0 := E.out.cell (enV_0 x _ _); have z1 := E.out.cell (enV_1 x _ _); have z34 := E.out.cell (enV_34 x _ _ HT.out); clear hk hb hs) | ((with_reducible refine gate_dst (N := 13) rfl ?_); refine load_en rfl (.tmp 3) rfl w.heap.size rfl E.out ?_) | (go_at_call 9; with_reducible refine (tsize_calls E.out.K HS.out).mono ?_; rw [HP.out]; rintro e w2 ⟨rfl, hb⟩; have nB_ := Aside0.mk (below_step HB.out hb); have nE_ := Aside0.mk (E.out.below hb); clear HB E z0 z1 z34 hb; have HB := nB_; have E := nE_; clear nB_ nE_; have z0 := E.out.cell (enV_0 x _ _); have z1 := E.out.cell (enV_1 x _ _); have z34 := E.out.cell (enV_34 x _ _ HT.out)) | ((with_reducible refine gate_dst (N := 41) rfl ?_); refine load_en rfl (.tmp 3) rfl w.heap.size rfl E.out ?_) | (go_at_call 11; with_reducible refine (trow_calls E.out.K HS.out).mono ?_; rw [HE.out, HRW.out]; rintro e w3 ⟨V3, rfl, hv, hb⟩; have HO := Aside0.mk (Kd.R_lower hv HB.out.size); clear hv; have nB_ := Aside0.mk (below_step HB.out hb); have nE_ := Aside0.mk (E.out.below hb); clear HB E z0 z1 z34 hb; have HB := nB_; have E := nE_; clear nB_ nE_; have z0 := E.out.cell (enV_0 x _ _); have z1 := E.out.cell (enV_1 x _ _); have z34 := E.out.cell (enV_34 x _ _ HT.out); obtain ⟨A3, c3, rfl⟩ := Kd.R_slice HO.out) | (go_at_call 24; with_reducible refine (of_yes HI1.out HI2.out _).mono ?_; rintro e w4 ⟨rfl, hb⟩; have nO_ := Aside0.mk (Kd.R_below HO.out hb); clear HO; have HO := nO_; clear nO_; have nB_ := Aside0.mk (below_step HB.out hb); have nE_ := Aside0.mk (E.out.below hb); clear HB E z0 z1 z34 hb; have HB := nB_; have E := nE_; clear nB_ nE_; have z0 := E.out.cell (enV_0 x _ _); have z1 := E.out.cell (enV_1 x _ _); have z34 := E.out.cell (enV_34 x _ _ HT.out)) | (go_at_call 25; with_reducible refine (HPK.out A3 c3 _ (Kd.R_reads' HO.out).2.2 (Kd.R_reads' HO.out).2.1).mono ?_; rintro e w5 ⟨V5, rfl, hv, hb⟩; have HV := Aside0.mk (Kd.R_lower hv HB.out.size); clear hv; have nB_ := Aside0.mk (below_step HB.out hb); have nE_ := Aside0.mk (E.out.below hb); clear HB E z0 z1 z34 hb; have HB := nB_; have E := nE_; clear nB_ nE_; have z0 := E.out.cell (enV_0 x _ _); have z1 := E.out.cell (enV_1 x _ _); have z34 := E.out.cell (enV_34 x _ _ HT.out)))
  go_ret2
  exact ⟨_, rfl, HV.out, HB.out⟩
set_option maxHeartbeats 4000000 in
set_option maxRecDepth 100000 in
theorem rpick_calls {x : En} {cs : List Value} {w : World} (h : kEn.K w x cs) (hs : Sz1 x) (c0 m : Int) :
    Calls Try.prog 15 #[.agg cs.toArray, .int .i64 c0, .int .i64 m] w fun e w' => ∃ V, e = .returned (.tuple #[V, .int .i64 (pickP x c0 m).2]) ∧ Kd.R k51 51 w' w.heap.size (fun _ => True) V (pickP x c0 m).1 ∧ Below w.heap.size w w' := by
  obtain ⟨A, c, rfl, ht, hc, hr⟩ := kEn_open h
  have HT := Aside0.mk ht
  have HC := Aside0.mk hc
  have HR := Aside0.mk hr
  have HS := Aside0.mk hs
  clear h ht hc hr hs
  have hp : sizeP x = ((sizeP x).1, (sizeP x).2) := rfl
  by_cases he : (sizeP x).2 = 0
  rotate_left
  · rw [pick_err he]
    have HP := Aside0.mk (show sizeP x = sizeP x from rfl)
    have b1 : ((sizeP x).2 != 0) = true := bne_iff_ne.mpr he
    have b2 : ((sizeP x).2 == 0) = false := beq_eq_false_iff_ne.mpr he
    clear hp he
    go_enter Try.func15, Try.ntmps15
    go_wp2_with (first | ((with_reducible refine gate_dst (N := 3) rfl ?_); refine wpList_box rfl 26 (.tmp 0) rfl (enV x A c) rfl ?_; intro w1 hk hb hs; have E := Aside0.mk (EnAt.mk hk HT.out HC.out (Kd.C_below HR.out hb)); have HB := Aside0.mk hb; have HZZ := Aside0.mk hs; have z0 := E.out.cell (enV_0 x _ _); have z1 := E.out.cell (enV_1 x _ _); have z34 := E.out.cell (enV_34 x _ _ HT.out); clear hk hb hs) | ((with_reducible refine gate_dst (N := 16) rfl ?_); refine load_en rfl (.tmp 3) rfl w.heap.size rfl E.out ?_) | (go_at_call 10; with_reducible refine (rsize_calls E.out.K HS.out).mono ?_; rintro e w2 ⟨rfl, hb⟩; have nB_ := Aside0.mk (below_step HB.out hb); have nE_ := Aside0.mk (E.out.below hb); clear HB E z0 z1 z34 hb; have HB := nB_; have E := nE_; clear nB_ nE_; have z0 := E.out.cell (enV_0 x _ _); have z1 := E.out.cell (enV_1 x _ _); have z34 := E.out.cell (enV_34 x _ _ HT.out)))
    go_ret2
    exact ⟨_, rfl, Kd.R_nil _ _ _ _ _, HB.out⟩
  obtain ⟨hf, hd, hn⟩ := size_ok he
  rw [he, hn] at hp
  have HP := Aside0.mk hp
  have HF := Aside0.mk hf
  have hsb := sum_bd hf
  have hl := hf.2.1
  have HE := Aside0.mk he
  have HSM := Aside0.mk (show sumN x.ps = sumN x.ps from rfl)
  generalize hS : sumN x.ps = S at *
  have HSS := Aside0.mk hS
  clear hf hd hn hp he hS HSM
  by_cases k1 : c0 < 0
  · rw [pick_out6 HE.out (.inl k1)]
    have b1 := decide_eq_true k1
    clear k1 hsb
    go_enter Try.func15, Try.ntmps15
    go_wp2_with (first | ((with_reducible refine gate_dst (N := 3) rfl ?_); refine wpList_box rfl 26 (.tmp 0) rfl (enV x A c) rfl ?_; intro w1 hk hb hs; have E := Aside0.mk (EnAt.mk hk HT.out HC.out (Kd.C_below HR.out hb)); have HB := Aside0.mk hb; have HZZ := Aside0.mk hs; have z0 := E.out.cell (enV_0 x _ _); have z1 := E.out.cell (enV_1 x _ _); have z34 := E.out.cell (enV_34 x _ _ HT.out); clear hk hb hs) | ((with_reducible refine gate_dst (N := 16) rfl ?_); refine load_en rfl (.tmp 3) rfl w.heap.size rfl E.out ?_) | (go_at_call 10; with_reducible refine (rsize_calls E.out.K HS.out).mono ?_; rw [HP.out]; rintro e w2 ⟨rfl, hb⟩; have nB_ := Aside0.mk (below_step HB.out hb); have nE_ := Aside0.mk (E.out.below hb); clear HB E z0 z1 z34 hb; have HB := nB_; have E := nE_; clear nB_ nE_; have z0 := E.out.cell (enV_0 x _ _); have z1 := E.out.cell (enV_1 x _ _); have z34 := E.out.cell (enV_34 x _ _ HT.out)))
    go_ret2
    exact ⟨_, rfl, Kd.R_nil _ _ _ _ _, HB.out⟩
  have b1 := decide_eq_false k1
  by_cases k2 : m < 0
  · rw [pick_out6 HE.out (.inr (.inl k2))]
    have b2 := decide_eq_true k2
    clear k1 k2 hsb
    go_enter Try.func15, Try.ntmps15
    go_wp2_with (first | ((with_reducible refine gate_dst (N := 3) rfl ?_); refine wpList_box rfl 26 (.tmp 0) rfl (enV x A c) rfl ?_; intro w1 hk hb hs; have E := Aside0.mk (EnAt.mk hk HT.out HC.out (Kd.C_below HR.out hb)); have HB := Aside0.mk hb; have HZZ := Aside0.mk hs; have z0 := E.out.cell (enV_0 x _ _); have z1 := E.out.cell (enV_1 x _ _); have z34 := E.out.cell (enV_34 x _ _ HT.out); clear hk hb hs) | ((with_reducible refine gate_dst (N := 16) rfl ?_); refine load_en rfl (.tmp 3) rfl w.heap.size rfl E.out ?_) | (go_at_call 10; with_reducible refine (rsize_calls E.out.K HS.out).mono ?_; rw [HP.out]; rintro e w2 ⟨rfl, hb⟩; have nB_ := Aside0.mk (below_step HB.out hb); have nE_ := Aside0.mk (E.out.below hb); clear HB E z0 z1 z34 hb; have HB := nB_; have E := nE_; clear nB_ nE_; have z0 := E.out.cell (enV_0 x _ _); have z1 := E.out.cell (enV_1 x _ _); have z34 := E.out.cell (enV_34 x _ _ HT.out)))
    go_ret2
    exact ⟨_, rfl, Kd.R_nil _ _ _ _ _, HB.out⟩
  have b2 := decide_eq_false k2
  by_cases k3 : S < c0
  · rw [pick_out6 HE.out (.inr (.inr (.inl (by rw [HSS.out]; exact k3))))]
    have b3 := decide_eq_true k3
    clear k1 k2 k3 hsb
    go_enter Try.func15, Try.ntmps15
    go_wp2_with (first | ((with_reducible refine gate_dst (N := 3) rfl ?_); refine wpList_box rfl 26 (.tmp 0) rfl (enV x A c) rfl ?_; intro w1 hk hb hs; have E := Aside0.mk (EnAt.mk hk HT.out HC.out (Kd.C_below HR.out hb)); have HB := Aside0.mk hb; have HZZ := Aside0.mk hs; have z0 := E.out.cell (enV_0 x _ _); have z1 := E.out.cell (enV_1 x _ _); have z34 := E.out.cell (enV_34 x _ _ HT.out); clear hk hb hs) | ((with_reducible refine gate_dst (N := 16) rfl ?_); refine load_en rfl (.tmp 3) rfl w.heap.size rfl E.out ?_) | (go_at_call 10; with_reducible refine (rsize_calls E.out.K HS.out).mono ?_; rw [HP.out]; rintro e w2 ⟨rfl, hb⟩; have nB_ := Aside0.mk (below_step HB.out hb); have nE_ := Aside0.mk (E.out.below hb); clear HB E z0 z1 z34 hb; have HB := nB_; have E := nE_; clear nB_ nE_; have z0 := E.out.cell (enV_0 x _ _); have z1 := E.out.cell (enV_1 x _ _); have z34 := E.out.cell (enV_34 x _ _ HT.out)))
    go_ret2
    exact ⟨_, rfl, Kd.R_nil _ _ _ _ _, HB.out⟩
  have b3 := decide_eq_false k3
  have hws : wrap64 (S - c0) = S - c0 := n64 (by omega) (by omega)
  by_cases k4 : S - c0 < m
  · rw [pick_out6 HE.out (.inr (.inr (.inr (by rw [HSS.out]; exact k4))))]
    have b4 := decide_eq_true k4
    clear k2 k4
    go_enter Try.func15, Try.ntmps15
    go_wp2_with (first | ((with_reducible refine gate_dst (N := 3) rfl ?_); refine wpList_box rfl 26 (.tmp 0) rfl (enV x A c) rfl ?_; intro w1 hk hb hs; have E := Aside0.mk (EnAt.mk hk HT.out HC.out (Kd.C_below HR.out hb)); have HB := Aside0.mk hb; have HZZ := Aside0.mk hs; have z0 := E.out.cell (enV_0 x _ _); have z1 := E.out.cell (enV_1 x _ _); have z34 := E.out.cell (enV_34 x _ _ HT.out); clear hk hb hs) | ((with_reducible refine gate_dst (N := 16) rfl ?_); refine load_en rfl (.tmp 3) rfl w.heap.size rfl E.out ?_) | (go_at_call 10; with_reducible refine (rsize_calls E.out.K HS.out).mono ?_; rw [HP.out]; rintro e w2 ⟨rfl, hb⟩; have nB_ := Aside0.mk (below_step HB.out hb); have nE_ := Aside0.mk (E.out.below hb); clear HB E z0 z1 z34 hb; have HB := nB_; have E := nE_; clear nB_ nE_; have z0 := E.out.cell (enV_0 x _ _); have z1 := E.out.cell (enV_1 x _ _); have z34 := E.out.cell (enV_34 x _ _ HT.out)))
    go_ret2
    exact ⟨_, rfl, Kd.R_nil _ _ _ _ _, HB.out⟩
  have b4 := decide_eq_false k4
  rw [pick_in0 HE.out (by rw [HSS.out]; omega)]
  have HPT := Aside0.mk (fun (j : Nat) (hj : j < x.ps.length) => show partsL c0 m 0 (spansL 0 (x.ps.take (j + 1))) = partsL c0 m 0 (spansL 0 (x.ps.take j)) ++ onePart c0 m (j : Int) ⟨sumN (x.ps.take j), (rdPc x.ps j).n⟩ by
    rw [take_rdPc hj, spansL_snoc, parts_snoc, spansL_len, List.length_take, show min j x.ps.length = j by omega, Int.zero_add, Int.zero_add])
  clear k1 k2 k3 k4
  go_enter Try.func15, Try.ntmps15
  go_wp2_with (first | ((with_reducible refine gate_dst (N := 3) rfl ?_); refine wpList_box rfl 26 (.tmp 0) rfl (enV x A c) rfl ?_; intro w1 hk hb hs; have E := Aside0.mk (EnAt.mk hk HT.out HC.out (Kd.C_below HR.out hb)); have HB := Aside0.mk hb; have HZZ := Aside0.mk hs; have z0 := E.out.cell (enV_0 x _ _); have z1 := E.out.cell (enV_1 x _ _); have z34 := E.out.cell (enV_34 x _ _ HT.out); clear hk hb hs) | ((with_reducible refine gate_dst (N := 16) rfl ?_); refine load_en rfl (.tmp 3) rfl w.heap.size rfl E.out ?_) | (go_at_call 10; with_reducible refine (rsize_calls E.out.K HS.out).mono ?_; rw [HP.out]; rintro e w2 ⟨rfl, hb⟩; have nB_ := Aside0.mk (below_step HB.out hb); have nE_ := Aside0.mk (E.out.below hb); clear HB E z0 z1 z34 hb; have HB := nB_; have E := nE_; clear nB_ nE_; have z0 := E.out.cell (enV_0 x _ _); have z1 := E.out.cell (enV_1 x _ _); have z34 := E.out.cell (enV_34 x _ _ HT.out)))
  have HO := Aside0.mk (Kd.R_nil k51 51 w2 w.heap.size (fun _ => True))
  have HBD := Aside0.mk (show 0 ≤ c0 ∧ 0 ≤ m ∧ c0 ≤ 8192 ∧ m ≤ 8192 ∧ c0 + m ≤ 8192 by have h1 := of_decide_eq_false b1; have h2 := of_decide_eq_false b2; have h3 := of_decide_eq_false b3; have h4 := of_decide_eq_false b4; omega)
  clear b1 b2 b3 b4 hws hsb
  go_loopw [10, 11, 12] (fun v10 v11 v12 wr => ∃ (i : Nat) (a : Int) (done : List P42), i ≤ x.ps.length ∧ v11 = .int .i64 a ∧ v12 = .int .i64 i ∧ Aside0 (done.length ≤ i ∧ 0 ≤ a ∧ a ≤ 4096 * i) ∧ Aside0 (a = sumN (x.ps.take i)) ∧ Aside0 (done = partsL c0 m 0 (spansL 0 (x.ps.take i))) ∧ Aside0 (Kd.R k51 51 wr w.heap.size (fun _ => True) v10 done) ∧ Aside0 (EnAt wr w.heap.size x A c) ∧ Aside0 (Below w.heap.size w wr)) (fun _ _ v12 _ => x.ps.length - (intOf v12).toNat)
  case atStart => exact ⟨0, 0, [], Nat.zero_le _, rfl, rfl, ⟨⟨Nat.zero_le _, Int.le_refl _, by omega⟩⟩, ⟨rfl⟩, ⟨rfl⟩, HO, E, HB⟩
  case round =>
    obtain ⟨i, a, done, hi, rfl, rfl, HBA, HSA, HDN, HOn, En, HBn⟩ := hrel
    clear HO E HB z0 z1 z34
    have HO := HOn
    have E := En
    have HB := HBn
    clear HOn En HBn
    have z34 := E.out.cell (enV_34 x _ _ HT.out)
    have z0 := E.out.cell (enV_0 x _ _)
    have z1 := E.out.cell (enV_1 x _ _)
    obtain ⟨V6, rfl⟩ : ∃ V, V = u10 := ⟨_, rfl⟩
    by_cases hlt : i < x.ps.length
    · have hltb : decide ((i : Int) < (x.ps.length : Int)) = true := decide_eq_true (lt_cast hlt)
      have p1 : (0 ≤ (i : Int)) = True := eq_true (Int.natCast_nonneg _)
      have p2 : ((i : Int) < (x.ps.length : Int)) = True := eq_true (lt_cast hlt)
      obtain ⟨ad, rfl, hil, _, hx⟩ := at_Pc E.out.rd hlt
      have hok := HF.out.2.2.1 _ (rdPc_mem hlt)
      have HTK := Aside0.mk (take_rdPc hlt)
      have hpt := HPT.out i hlt
      rw [← HDN.out, ← HSA.out] at hpt
      clear hil
      generalize hpe : rdPc x.ps i = p at *
      obtain ⟨n, hn⟩ : ∃ n, n = p.n := ⟨_, rfl⟩
      rw [← hn] at hx hok hpt
      have HN9 := Aside0.mk (show (rdPc x.ps i).n = n by rw [hpe, hn])
      have HQS := Aside0.mk (show a + n = sumN (x.ps.take (i + 1)) by rw [HTK.out, sumN_snoc, ← HSA.out, hn])
      have hba := HBA.out
      have hbd := HBD.out
      unfold okN at hok
      have HB2 := Aside0.mk (show 0 ≤ a + n ∧ a + n ≤ 4096 * ((i + 1 : Nat) : Int) by omega)
      have HLA := Aside0.mk (show (done.length + 1) * 24 ≤ 140737488355328 by omega)
      have HLT := Aside0.mk hlt
      have hwi : wrap64 ((i : Int) + 1) = (i : Int) + 1 := n64 (by omega) (by omega)
      have hwa : wrap64 (a + n) = a + n := n64 (by omega) (by omega)
      have hwc : wrap64 (c0 + m) = c0 + m := n64 (by omega) (by omega)
      have HPE := Aside0.mk hpt
      obtain ⟨lo, hlo⟩ : ∃ lo, lo = max a c0 := ⟨_, rfl⟩
      obtain ⟨hi_, hhi⟩ : ∃ hi_, hi_ = min (a + n) (c0 + m) := ⟨_, rfl⟩
      have e1 : (if c0 < a then a else c0) = lo := by split <;> omega
      have e2 : (if a + n < c0 + m then a + n else c0 + m) = hi_ := by split <;> omega
      have hw1 : wrap64 (lo - a) = lo - a := n64 (by omega) (by omega)
      have hw2 : wrap64 (hi_ - lo) = hi_ - lo := n64 (by omega) (by omega)
      by_cases hlh : hi_ ≤ lo
      · have HQ := Aside0.mk (show done = partsL c0 m 0 (spansL 0 (x.ps.take (i + 1))) by rw [hpt]; unfold onePart; rw [if_pos (by dsimp only; rw [← hlo, ← hhi]; exact hlh), List.append_nil])
        have HDL := Aside0.mk (show done.length ≤ i + 1 by omega)
        have d3 : decide (lo < hi_) = false := decide_eq_false (by omega)
        clear hpt hpe hn hok hba hbd hlh hlo hhi
        go_wp2
        go_roundw
        case rel => exact ⟨i + 1, a + n, done, hlt, congrArg (Value.int .i64) hwa, by go_num, ⟨⟨HDL.out, HB2.out.1, HB2.out.2⟩⟩, HQS, HQ, HO, E, HB⟩
        case measure => simp [intOf]; exact left_lt hlt
      · have HQ := Aside0.mk (show done ++ [⟨(i : Int), lo - a, hi_ - lo⟩] = partsL c0 m 0 (spansL 0 (x.ps.take (i + 1))) by rw [hpt]; unfold onePart; rw [if_neg (by dsimp only; rw [← hlo, ← hhi]; exact hlh)]; dsimp only; rw [← hlo, ← hhi])
        have HDL := Aside0.mk (show (done ++ [(⟨(i : Int), lo - a, hi_ - lo⟩ : P42)]).length ≤ i + 1 by rw [List.length_append, List.length_singleton]; omega)
        have d3 : decide (lo < hi_) = true := decide_eq_true (by omega)
        clear hpt hpe hn hok hba hbd hlh hlo hhi
        go_wp2_with (first | ((with_reducible refine gate_builtin (b := .append) (xs := #[.tmp 66, .tmp 76]) rfl ?_); at_builtin; refine Kd.R_append k51 (w0 := w) w.heap.size rfl (.tmp 66) (.tmp 76) 45 51 (.agg #[(.int .i64 0), (.int .i64 0), (.int .i64 0)]) 24 rfl Try.underlying45 info51 rfl (by decide) (by decide) V6 done (⟨(i : Int), lo - a, hi_ - lo⟩ : P42) [.int .i64 (i : Int), .int .i64 (lo - a), .int .i64 (hi_ - lo)] (fun _ => True) (fun _ => False) rfl rfl ?aP (fun _ hk => hk.elim) ?aF ?aO ?aB ?aS ?aL ?_; (case aP => exact k51_mkM _ _ _ _); (case aB => exact (by repeat (first | (with_reducible first | exact HB.out | apply below_alloc | apply pw_below_drewN | apply below_drew1) | exact HB.out))); (case aF => exact (fun _ _ => trivial)); (case aO => exact (by (with_reducible repeat (first | apply Kd.R_alloc | apply Kd.R_drewN | apply Kd.R_drew)); exact HO.out)); (case aS => exact (below_size (by repeat (first | (with_reducible first | exact HB.out | apply below_alloc | apply pw_below_drewN | apply below_drew1) | exact HB.out)))); (case aL => exact HLA.out); intro V9 w9 ho hb hg hat; have nE_ := Aside0.mk (EnAt.mk (blk_grown E.out.blk hg (Kd.R_ne HO.out E.out.blk (by decide))) HT.out HC.out (Kd.C_below HR.out hb)); have n0_ := Aside0.mk hb; have n1_ := Aside0.mk ho; clear E HB HO hb ho hg hat z0 z1 z34; have E := nE_; have HB := n0_; have HO := n1_; clear nE_ n0_ n1_ hx; have z34 := E.out.cell (enV_34 x _ _ HT.out); obtain ⟨_, e9, _, _, hx9⟩ := at_Pc E.out.rd HLT.out; cases e9; have hx := hx9.trans (congrArg (fun b => some (Value.int .i64 b)) HN9.out); clear hx9))
        go_roundw
        case rel => exact ⟨i + 1, a + n, _, hlt, congrArg (Value.int .i64) hwa, by go_num, ⟨⟨HDL.out, HB2.out.1, HB2.out.2⟩⟩, HQS, HQ, HO, E, HB⟩
        case measure => simp [intOf]; exact left_lt hlt
    · obtain rfl : i = x.ps.length := by omega
      have hltb : decide ((x.ps.length : Int) < (x.ps.length : Int)) = false := decide_eq_false (Int.lt_irrefl _)
      have hq := HDN.out
      rw [List.take_length] at hq
      have HW2 := Aside0.mk hq.symm
      clear hq
      go_wp2
      go_ret2
      exact ⟨_, rfl, R_as HO.out _ HW2.out, HB.out⟩
end Go.Proofs.Ytphpinfingaffaa.Law
