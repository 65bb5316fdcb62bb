/- TableJoins: the law's walk. -/
import Derived.Test.YtphpinfingaffaaTh
namespace Go.Proofs.Ytphpinfingaffaa.Law
open Go.RowKit Go.Proofs.Ytphpinfingaffaa Go.Proofs.YtphpinfingaffaaW.PrintWords Go.Proofs.YtphpinfingaffaaW.PrintLast Go.Proofs.YtphpinfingaffaaW.PrintMore Go.Proofs.Ytphpinfingaffaa.D Go.Proofs.Ytphpinfingaffaa.Fl
set_option linter.unusedSimpArgs false
set_option linter.unusedVariables false
/-- a file's bytes, from the i-th piece on -/
def fullL : Nat → List Pc → List Int
  | _, [] => []
  | i, p :: l => pieceB i p.n.toNat ++ fullL (i + 1) l
theorem fullL_snoc (p : Pc) : ∀ (l : List Pc) (i : Nat), fullL i (l ++ [p]) = fullL i l ++ pieceB (i + l.length) p.n.toNat
  | [], i => by show pieceB i p.n.toNat ++ [] = [] ++ pieceB (i + 0) p.n.toNat; rw [List.append_nil, List.nil_append, Nat.add_zero]
  | q :: l, i => by
    show pieceB i q.n.toNat ++ fullL (i + 1) (l ++ [p]) = (pieceB i q.n.toNat ++ fullL (i + 1) l) ++ _
    rw [fullL_snoc p l (i + 1), List.append_assoc, List.length_cons, show i + 1 + l.length = i + (l.length + 1) by omega]
theorem fullL_len : ∀ (l : List Pc) (i : Nat), (∀ p ∈ l, okN p.n) → ((fullL i l).length : Int) = sumN l
  | [], _, _ => rfl
  | p :: l, i, h => by
    have h1 := h p List.mem_cons_self
    unfold okN at h1
    show ((pieceB i p.n.toNat ++ fullL (i + 1) l).length : Int) = _
    have ih := fullL_len l (i + 1) (fun q hq => h q (List.mem_cons_of_mem _ hq))
    rw [List.length_append, pieceB_len, sumN_cons]; omega
def sliceP (ps : List Pc) (y : P42) : List Int := ((pieceB y.i.toNat (rdPc ps y.i.toNat).n.toNat).take (y.b + y.n).toNat).drop y.b.toNat
theorem gath_all (ps : List Pc) (res : Nat → List Int × Int) : ∀ (l : List P42) (j : Nat) (acc : List Int), (∀ i (h : i < l.length), res (j + i) = (pieceB l[i].i.toNat (rdPc ps l[i].i.toNat).n.toNat, 0)) → (∀ y ∈ l, PtOk ps y) →
    gath ps res j l acc = (acc ++ l.flatMap (sliceP ps), 0, j + l.length)
  | [], j, acc, _, _ => by rw [gath]; simp
  | y :: l, j, acc, hr, hp => by
    have h0 := hr 0 (by simp)
    rw [Nat.add_zero, List.getElem_cons_zero] at h0
    have hy := (hp y List.mem_cons_self).2
    rw [gath_ok (by rw [h0]) (by rw [h0, pieceB_len]; omega), h0, gath_all ps res l (j + 1) _ (fun i h => by
      have := hr (i + 1) (by rw [List.length_cons]; omega)
      rw [List.getElem_cons_succ] at this
      rw [← this]; congr 1; omega) (fun z hz => hp z (List.mem_cons_of_mem _ hz)), List.flatMap_cons, List.length_cons, List.append_assoc, show j + 1 + l.length = j + (l.length + 1) by omega]
    rfl
/-- the positions from max b c on, up to c + m, of a list that begins at b -/
def slL (c m b : Int) (L : List Int) : List Int := (L.drop (c - b).toNat).take (c + m - max b c).toNat
theorem slL_app (c m b : Int) (hm : 0 ≤ m) (P L : List Int) : slL c m b (P ++ L) = (P.take (min (b + P.length) (c + m) - b).toNat).drop (max b c - b).toNat ++ slL c m (b + P.length) L := by
  unfold slL
  rw [List.drop_append, List.take_append, List.length_drop]
  congr 1
  · rw [List.take_drop, show (max b c - b).toNat = (c - b).toNat by omega]
    congr 1
    rcases Nat.lt_or_ge ((c - b).toNat + (c + m - max b c).toNat) P.length with h | h
    · rw [show (min (b + (P.length : Int)) (c + m) - b).toNat = (c - b).toNat + (c + m - max b c).toNat by omega]
    · rw [List.take_of_length_le h]
      by_cases h2 : b + (P.length : Int) ≤ c + m
      · rw [List.take_of_length_le (by omega)]
      · rw [List.take_of_length_le (by omega)]
  · rw [show (c - (b + (P.length : Int))).toNat = (c - b).toNat - P.length by omega, show (c + m - max (b + (P.length : Int)) c).toNat = (c + m - max b c).toNat - (P.length - (c - b).toNat) by omega]
theorem takes (ps : List Pc) (c m : Int) (hm : 0 ≤ m) : ∀ (l : List Pc) (pre : List Pc) (b : Int), ps = pre ++ l → (∀ p ∈ l, okN p.n) → (partsL c m (pre.length : Int) (spansL b l)).flatMap (sliceP ps) = slL c m b (fullL pre.length l)
  | [], pre, b, _, _ => by show [] = slL c m b []; unfold slL; simp
  | p :: l, pre, b, e, hp => by
    have hpn := hp p List.mem_cons_self
    unfold okN at hpn
    have ih := takes ps c m hm l (pre ++ [p]) (b + p.n) (by rw [e, List.append_assoc]; rfl) (fun q hq => hp q (List.mem_cons_of_mem _ hq))
    rw [List.length_append, List.length_singleton, show ((pre.length + 1 : Nat) : Int) = (pre.length : Int) + 1 by omega] at ih
    have hr : rdPc ps pre.length = p := by
      unfold rdPc
      rw [e, List.getD_eq_getElem?_getD, List.getElem?_append_right (Nat.le_refl _), Nat.sub_self]; rfl
    show (partsL c m (pre.length : Int) (⟨b, p.n⟩ :: spansL (b + p.n) l)).flatMap (sliceP ps) = slL c m b (pieceB pre.length p.n.toNat ++ fullL (pre.length + 1) l)
    have hl : ((pieceB pre.length p.n.toNat).length : Int) = p.n := by rw [pieceB_len]; omega
    rw [slL_app c m b hm, hl, ← ih, partsL]
    dsimp only
    by_cases hc : min (b + p.n) (c + m) ≤ max b c
    · rw [if_pos hc]
      have : (List.take (min (b + p.n) (c + m) - b).toNat (pieceB pre.length p.n.toNat)).drop (max b c - b).toNat = [] := List.drop_eq_nil_of_le (by rw [List.length_take]; omega)
      rw [this, List.nil_append]
    · rw [if_neg hc, List.flatMap_cons]
      congr 1
      unfold sliceP
      dsimp only
      rw [Int.toNat_natCast, hr, show max b c - b + (min (b + p.n) (c + m) - max b c) = min (b + p.n) (c + m) - b by omega]
/-- what each part gives, where all goes well -/
def resJ (ps : List Pc) (parts : List P42) (j : Nat) : List Int × Int := (pieceB (rd_T42 parts (j : Int)).i.toNat (rdPc ps (rd_T42 parts (j : Int)).i.toNat).n.toNat, 0)
theorem resJ_get {ps : List Pc} {parts : List P42} : ∀ i (h : i < parts.length), resJ ps parts (0 + i) = (pieceB parts[i].i.toNat (rdPc ps parts[i].i.toNat).n.toNat, 0) := fun i h => by
  have : rd_T42 parts ((0 + i : Nat) : Int) = parts[i] := by
    unfold rd_T42
    rw [Int.toNat_natCast, List.getD_eq_getElem?_getD, Nat.zero_add, List.getElem?_eq_getElem h]; rfl
  unfold resJ
  rw [this]
theorem join_law {w wC : World} {x : En} {A : Option Addr} {c : Nat} {c0 m : Int} (hR : Kd.C kPc w A x.ps.length x.ps) (hb : Below w.heap.size w wC) (E : EnAt wC w.heap.size x A c) (hf : fewB x = true) (hs : (sizeP x).2 = 0) (h0 : 0 ≤ c0) (hm : 0 ≤ m) (hS : c0 + m ≤ sumN x.ps) :
    Calls Try.prog 17 #[.agg (enV x A c).toArray, .int .i64 c0, .int .i64 m, .func (.func 20) #[] #[.pointer (some ⟨w.heap.size, 0, none⟩)]] wC
      fun e w' => ∃ V' : Value, e = .returned (.tuple #[V', .int .i64 0]) ∧ Kd.R (Kd.int .u8) 5 w' wC.heap.size (fun _ => True) V' (slL c0 m 0 (fullL 0 x.ps)) ∧ Below wC.heap.size wC w' := by
  have hfine := (size_ok hs).1
  have hlen := (of_decide_eq_true hf : x.nm.size ≤ 1000 ∧ x.ps.length ≤ 300).2
  have hpk : pickP x c0 m = (partsL c0 m 0 (spansL 0 x.ps), 0) := pick_in0 hs (by omega)
  have hok : ∀ y ∈ partsL c0 m 0 (spansL 0 x.ps), ∃ k : Nat, k < x.ps.length ∧ y.i = (k : Int) ∧ 0 ≤ y.b ∧ 0 ≤ y.n ∧ y.b + y.n ≤ (rdPc x.ps k).n := by
    have := pickP_ok (x := x) (c := c0) (m := m); rw [hpk] at this; exact this
  have hfl : (partsL c0 m 0 (spansL 0 x.ps)).flatMap (sliceP x.ps) = slL c0 m 0 (fullL 0 x.ps) := takes x.ps c0 m hm x.ps [] 0 rfl hfine.2.2.1
  generalize partsL c0 m 0 (spansL 0 x.ps) = parts at *
  have hptok : ∀ y ∈ parts, PtOk x.ps y := fun y hy => by
    obtain ⟨k, hk, e, _⟩ := hok y hy
    refine ⟨by omega, ?_⟩
    rw [e, Int.toNat_natCast]
    exact (hfine.2.2.1 _ (rdPc_mem hk)).1
  have hg := gath_all x.ps (resJ x.ps parts) parts 0 [] resJ_get hptok
  rw [List.nil_append, hfl] at hg
  refine (gather_20 w wC x A c w.heap.size c0 m parts (resJ x.ps parts) (fun _ W => ∀ k, k < wC.heap.size → W.heap[k]? = wC.heap[k]?) hR hb E.tl E.hc (few_sz hf) hpk (fun _ _ => rfl) (fun j W W' hS hk k hlt => (hk k hlt).trans (hS k hlt)) ?_ _ _ _ hg).mono ?_
  · intro j W hj hS2 hB hle
    obtain ⟨k, hk1, hk2, _⟩ := hok _ (rd42_mem hj)
    have hkn := hfine.2.2.1 _ (rdPc_mem hk1)
    unfold okN at hkn
    have hres : resJ x.ps parts j = (pieceB k (rdPc x.ps k).n.toNat, 0) := by unfold resJ; rw [hk2, Int.toNat_natCast]
    rw [hk2, hres]
    refine (clo20 W w.heap.size x A c k (rdPc x.ps k).n.toNat ⟨(hS2 _ (blk_lt E.blk)).trans E.blk, E.tl, E.hc, Kd.C_below hR hB⟩ hk1 hlen (by omega) (by omega)).mono ?_
    rintro e W' ⟨A', c', rfl, hc', hC', hbb⟩
    exact ⟨A', c', rfl, hc', hC', fun q hq => (hbb.block q (Nat.lt_of_lt_of_le hq hle)).trans (hS2 q hq), below_step hB hbb, hbb.size, fun q _ hlt => hbb.block q hlt⟩
  · rintro e w' ⟨V', rfl, hv, hS2, hbw, hle⟩
    exact ⟨V', rfl, hv, hbw.os.trans hb.os.symm, hbw.tape.trans hb.tape.symm, hbw.output.trans hb.output.symm, hle, hS2⟩
set_option maxHeartbeats 4000000 in
set_option maxRecDepth 100000 in
theorem joins_many {x : En} {cs : List Value} {w : World} (h : kEn.K w x cs) (hf : fewB x = false) (at_ : Int) : Calls Try.prog 6 #[.agg cs.toArray, .int .i64 at_] w fun e w' => e = .returned (.bool true) ∧ Below w.heap.size w w' := by
  obtain ⟨A, c, rfl, ht, hc, hr⟩ := kEn_open h
  have HT := Aside0.mk ht
  have HC := Aside0.mk hc
  have HR := Aside0.mk hr
  have HFW := Aside0.mk hf
  clear h ht hc hr
  clear hf
  go_enter Try.func6, Try.ntmps6
  go_wp2_with (first | ((with_reducible refine gate_dst (N := 2) rfl ?_); refine wpList_box rfl 26 (.tmp 0) rfl (enV x A c) rfl ?_; intro w1 hk hb hs; have E := Aside0.mk (EnAt.mk hk HT.out HC.out (Kd.C_below HR.out hb)); have HB := Aside0.mk hb; have HZZ := Aside0.mk hs; have z0 := E.out.cell (enV_0 x _ _); have z1 := E.out.cell (enV_1 x _ _); have z34 := E.out.cell (enV_34 x _ _ HT.out); clear hk hb hs) | ((with_reducible refine gate_dst (N := 17) rfl ?_); refine load_en rfl (.tmp 2) rfl w.heap.size rfl E.out ?_) | (go_at_call 7; with_reducible refine (few_calls E.out.K _ HFW.out).mono ?_; rintro e w2 ⟨rfl, hb⟩; have nB_ := Aside0.mk (below_step HB.out hb); have nE_ := Aside0.mk (E.out.below hb); clear HB E z0 z1 z34 hb; have HB := nB_; have E := nE_; clear nB_ nE_; have z0 := E.out.cell (enV_0 x _ _); have z1 := E.out.cell (enV_1 x _ _); have z34 := E.out.cell (enV_34 x _ _ HT.out)) | (go_at_call 8; with_reducible refine (awake_calls _).mono ?_; rintro e w9 ⟨rfl, hb⟩; have HB9 := Aside0.mk (below_step HB.out hb); clear hb))
  go_ret
  exact ⟨rfl, HB9.out⟩
set_option maxHeartbeats 4000000 in
set_option maxRecDepth 100000 in
theorem joins_err {x : En} {cs : List Value} {w : World} (h : kEn.K w x cs) (hf : fewB x = true) (at_ : Int) (he : (sizeP x).2 ≠ 0) : Calls Try.prog 6 #[.agg cs.toArray, .int .i64 at_] w fun e w' => e = .returned (.bool true) ∧ Below w.heap.size w w' := by
  obtain ⟨A, c, rfl, ht, hc, hr⟩ := kEn_open h
  have HT := Aside0.mk ht
  have HC := Aside0.mk hc
  have HR := Aside0.mk hr
  have HFW := Aside0.mk hf
  clear h ht hc hr
  have HSZ := Aside0.mk (few_sz hf)
  have HSP := Aside0.mk (show sizeP x = ((sizeP x).1, (sizeP x).2) from rfl)
  have b1 : ((sizeP x).2 != 0) = true := bne_iff_ne.mpr he
  have b2 : ((sizeP x).2 == 0) = false := beq_eq_false_iff_ne.mpr he
  clear hf he
  go_enter Try.func6, Try.ntmps6
  go_wp2_with (first | ((with_reducible refine gate_dst (N := 2) rfl ?_); refine wpList_box rfl 26 (.tmp 0) rfl (enV x A c) rfl ?_; intro w1 hk hb hs; have E := Aside0.mk (EnAt.mk hk HT.out HC.out (Kd.C_below HR.out hb)); have HB := Aside0.mk hb; have HZZ := Aside0.mk hs; have z0 := E.out.cell (enV_0 x _ _); have z1 := E.out.cell (enV_1 x _ _); have z34 := E.out.cell (enV_34 x _ _ HT.out); clear hk hb hs) | ((with_reducible refine gate_dst (N := 17) rfl ?_); refine load_en rfl (.tmp 2) rfl w.heap.size rfl E.out ?_) | ((with_reducible refine gate_dst (N := 22) rfl ?_); refine load_en rfl (.tmp 2) rfl w.heap.size rfl E.out ?_) | (go_at_call 7; with_reducible refine (few_calls E.out.K true HFW.out).mono ?_; rintro e w2 ⟨rfl, hb⟩; have nB_ := Aside0.mk (below_step HB.out hb); have nE_ := Aside0.mk (E.out.below hb); clear HB E z0 z1 z34 hb; have HB := nB_; have E := nE_; clear nB_ nE_; have z0 := E.out.cell (enV_0 x _ _); have z1 := E.out.cell (enV_1 x _ _); have z34 := E.out.cell (enV_34 x _ _ HT.out)) | (go_at_call 9; with_reducible refine (tsize_calls E.out.K HSZ.out).mono ?_; rintro e w3 ⟨rfl, hb⟩; have nB_ := Aside0.mk (below_step HB.out hb); have nE_ := Aside0.mk (E.out.below hb); clear HB E z0 z1 z34 hb; have HB := nB_; have E := nE_; clear nB_ nE_; have z0 := E.out.cell (enV_0 x _ _); have z1 := E.out.cell (enV_1 x _ _); have z34 := E.out.cell (enV_34 x _ _ HT.out)) | (go_at_call 8; with_reducible refine (awake_calls _).mono ?_; rintro e w9 ⟨rfl, hb⟩; have HB9 := Aside0.mk (below_step HB.out hb); clear hb))
  go_ret
  exact ⟨rfl, HB9.out⟩
theorem uat_bd (at_ S : Int) (h0 : 0 ≤ S) (h1 : S ≤ 9223372036854775807) : 0 ≤ wrap64 ((IntKind.u64.wrap at_).tmod (S + 1)) ∧ wrap64 ((IntKind.u64.wrap at_).tmod (S + 1)) ≤ S := by
  have hu : 0 ≤ IntKind.u64.wrap at_ := by
    simp [IntKind.wrap, IntKind.signed, IntKind.bits]
    exact Int.emod_nonneg _ (by decide)
  have h2 := Int.tmod_nonneg (S + 1) hu
  have h3 := Int.tmod_lt_of_pos (IntKind.u64.wrap at_) (show 0 < S + 1 by omega)
  generalize (IntKind.u64.wrap at_).tmod (S + 1) = t at *
  rw [n64 (by omega) (by omega)]
  omega
theorem slL_join {k S : Int} (F : List Int) (h0 : 0 ≤ k) (h1 : k ≤ S) (hl : (F.length : Int) = S) : slL 0 k 0 F ++ slL k (S - k) 0 F = F := by
  unfold slL
  rw [show ((0 : Int) - 0).toNat = 0 by omega, List.drop_zero, show (0 + k - max 0 0).toNat = k.toNat by omega, show (k - 0).toNat = k.toNat by omega, show (k + (S - k) - max 0 k).toNat = S.toNat - k.toNat by omega]
  rw [List.take_of_length_le (l := F.drop k.toNat) (by rw [List.length_drop]; omega), List.take_append_drop]
theorem slL_all {S : Int} (F : List Int) (hl : (F.length : Int) = S) : slL 0 S 0 F = F := by
  unfold slL
  rw [show ((0 : Int) - 0).toNat = 0 by omega, List.drop_zero, List.take_of_length_le (by omega)]
theorem own_lt' {B : Nat} {W : World} {V : Value} {acc : List Int} (h : Kd.R (Kd.int .u8) 5 W B (fun _ => True) V acc) : ∀ k, V.ownBlock = some k → k < W.heap.size := by
  obtain ⟨inner, hown⟩ := Kd.R_own h
  exact fun k hk => own_lt hown k hk
set_option maxHeartbeats 4000000 in
set_option maxRecDepth 100000 in
theorem joins_ok {x : En} {cs : List Value} {w : World} (h : kEn.K w x cs) (hf : fewB x = true) (at_ : Int) (ha : -9223372036854775808 ≤ at_ ∧ at_ ≤ 9223372036854775807) (hs : (sizeP x).2 = 0) : Calls Try.prog 6 #[.agg cs.toArray, .int .i64 at_] w fun e w' => e = .returned (.bool true) ∧ Below w.heap.size w w' := by
  obtain ⟨A, c, rfl, ht, hc, hr⟩ := kEn_open h
  have HT := Aside0.mk ht
  have HC := Aside0.mk hc
  have HR := Aside0.mk hr
  have HFW := Aside0.mk hf
  clear h ht hc hr
  have HSZ := Aside0.mk (few_sz hf)
  obtain ⟨hfine, hd, hn⟩ := size_ok hs
  have HFI := Aside0.mk hfine
  have HSE := Aside0.mk hs
  have hsb := sum_bd hfine
  obtain ⟨S, hS⟩ : ∃ S, S = sumN x.ps := ⟨_, rfl⟩
  rw [← hS] at hsb hn
  have HSP := Aside0.mk (show sizeP x = (S, 0) from Prod.ext hn hs)
  have HSS := Aside0.mk hS
  clear hf hs hfine hd hn hS
  go_enter Try.func6, Try.ntmps6
  go_wp2_with (first | ((with_reducible refine gate_dst (N := 2) rfl ?_); refine wpList_box rfl 26 (.tmp 0) rfl (enV x A c) rfl ?_; intro w1 hk hb hs; have E := Aside0.mk (EnAt.mk hk HT.out HC.out (Kd.C_below HR.out hb)); have HB := Aside0.mk hb; have HZZ := Aside0.mk hs; have z0 := E.out.cell (enV_0 x _ _); have z1 := E.out.cell (enV_1 x _ _); have z34 := E.out.cell (enV_34 x _ _ HT.out); clear hk hb hs) | ((with_reducible refine gate_dst (N := 17) rfl ?_); refine load_en rfl (.tmp 2) rfl w.heap.size rfl E.out ?_) | ((with_reducible refine gate_dst (N := 22) rfl ?_); refine load_en rfl (.tmp 2) rfl w.heap.size rfl E.out ?_) | ((with_reducible refine gate_dst (N := 38) rfl ?_); refine load_en rfl (.tmp 2) rfl w.heap.size rfl E.out ?_) | (go_at_call 7; with_reducible refine (few_calls E.out.K true HFW.out).mono ?_; rintro e w2 ⟨rfl, hb⟩; have nB_ := Aside0.mk (below_step HB.out hb); have nE_ := Aside0.mk (E.out.below hb); clear HB E z0 z1 z34 hb; have HB := nB_; have E := nE_; clear nB_ nE_; have z0 := E.out.cell (enV_0 x _ _); have z1 := E.out.cell (enV_1 x _ _); have z34 := E.out.cell (enV_34 x _ _ HT.out)) | (go_at_call 9; with_reducible refine (tsize_calls E.out.K HSZ.out).mono ?_; rw [HSP.out]; rintro e w3 ⟨rfl, hb⟩; have nB_ := Aside0.mk (below_step HB.out hb); have nE_ := Aside0.mk (E.out.below hb); clear HB E z0 z1 z34 hb; have HB := nB_; have E := nE_; clear nB_ nE_; have z0 := E.out.cell (enV_0 x _ _); have z1 := E.out.cell (enV_1 x _ _); have z34 := E.out.cell (enV_34 x _ _ HT.out)))
  obtain ⟨k, hk⟩ : ∃ k, k = wrap64 ((IntKind.u64.wrap at_).tmod (S + 1)) := ⟨_, rfl⟩
  have hkb : 0 ≤ k ∧ k ≤ S := by rw [hk]; exact uat_bd at_ S hsb.1 (by omega)
  rw [← hk]
  have hwk : wrap64 (S - k) = S - k := n64 (by omega) (by omega)
  have HF0 := Aside0.mk (fullL_len x.ps 0 HFI.out.2.2.1)
  have hfl : ((fullL 0 x.ps).length : Int) = S := by rw [HF0.out, HSS.out]
  have HAB := Aside0.mk (show slL 0 k 0 (fullL 0 x.ps) ++ slL k (S - k) 0 (fullL 0 x.ps) = fullL 0 x.ps from slL_join _ hkb.1 hkb.2 hfl)
  have HCC := Aside0.mk (show slL 0 S 0 (fullL 0 x.ps) = fullL 0 x.ps from slL_all _ hfl)
  have HJ1 := Aside0.mk (fun (wC : World) (hb : Below w.heap.size w wC) (E : EnAt wC w.heap.size x A c) => join_law (c0 := 0) (m := k) HR.out hb E HFW.out HSE.out (Int.le_refl _) hkb.1 (by rw [← HSS.out]; omega))
  have HJ2 := Aside0.mk (fun (wC : World) (hb : Below w.heap.size w wC) (E : EnAt wC w.heap.size x A c) => join_law (c0 := k) (m := S - k) HR.out hb E HFW.out HSE.out hkb.1 (by omega) (by rw [← HSS.out]; omega))
  have HJ3 := Aside0.mk (fun (wC : World) (hb : Below w.heap.size w wC) (E : EnAt wC w.heap.size x A c) => join_law (c0 := 0) (m := S) HR.out hb E HFW.out HSE.out (Int.le_refl _) hsb.1 (by rw [← HSS.out]; omega))
  have HXL := Aside0.mk (of_decide_eq_true HFW.out : x.nm.size ≤ 1000 ∧ x.ps.length ≤ 300)
  have HFL := Aside0.mk hfl
  have HSB := Aside0.mk hsb
  clear hk hkb hfl HF0 hsb ha
  go_at_call 17
  (with_reducible refine (HJ1.out _ HB.out E.out).mono ?_)
  rintro e w4 ⟨Va, rfl, hv, hb⟩
  have HA := Aside0.mk (Kd.R_lower hv HB.out.size)
  clear hv
  have nB_ := Aside0.mk (below_step HB.out hb); have nE_ := Aside0.mk (E.out.below hb); clear HB E z0 z1 z34 hb; have HB := nB_; have E := nE_; clear nB_ nE_; have z0 := E.out.cell (enV_0 x _ _); have z1 := E.out.cell (enV_1 x _ _); have z34 := E.out.cell (enV_34 x _ _ HT.out)
  go_wp2_with (first | ((with_reducible refine gate_dst (N := 45) rfl ?_); refine load_en rfl (.tmp 2) rfl w.heap.size rfl E.out ?_))
  go_at_call 17
  (with_reducible refine (HJ2.out _ HB.out E.out).mono ?_)
  rintro e w5 ⟨Vb, rfl, hv, hb⟩
  have HBB := Aside0.mk (Kd.R_lower hv HB.out.size)
  have nA_ := Aside0.mk (Kd.R_below HA.out hb)
  clear hv HA
  have HA := nA_
  clear nA_
  have nB_ := Aside0.mk (below_step HB.out hb); have nE_ := Aside0.mk (E.out.below hb); clear HB E z0 z1 z34 hb; have HB := nB_; have E := nE_; clear nB_ nE_; have z0 := E.out.cell (enV_0 x _ _); have z1 := E.out.cell (enV_1 x _ _); have z34 := E.out.cell (enV_34 x _ _ HT.out)
  go_wp2_with (first | ((with_reducible refine gate_dst (N := 55) rfl ?_); refine load_en rfl (.tmp 2) rfl w.heap.size rfl E.out ?_))
  go_at_call 17
  (with_reducible refine (HJ3.out _ HB.out E.out).mono ?_)
  rintro e w6 ⟨Vc, rfl, hv, hb⟩
  have HCV := Aside0.mk hv
  have HAK := Aside0.mk (own_lt' HA.out)
  have HSZ5 := Aside0.mk hb.size
  have nA_ := Aside0.mk (Kd.R_below HA.out hb)
  have nB9_ := Aside0.mk (Kd.R_below HBB.out hb)
  clear hv HA HBB
  have HA := nA_
  have HBB := nB9_
  clear nA_ nB9_ HJ1 HJ2 HJ3
  have nB_ := Aside0.mk (below_step HB.out hb); have nE_ := Aside0.mk (E.out.below hb); clear HB E z0 z1 z34 hb; have HB := nB_; have E := nE_; clear nB_ nE_; have z0 := E.out.cell (enV_0 x _ _); have z1 := E.out.cell (enV_1 x _ _); have z34 := E.out.cell (enV_34 x _ _ HT.out)
  generalize slL 0 k 0 (fullL 0 x.ps) = ta at *
  generalize slL k (S - k) 0 (fullL 0 x.ps) = tb at *
  have nC_ := Aside0.mk (R_as HCV.out (fullL 0 x.ps) HCC.out.symm)
  clear HCV HCC
  have HCV := nC_
  clear nC_
  have hlx := HXL.out.2
  go_wp2
  have E6 := Aside0.mk E.out
  have HBQ := Aside0.mk HB.out
  clear E HB z0 z1 z34
  have HO := Aside0.mk (Kd.R_nil (Kd.int .u8) 5 w6 w6.heap.size (fun _ => True))
  go_loopw [15, 64] (fun v15 v64 wr => ∃ (i : Nat) (done : List Int), i ≤ x.ps.length ∧ v64 = .int .i64 (i : Int) ∧ Aside0 (done.length ≤ 4096 * i) ∧ Aside0 (done = fullL 0 (x.ps.take i)) ∧ Aside0 (Kd.R (Kd.int .u8) 5 wr w6.heap.size (fun _ => True) v15 done) ∧ Aside0 (Below w6.heap.size w6 wr)) (fun _ v64 _ => x.ps.length - (intOf v64).toNat)
  case atStart => exact ⟨0, [], Nat.zero_le _, rfl, ⟨Nat.zero_le _⟩, ⟨rfl⟩, HO, ⟨Below.refl _ _⟩⟩
  case round =>
    obtain ⟨i, done, hi, rfl, HDL, HDN, HOn, HB6⟩ := hrel
    clear HO
    have HO := HOn
    clear HOn
    obtain ⟨Vw, rfl⟩ : ∃ V, V = u15 := ⟨_, rfl⟩
    by_cases hlt : i < x.ps.length
    · have hltb : decide ((i : Int) < (x.ps.length : Int)) = true := decide_eq_true (lt_lt hlt)
      have hkn := HFI.out.2.2.1 _ (rdPc_mem hlt)
      unfold okN at hkn
      obtain ⟨n, hn⟩ : ∃ n : Nat, (rdPc x.ps i).n = n := ⟨_, (Int.toNat_of_nonneg (by omega)).symm⟩
      rw [hn] at hkn
      have HPC := Aside0.mk (fun (W : World) (h : EnAt W w.heap.size x A c) => piece_calls h.K i n hlt hlx hn (by omega))
      have HQ := Aside0.mk (show done ++ pieceB i n = fullL 0 (x.ps.take (i + 1)) by
        rw [take_rdPc hlt, fullL_snoc, ← HDN.out, List.length_take, show 0 + min i x.ps.length = i by omega, hn, Int.toNat_natCast])
      have hpl := pieceB_len i n
      have hdl := HDL.out
      generalize pieceB i n = pb at *
      have HLA := Aside0.mk (show (done.length + pb.length) * 1 ≤ 140737488355328 by omega)
      have HDL2 := Aside0.mk (show (done ++ pb).length ≤ 4096 * (i + 1) by rw [List.length_append]; omega)
      have E := Aside0.mk (E6.out.below HB6.out)
      have hwi : wrap64 ((i : Int) + 1) = (i : Int) + 1 := n64 (by omega) (by omega)
      clear hkn hn hpl hdl
      go_wp2_with (first | ((with_reducible refine gate_dst (N := 68) rfl ?_); refine load_en rfl (.tmp 2) rfl w.heap.size rfl E.out ?_) | (go_at_call 16; (with_reducible refine (HPC.out _ E.out).mono ?_); rintro e w7 ⟨V7, rfl, hv, hb⟩; obtain ⟨A7, c7, rfl⟩ := Kd.R_slice hv; have HSL := Aside0.mk (Kd.R_reads' hv).2.2; have nO_ := Aside0.mk (Kd.R_below HO.out hb); have nB_ := Aside0.mk (below_step HB6.out hb); clear hv HO HB6 E hb; have HO := nO_; have HB6 := nB_; clear nO_ nB_) | ((with_reducible refine gate_builtin (b := .append) (xs := #[.tmp 67, .tmp 70]) rfl ?_); at_builtin; refine Kd.R_append_rows (Kd.int .u8) (w0 := w6) w6.heap.size rfl (.tmp 67) (.tmp 70) 53 5 (.int .u8 0) 1 rfl Try.underlying53 info5 rfl Nat.zero_lt_one Nat.zero_lt_one Vw done pb _ _ _ (fun _ => True) (fun _ => False) rfl rfl ?aO ?aR (fun _ _ h => h) (fun _ h => h.elim) ?aF ?aB ?aS ?aL ?_; (case aR => exact HSL.out); (case aB => exact HB6.out); (case aF => exact (fun _ _ => trivial)); (case aO => exact HO.out); (case aS => exact HB6.out.size); (case aL => exact HLA.out); intro V9 w9 ho hb hg hat; have n0_ := Aside0.mk hb; have n1_ := Aside0.mk ho; clear HB6 HO hb ho hg hat; have HB6 := n0_; have HO := n1_; clear n0_ n1_))
      go_roundw
      case rel => exact ⟨i + 1, done ++ pb, hlt, by go_num, HDL2, HQ, HO, HB6⟩
      case measure => simp [intOf]; exact left_lt hlt
    · obtain rfl : i = x.ps.length := by omega
      have hltb : decide ((x.ps.length : Int) < (x.ps.length : Int)) = false := decide_eq_false (Int.lt_irrefl _)
      have hq := HDN.out
      rw [List.take_length] at hq
      have nO_ := Aside0.mk (R_as HO.out (fullL 0 x.ps) hq.symm)
      have nA_ := Aside0.mk (Kd.R_below HA.out HB6.out)
      have nB_ := Aside0.mk (Kd.R_below HBB.out HB6.out)
      have nC_ := Aside0.mk (Kd.R_below HCV.out HB6.out)
      have HBW := Aside0.mk (below_step HBQ.out HB6.out)
      have HLE := Aside0.mk (show w5.heap.size ≤ w6.heap.size from HSZ5.out)
      clear HO HA HBB HCV hq HDN HDL
      have HO := nO_
      have HA := nA_
      have HBB := nB_
      have HCV := nC_
      clear nO_ nA_ nB_ nC_
      have hab := HAB.out
      have hfl := HFL.out
      have HLA := Aside0.mk (show (ta.length + tb.length) * 1 ≤ 140737488355328 by rw [← hab, List.length_append] at hfl; have := HSB.out; omega)
      generalize fullL 0 x.ps = F at *
      clear hab hfl
      obtain ⟨Aa, ca, rfl⟩ := Kd.R_slice HA.out
      obtain ⟨Ab, cb, rfl⟩ := Kd.R_slice HBB.out
      obtain ⟨Ac, cc, rfl⟩ := Kd.R_slice HCV.out
      obtain ⟨Aw, cw, rfl⟩ := Kd.R_slice HO.out
      go_wp2
      have HBW0 := Aside0.mk (below_drew1 HBW.out)
      refine start_ (n := 30) (S := fun w' => (convert 53 9 (.slice Ac F.length cc)).run Try.prog w' = .ok (.string (strOfNums F)) w' ∧ (convert 53 9 (.slice Aw F.length cw)).run Try.prog w' = .ok (.string (strOfNums F)) w') (ds := []) #[false, false, false, false, false, false, false, false, false, false, false, false, false, false, false, false, false, false, false, false, false, false, false, false, false, false, false, false, false, false] (by kernel_rfl) rfl rfl ⟨conv_strU (Rd.own (Kd.R_drew HCV.out)), conv_strU (Rd.own (Kd.R_drew HO.out))⟩ (fun hHeld => ?_)
      refine pure_ (i := 0) (N := some 73) (v := ?_) (a' := ?_) #[true, false, false, false, false, false, false, false, false, false, false, false, false, false, false, false, false, false, false, false, false, false, false, false, false, false, false, false, false, false] rfl rfl (by kernel_rfl) (fun _ _ _ h => h) (Or.inl ⟨by rfl, ?_⟩) ?_ ?_
      rotate_left
      · intro w'
        go_simp
        with_reducible rfl
      rotate_left
      · simp only [Act.put, List.setIfInBounds_toArray, List.set_cons_zero, List.set_cons_succ, i64_w, i32_w]
        rfl
      refine pure_ (i := 1) (N := some 74) (v := ?_) (a' := ?_) #[true, true, false, false, false, false, false, false, false, false, false, false, false, false, false, false, false, false, false, false, false, false, false, false, false, false, false, false, false, false] rfl rfl (by kernel_rfl) (fun _ _ _ h => h) (Or.inl ⟨by rfl, ?_⟩) ?_ ?_
      rotate_left
      · intro w'
        go_simp
        with_reducible rfl
      rotate_left
      · simp only [Act.put, List.setIfInBounds_toArray, List.set_cons_zero, List.set_cons_succ, i64_w, i32_w]
        rfl
      refine pure_ (i := 2) (N := some 75) (v := ?_) (a' := ?_) #[true, true, true, false, false, false, false, false, false, false, false, false, false, false, false, false, false, false, false, false, false, false, false, false, false, false, false, false, false, false] rfl rfl (by kernel_rfl) (fun _ _ _ h => h) (Or.inl ⟨by rfl, ?_⟩) ?_ ?_
      rotate_left
      · intro w'
        go_simp
        with_reducible rfl
      rotate_left
      · simp only [Act.put, List.setIfInBounds_toArray, List.set_cons_zero, List.set_cons_succ, i64_w, i32_w]
        rfl
      refine pure_ (i := 3) (N := some 76) (v := ?_) (a' := ?_) #[true, true, true, true, false, false, false, false, false, false, false, false, false, false, false, false, false, false, false, false, false, false, false, false, false, false, false, false, false, false] rfl rfl (by kernel_rfl) (fun _ _ _ h => h) (Or.inl ⟨by rfl, ?_⟩) ?_ ?_
      rotate_left
      · intro w'
        go_simp
        with_reducible rfl
      rotate_left
      · simp only [Act.put, List.setIfInBounds_toArray, List.set_cons_zero, List.set_cons_succ, i64_w, i32_w]
        rfl
      refine pure_ (i := 4) (N := some 77) (v := ?_) (a' := ?_) #[true, true, true, true, true, false, false, false, false, false, false, false, false, false, false, false, false, false, false, false, false, false, false, false, false, false, false, false, false, false] rfl rfl (by kernel_rfl) (fun _ _ _ h => h) (Or.inl ⟨by rfl, ?_⟩) ?_ ?_
      rotate_left
      · intro w'
        go_simp
        with_reducible rfl
      rotate_left
      · simp only [Act.put, List.setIfInBounds_toArray, List.set_cons_zero, List.set_cons_succ, i64_w, i32_w]
        rfl
      refine pure_ (i := 5) (N := some 78) (v := ?_) (a' := ?_) #[true, true, true, true, true, true, false, false, false, false, false, false, false, false, false, false, false, false, false, false, false, false, false, false, false, false, false, false, false, false] rfl rfl (by kernel_rfl) (fun _ _ _ h => h) (Or.inl ⟨by rfl, ?_⟩) ?_ ?_
      rotate_left
      · intro w'
        go_simp
        with_reducible rfl
      rotate_left
      · simp only [Act.put, List.setIfInBounds_toArray, List.set_cons_zero, List.set_cons_succ, i64_w, i32_w]
        rfl
      refine pure_ (i := 6) (N := some 79) (v := ?_) (a' := ?_) #[true, true, true, true, true, true, true, false, false, false, false, false, false, false, false, false, false, false, false, false, false, false, false, false, false, false, false, false, false, false] rfl rfl (by kernel_rfl) (fun _ _ _ h => h) (Or.inl ⟨by rfl, ?_⟩) ?_ ?_
      rotate_left
      · intro w'
        go_simp
        with_reducible rfl
      rotate_left
      · simp only [Act.put, List.setIfInBounds_toArray, List.set_cons_zero, List.set_cons_succ, i64_w, i32_w]
        rfl
      refine pure_ (i := 7) (N := some 80) (v := ?_) (a' := ?_) #[true, true, true, true, true, true, true, true, false, false, false, false, false, false, false, false, false, false, false, false, false, false, false, false, false, false, false, false, false, false] rfl rfl (by kernel_rfl) (fun _ _ _ h => h) (Or.inl ⟨by rfl, ?_⟩) ?_ ?_
      rotate_left
      · intro w'
        go_simp
        with_reducible rfl
      rotate_left
      · simp only [Act.put, List.setIfInBounds_toArray, List.set_cons_zero, List.set_cons_succ, i64_w, i32_w]
        rfl
      refine pure_ (i := 8) (N := some 81) (v := ?_) (a' := ?_) #[true, true, true, true, true, true, true, true, true, false, false, false, false, false, false, false, false, false, false, false, false, false, false, false, false, false, false, false, false, false] rfl rfl (by kernel_rfl) (fun _ _ _ h => h) (Or.inl ⟨by rfl, ?_⟩) ?_ ?_
      rotate_left
      · intro w'
        go_simp
        with_reducible rfl
      rotate_left
      · simp only [Act.put, List.setIfInBounds_toArray, List.set_cons_zero, List.set_cons_succ, i64_w, i32_w]
        rfl
      refine pure_ (i := 9) (N := some 82) (v := ?_) (a' := ?_) #[true, true, true, true, true, true, true, true, true, true, false, false, false, false, false, false, false, false, false, false, false, false, false, false, false, false, false, false, false, false] rfl rfl (by kernel_rfl) (fun _ _ _ h => h) (Or.inl ⟨by rfl, ?_⟩) ?_ ?_
      rotate_left
      · intro w'
        go_simp
        with_reducible rfl
      rotate_left
      · simp only [Act.put, List.setIfInBounds_toArray, List.set_cons_zero, List.set_cons_succ, i64_w, i32_w]
        rfl
      refine pure_ (i := 10) (N := some 83) (v := ?_) (a' := ?_) #[true, true, true, true, true, true, true, true, true, true, true, false, false, false, false, false, false, false, false, false, false, false, false, false, false, false, false, false, false, false] rfl rfl (by kernel_rfl) (fun _ _ _ h => h) (Or.inl ⟨by rfl, ?_⟩) ?_ ?_
      rotate_left
      · intro w'
        go_simp
        with_reducible rfl
      rotate_left
      · simp only [Act.put, List.setIfInBounds_toArray, List.set_cons_zero, List.set_cons_succ, i64_w, i32_w]
        rfl
      refine pure_ (i := 11) (N := some 84) (v := ?_) (a' := ?_) #[true, true, true, true, true, true, true, true, true, true, true, true, false, false, false, false, false, false, false, false, false, false, false, false, false, false, false, false, false, false] rfl rfl (by kernel_rfl) (fun _ _ _ h => h) (Or.inl ⟨by rfl, ?_⟩) ?_ ?_
      rotate_left
      · intro w'
        go_simp
        with_reducible rfl
      rotate_left
      · simp only [Act.put, List.setIfInBounds_toArray, List.set_cons_zero, List.set_cons_succ, i64_w, i32_w]
        rfl
      refine pure_ (i := 12) (N := some 85) (v := ?_) (a' := ?_) #[true, true, true, true, true, true, true, true, true, true, true, true, true, false, false, false, false, false, false, false, false, false, false, false, false, false, false, false, false, false] rfl rfl (by kernel_rfl) (fun _ _ _ h => h) (Or.inl ⟨by rfl, ?_⟩) ?_ ?_
      rotate_left
      · intro w'
        go_simp
        with_reducible rfl
      rotate_left
      · simp only [Act.put, List.setIfInBounds_toArray, List.set_cons_zero, List.set_cons_succ, i64_w, i32_w]
        rfl
      refine pure_ (i := 15) (N := some 88) (v := ?_) (a' := ?_) #[true, true, true, true, true, true, true, true, true, true, true, true, true, false, false, true, false, false, false, false, false, false, false, false, false, false, false, false, false, false] rfl rfl (by kernel_rfl) (fun _ _ _ h => h) (Or.inl ⟨by rfl, ?_⟩) ?_ ?_
      rotate_left
      · intro w'
        go_simp
        with_reducible rfl
      rotate_left
      · simp only [Act.put, List.setIfInBounds_toArray, List.set_cons_zero, List.set_cons_succ, i64_w, i32_w]
        rfl
      refine take_ (i := 16) (N := some 89) (v := ?_) (a' := ?_) #[true, true, true, true, true, true, true, true, true, true, true, true, true, false, false, true, true, false, false, false, false, false, false, false, false, false, false, false, false, false] rfl rfl (by kernel_rfl) (fun _ _ _ h => h) (Or.inl ⟨by rfl, ?_⟩) hHeld ?_ ?_
      rotate_left
      · rintro w' ⟨s0, s1⟩
        go_simp
        with_reducible rfl
      rotate_left
      · simp only [Act.put, List.setIfInBounds_toArray, List.set_cons_zero, List.set_cons_succ, i64_w, i32_w]
        rfl
      refine one_ (i := 13) (N := some 86) #[true, true, true, true, true, true, true, true, true, true, true, true, true, true, false, true, true, false, false, false, false, false, false, false, false, false, false, false, false, false] rfl rfl (by kernel_rfl) (by decide) (fun K hK => ?_)
      refine Kd.R_append_rows_step (Kd.int .u8) (w0 := w) w.heap.size (by rfl) (.tmp 84) (.tmp 85) 53 5 (.int .u8 0) 1 rfl Try.underlying53 info5 rfl Nat.zero_lt_one Nat.zero_lt_one (.slice Aa ta.length ca) ta tb _ _ _ (fun _ => True) (fun _ => False) rfl rfl ?aO ?aR (fun _ _ h => h) (fun _ h => h.elim) ?aF ?aB ?aS ?aL ?_
      case aR => exact Kd.C_below (Kd.R_reads' HBB.out).2.2 (below_drew1 (Below.refl _ _))
      case aB => exact HBW0.out
      case aF => exact (fun _ _ => trivial)
      case aO => exact Kd.R_drew HA.out
      case aS => exact HBW0.out.size
      case aL => exact HLA.out
      intro V10 w10 ho hb9 hg hat
      rw [HAB.out] at ho
      obtain ⟨A10, c10, rfl⟩ := Kd.R_slice ho
      have nC_ := Aside0.mk (Kd.R_mono (Kd.R_grown (Kd.R_bound (Kd.R_drew HCV.out)) hg (fun q hq e9 => by have := HAK.out q e9.symm; have := hq.2.1; omega)) (fun _ _ => trivial : ∀ k, _ → True))
      have nO_ := Aside0.mk (Kd.R_mono (Kd.R_grown (Kd.R_bound (Kd.R_drew HO.out)) hg (fun q hq e9 => by have := HAK.out q e9.symm; have := hq.2.1; have := HLE.out; omega)) (fun _ _ => trivial : ∀ k, _ → True))
      have HV10 := Aside0.mk ho
      have HBE := Aside0.mk hb9
      clear HCV HO HA HBB ho hb9 hg hat
      have HCV := nC_
      have HO := nO_
      clear nC_ nO_
      have cv10 := conv_strU (Rd.own HV10.out)
      refine hK.out _ _ ⟨conv_strU (Rd.own HCV.out), conv_strU (Rd.own HO.out)⟩ (fun hHeld => ?_)
      clear hK K
      refine norm_ (a' := ?_) ?_ ?_
      rotate_left
      · show Act.put _ (some 86) _ = _
        simp only [Act.put, List.setIfInBounds_toArray, List.set_cons_zero, List.set_cons_succ, i64_w, i32_w]
        rfl
      refine one_ (i := 14) (N := some 87) #[true, true, true, true, true, true, true, true, true, true, true, true, true, true, true, true, true, false, false, false, false, false, false, false, false, false, false, false, false, false] rfl rfl (by kernel_rfl) (by decide) (fun K hK => ?_)
      refine value_ (w1 := ?_) (v := ?_) (by rfl) rfl ?_ ?_
      rotate_left 2
      · go_simp
        constructor
        · rfl
        · rfl
      refine hK.out _ _ ⟨conv_strU (Rd.own HCV.out), conv_strU (Rd.own HO.out)⟩ (fun hHeld => ?_)
      clear hK K
      refine norm_ (a' := ?_) ?_ ?_
      rotate_left
      · show Act.put _ (some 87) _ = _
        simp only [Act.put, List.setIfInBounds_toArray, List.set_cons_zero, List.set_cons_succ, i64_w, i32_w]
        rfl
      refine pure_ (i := 17) (N := some 90) (v := ?_) (a' := ?_) #[true, true, true, true, true, true, true, true, true, true, true, true, true, true, true, true, true, true, false, false, false, false, false, false, false, false, false, false, false, false] rfl rfl (by kernel_rfl) (fun _ _ _ h => h) (Or.inl ⟨by rfl, ?_⟩) ?_ ?_
      rotate_left
      · intro w'
        go_simp
        with_reducible rfl
      rotate_left
      · simp only [Act.put, List.setIfInBounds_toArray, List.set_cons_zero, List.set_cons_succ, i64_w, i32_w]
        rfl
      refine pure_ (i := 18) (N := some 91) (v := ?_) (a' := ?_) #[true, true, true, true, true, true, true, true, true, true, true, true, true, true, true, true, true, true, true, false, false, false, false, false, false, false, false, false, false, false] rfl rfl (by kernel_rfl) (fun _ _ _ h => h) (Or.inl ⟨by rfl, ?_⟩) ?_ ?_
      rotate_left
      · intro w'
        go_simp
        with_reducible rfl
      rotate_left
      · simp only [Act.put, List.setIfInBounds_toArray, List.set_cons_zero, List.set_cons_succ, i64_w, i32_w]
        rfl
      refine pure_ (i := 19) (N := some 92) (v := ?_) (a' := ?_) #[true, true, true, true, true, true, true, true, true, true, true, true, true, true, true, true, true, true, true, true, false, false, false, false, false, false, false, false, false, false] rfl rfl (by kernel_rfl) (fun _ _ _ h => h) (Or.inl ⟨by rfl, ?_⟩) ?_ ?_
      rotate_left
      · intro w'
        go_simp
        with_reducible rfl
      rotate_left
      · simp only [Act.put, List.setIfInBounds_toArray, List.set_cons_zero, List.set_cons_succ, i64_w, i32_w]
        rfl
      refine pure_ (i := 20) (N := some 93) (v := ?_) (a' := ?_) #[true, true, true, true, true, true, true, true, true, true, true, true, true, true, true, true, true, true, true, true, true, false, false, false, false, false, false, false, false, false] rfl rfl (by kernel_rfl) (fun _ _ _ h => h) (Or.inl ⟨by rfl, ?_⟩) ?_ ?_
      rotate_left
      · intro w'
        go_simp
        with_reducible rfl
      rotate_left
      · simp only [Act.put, List.setIfInBounds_toArray, List.set_cons_zero, List.set_cons_succ, i64_w, i32_w]
        rfl
      refine pure_ (i := 22) (N := some 95) (v := ?_) (a' := ?_) #[true, true, true, true, true, true, true, true, true, true, true, true, true, true, true, true, true, true, true, true, true, false, true, false, false, false, false, false, false, false] rfl rfl (by kernel_rfl) (fun _ _ _ h => h) (Or.inl ⟨by rfl, ?_⟩) ?_ ?_
      rotate_left
      · intro w'
        go_simp
        with_reducible rfl
      rotate_left
      · simp only [Act.put, List.setIfInBounds_toArray, List.set_cons_zero, List.set_cons_succ, i64_w, i32_w]
        rfl
      refine take_ (i := 21) (N := some 94) (v := ?_) (a' := ?_) #[true, true, true, true, true, true, true, true, true, true, true, true, true, true, true, true, true, true, true, true, true, true, true, false, false, false, false, false, false, false] rfl rfl (by kernel_rfl) (fun _ _ _ h => h) (Or.inl ⟨by rfl, ?_⟩) hHeld ?_ ?_
      rotate_left
      · rintro w' ⟨s0, s1⟩
        go_simp
        with_reducible rfl
      rotate_left
      · simp only [Act.put, List.setIfInBounds_toArray, List.set_cons_zero, List.set_cons_succ, i64_w, i32_w]
        rfl
      refine take_ (i := 23) (N := some 96) (v := ?_) (a' := ?_) #[true, true, true, true, true, true, true, true, true, true, true, true, true, true, true, true, true, true, true, true, true, true, true, true, false, false, false, false, false, false] rfl rfl (by kernel_rfl) (fun _ _ _ h => h) (Or.inl ⟨by rfl, ?_⟩) hHeld ?_ ?_
      rotate_left
      · rintro w' ⟨s0, s1⟩
        go_simp
        with_reducible rfl
      rotate_left
      · simp only [Act.put, List.setIfInBounds_toArray, List.set_cons_zero, List.set_cons_succ, i64_w, i32_w]
        rfl
      refine pure_ (i := 24) (N := some 97) (v := ?_) (a' := ?_) #[true, true, true, true, true, true, true, true, true, true, true, true, true, true, true, true, true, true, true, true, true, true, true, true, true, false, false, false, false, false] rfl rfl (by kernel_rfl) (fun _ _ _ h => h) (Or.inl ⟨by rfl, ?_⟩) ?_ ?_
      rotate_left
      · intro w'
        go_simp
        with_reducible rfl
      rotate_left
      · simp only [Act.put, List.setIfInBounds_toArray, List.set_cons_zero, List.set_cons_succ, i64_w, i32_w]
        rfl
      refine pure_ (i := 25) (N := some 98) (v := ?_) (a' := ?_) #[true, true, true, true, true, true, true, true, true, true, true, true, true, true, true, true, true, true, true, true, true, true, true, true, true, true, false, false, false, false] rfl rfl (by kernel_rfl) (fun _ _ _ h => h) (Or.inl ⟨by rfl, ?_⟩) ?_ ?_
      rotate_left
      · intro w'
        go_simp
        with_reducible rfl
      rotate_left
      · simp only [Act.put, List.setIfInBounds_toArray, List.set_cons_zero, List.set_cons_succ, i64_w, i32_w]
        rfl
      refine pure_ (i := 26) (N := some 99) (v := ?_) (a' := ?_) #[true, true, true, true, true, true, true, true, true, true, true, true, true, true, true, true, true, true, true, true, true, true, true, true, true, true, true, false, false, false] rfl rfl (by kernel_rfl) (fun _ _ _ h => h) (Or.inl ⟨by rfl, ?_⟩) ?_ ?_
      rotate_left
      · intro w'
        go_simp
        with_reducible rfl
      rotate_left
      · simp only [Act.put, List.setIfInBounds_toArray, List.set_cons_zero, List.set_cons_succ, i64_w, i32_w]
        rfl
      refine one_ (i := 27) (N := some 100) #[true, true, true, true, true, true, true, true, true, true, true, true, true, true, true, true, true, true, true, true, true, true, true, true, true, true, true, true, false, false] rfl rfl (by kernel_rfl) (by decide) (fun K hK => ?_)
      refine goes_ Try.func8 (by kernel_rfl) rfl #[] (by rfl) rfl rfl (by first | rfl | (simp; done)) ?_
      with_reducible refine (awake_calls _).mono ?_
      rintro e w11 ⟨rfl, hb⟩
      refine ⟨_, rfl, ?_⟩
      have nB_ := Aside0.mk (below_step HBE.out hb)
      have nC_ := Aside0.mk (Kd.R_below HCV.out hb)
      have nO_ := Aside0.mk (Kd.R_below HO.out hb)
      clear HBE HCV HO hb
      have HBE := nB_
      have HCV := nC_
      have HO := nO_
      clear nB_ nC_ nO_
      refine hK.out _ _ ⟨conv_strU (Rd.own HCV.out), conv_strU (Rd.own HO.out)⟩ (fun hHeld => ?_)
      clear hK K
      refine norm_ (a' := ?_) ?_ ?_
      rotate_left
      · show Act.put _ (some 100) _ = _
        simp only [Act.put, List.setIfInBounds_toArray, List.set_cons_zero, List.set_cons_succ, i64_w, i32_w]
        rfl
      refine pure_ (i := 28) (N := some 101) (v := ?_) (a' := ?_) #[true, true, true, true, true, true, true, true, true, true, true, true, true, true, true, true, true, true, true, true, true, true, true, true, true, true, true, true, true, false] rfl rfl (by kernel_rfl) (fun _ _ _ h => h) (Or.inl ⟨by rfl, ?_⟩) ?_ ?_
      rotate_left
      · intro w'
        go_simp
        with_reducible rfl
      rotate_left
      · simp only [Act.put, List.setIfInBounds_toArray, List.set_cons_zero, List.set_cons_succ, i64_w, i32_w]
        rfl
      refine pure_ (i := 29) (N := some 4) (v := ?_) (a' := ?_) #[true, true, true, true, true, true, true, true, true, true, true, true, true, true, true, true, true, true, true, true, true, true, true, true, true, true, true, true, true, true] rfl rfl (by kernel_rfl) (fun _ _ _ h => h) (Or.inl ⟨by rfl, ?_⟩) ?_ ?_
      rotate_left
      · intro w'
        go_simp
        with_reducible rfl
      rotate_left
      · simp only [Act.put, List.setIfInBounds_toArray, List.set_cons_zero, List.set_cons_succ, i64_w, i32_w]
        rfl
      refine done_ (by kernel_rfl) ?_
      go_wp2
      go_ret
      exact ⟨rfl, HBE.out⟩
theorem joins_walk (x : En) (cs : List Value) (at_ : Int) (w : World) (h : kEn.K w x cs) (ha : (Lit.int .i64 at_).wf = true) : Calls Try.prog 6 #[.agg cs.toArray, .int .i64 at_] w fun e w' => e = .returned (.bool true) ∧ Below w.heap.size w w' := by
  cases hf : fewB x with
  | false => exact joins_many h hf at_
  | true =>
    by_cases he : (sizeP x).2 = 0
    · refine joins_ok h hf at_ ?_ he
      simp only [Lit.wf, IntKind.min, IntKind.max, IntKind.signed, IntKind.bits, Bool.and_eq_true] at ha
      simp at ha
      omega
    · exact joins_err h hf at_ he
end Go.Proofs.Ytphpinfingaffaa.Law
