/- A file's row: the program's and the document's: the walks. -/
import Derived.Test.YtphpinfingaffaaSz
import Derived.Test.YtphpinfingaffaaPi
namespace Go.Proofs.Ytphpinfingaffaa.Law
open Go.RowKit Go.Proofs.Ytphpinfingaffaa Go.Proofs.YtphpinfingaffaaW.PrintWords Go.Proofs.YtphpinfingaffaaW.PrintLast Go.Proofs.YtphpinfingaffaaW.PrintMore Go.Proofs.Ytphpinfingaffaa.D Go.Proofs.Ytphpinfingaffaa.Fl
set_option linter.unusedSimpArgs false
set_option linter.unusedVariables false
theorem info3 : (Try.prog.info? 3).map (fun i => (i.zero, i.size, i.bytes)) = some (some (.int .i64 0), 1, 8) := by kernel_rfl
/-- pieces laid in a row -/
def spansL : Int → List Pc → List S34
  | _, [] => []
  | b, p :: l => ⟨b, p.n⟩ :: spansL (b + p.n) l
theorem sumN_cons (p : Pc) (l : List Pc) : sumN (p :: l) = p.n + sumN l := rfl
theorem spansL_snoc (l : List Pc) (p : Pc) : ∀ b, spansL b (l ++ [p]) = spansL b l ++ [⟨b + sumN l, p.n⟩] := by
  induction l with
  | nil => intro b; show [_] = [_]; rw [sumN_nil, Int.add_zero]
  | cons q l ih => intro b; simp only [List.cons_append, spansL, ih, sumN_cons, Int.add_assoc]
theorem spansL_len (l : List Pc) : ∀ b, (spansL b l).length = l.length := by
  induction l with
  | nil => intro b; rfl
  | cons q l ih => intro b; show (_ :: _ : List S34).length = _; rw [List.length_cons, ih, List.length_cons]
theorem rowL_spans : ∀ (l : List Pc) (b : Int), 0 ≤ b → b + 4096 * l.length ≤ 1099511627776 → (∀ p ∈ l, okN p.n) → rowL b (l.map (·.n)) = some (spansL b l)
  | [], b, _, _, _ => rfl
  | p :: l, b, hb, h, hp => by
    have h1 := hp p List.mem_cons_self
    unfold okN at h1
    rw [List.length_cons] at h
    rw [List.map_cons, rowL, if_pos ⟨⟨by omega, by omega⟩, by omega, by omega⟩, rowL_spans l (b + p.n) (by omega) (by omega) (fun q hq => hp q (List.mem_cons_of_mem _ hq))]
    rfl
theorem rowP_spans {l : List Pc} (hl : l.length ≤ 256) (hp : ∀ p ∈ l, okN p.n) : rowP 0 (l.map (·.n)) = (spansL 0 l, 0) := by
  unfold rowP
  rw [if_pos ⟨by omega, by omega⟩, rowL_spans l 0 (by omega) (by omega) hp]
/-- a file's row -/
def rowsP (x : En) : List S34 := if (sizeP x).2 = 0 then spansL 0 x.ps else []
theorem size_ok {x : En} (h : (sizeP x).2 = 0) : FineP x ∧ x.dir = false ∧ (sizeP x).1 = sumN x.ps := by
  unfold sizeP at h ⊢
  cases hm : mayB x with
  | false => rw [hm] at h; simp at h
  | true =>
    rw [hm] at h
    cases hd : x.dir with
    | true => rw [hd] at h; simp at h
    | false => exact ⟨may_file hm hd, rfl, rfl⟩
theorem sizes_take {ps : List Pc} {i : Nat} (h : i < ps.length) : (ps.take (i + 1)).map (·.n) = (ps.take i).map (·.n) ++ [(rdPc ps i).n] := by rw [take_rdPc h, List.map_append]; rfl
theorem R_as {α : Type} {d : Kd α} {e base : Nat} {w : World} {V : Value} {l : List α} (h : Kd.R d e w base (fun _ => True) V l) (m : List α) (hm : m = l) : Kd.R d e w base (fun _ => True) V m := by rw [hm]; exact h
theorem lt_cast {i n : Nat} (h : i < n) : (i : Int) < (n : Int) := by omega
set_option maxHeartbeats 4000000 in
set_option maxRecDepth 100000 in
theorem trow_calls {x : En} {cs : List Value} {w : World} (h : kEn.K w x cs) (hs : Sz1 x) :
    Calls Try.prog 11 #[.agg cs.toArray] w fun e w' => ∃ V, e = .returned (.tuple #[V, .int .i64 (sizeP x).2]) ∧ Kd.R kC 39 w' w.heap.size (fun _ => True) V (rowsP x) ∧ Below w.heap.size w w' := by
  obtain ⟨A, c, rfl, ht, hc, hr⟩ := kEn_open h
  have HT := Aside0.mk ht
  have HC := Aside0.mk hc
  have HR := Aside0.mk hr
  have HS := Aside0.mk hs
  clear h ht hc hr hs
  have hp : sizeP x = ((sizeP x).1, (sizeP x).2) := rfl
  by_cases he : (sizeP x).2 = 0
  · obtain ⟨hf, hd, hn⟩ := size_ok he
    rw [he] at hp
    have HW := Aside0.mk (show rowsP x = spansL 0 x.ps by unfold rowsP; rw [if_pos he])
    have HF := Aside0.mk hf
    have HP := Aside0.mk hp
    have hl := hf.2.1
    rw [he]
    clear hf hd hn hp he
    go_enter Try.func11, Try.ntmps11
    go_wp2_with (first | ((with_reducible refine gate_dst (N := 1) rfl ?_); refine wpList_box rfl 26 (.tmp 0) rfl (enV x A c) rfl ?_; intro w1 hk hb hs; have E := Aside0.mk (EnAt.mk hk HT.out HC.out (Kd.C_below HR.out hb)); have HB := Aside0.mk hb; have HZ := Aside0.mk hs; have z0 := E.out.cell (enV_0 x _ _); have z1 := E.out.cell (enV_1 x _ _); have z34 := E.out.cell (enV_34 x _ _ HT.out); clear hk hb hs) | ((with_reducible refine gate_dst (N := 9) rfl ?_); refine load_en rfl (.tmp 1) rfl w.heap.size rfl E.out ?_) | (go_at_call 9; with_reducible refine (tsize_calls E.out.K HS.out).mono ?_; rw [HP.out]; rintro e w2 ⟨rfl, hb⟩; have nB_ := Aside0.mk (below_step HB.out hb); have nE_ := Aside0.mk (E.out.below hb); clear HB E z0 z1 z34 hb; have HB := nB_; have E := nE_; clear nB_ nE_; have z0 := E.out.cell (enV_0 x _ _); have z1 := E.out.cell (enV_1 x _ _); have z34 := E.out.cell (enV_34 x _ _ HT.out)))
    have HO := Aside0.mk (Kd.R_nil (Kd.int .i64) 3 w2 w.heap.size (fun _ => True))
    go_loopw [6, 19] (fun v6 v19 wr => ∃ (i : Nat) (done : List Int), i ≤ x.ps.length ∧ done.length = i ∧ v19 = .int .i64 i ∧ Aside0 (done = (x.ps.take i).map (·.n)) ∧ Aside0 (Kd.R (Kd.int .i64) 3 wr w.heap.size (fun _ => True) v6 done) ∧ Aside0 (EnAt wr w.heap.size x A c) ∧ Aside0 (Below w.heap.size w wr)) (fun _ v19 _ => x.ps.length - (intOf v19).toNat)
    case atStart => exact ⟨0, [], Nat.zero_le _, rfl, rfl, ⟨rfl⟩, HO, E, HB⟩
    case round =>
      obtain ⟨i, done, hi, hdn, rfl, HDN, HOn, En, HBn⟩ := hrel
      clear HO E HB z0 z1 z34
      have HO := HOn
      have E := En
      have HB := HBn
      clear HOn En HBn
      have z34 := E.out.cell (enV_34 x _ _ HT.out)
      have z0 := E.out.cell (enV_0 x _ _)
      have z1 := E.out.cell (enV_1 x _ _)
      obtain ⟨V6, rfl⟩ : ∃ V, V = u6 := ⟨_, rfl⟩
      by_cases hlt : i < x.ps.length
      · have hltb : decide ((i : Int) < (x.ps.length : Int)) = true := decide_eq_true (lt_cast hlt)
        have p1 : (0 ≤ (i : Int)) = True := eq_true (Int.natCast_nonneg _)
        have p2 : ((i : Int) < (x.ps.length : Int)) = True := eq_true (lt_cast hlt)
        obtain ⟨ad, rfl, hil, _, hx⟩ := at_Pc E.out.rd hlt
        have HTK := Aside0.mk (sizes_take hlt)
        clear hil
        obtain ⟨n, hn⟩ : ∃ n, n = (rdPc x.ps i).n := ⟨_, rfl⟩
        rw [← hn] at hx
        have HQ := Aside0.mk (show done ++ [n] = (x.ps.take (i + 1)).map (·.n) by rw [HTK.out, ← HDN.out, hn])
        have HLA := Aside0.mk (show (done.length + 1) * 8 ≤ 140737488355328 by omega)
        have hdn2 : (done ++ [n]).length = i + 1 := by rw [List.length_append, hdn]; rfl
        have HDN2 := Aside0.mk hdn2
        clear hn hdn hdn2
        generalize rdPc x.ps i = p at *
        have hwi : wrap64 ((i : Int) + 1) = (i : Int) + 1 := n64 (by omega) (by omega)
        go_wp2_with (first | ((with_reducible refine gate_builtin (b := .append) (xs := #[.tmp 22, .tmp 29]) rfl ?_); at_builtin; refine Kd.R_append (Kd.int .i64) (w0 := w) w.heap.size rfl (.tmp 22) (.tmp 29) 65 3 (.int .i64 0) 8 rfl Try.underlying65 info3 rfl Nat.zero_lt_one (by decide) V6 done n [.int .i64 n] (fun _ => True) (fun _ => False) rfl rfl ?aP (fun _ hk => hk.elim) ?aF ?aO ?aB ?aS ?aL ?_; (case aP => exact rfl); (case aB => exact (by repeat (first | (with_reducible first | exact HB.out | apply below_alloc | apply pw_below_drewN | apply below_drew1) | exact HB.out))); (case aF => exact (fun _ _ => trivial)); (case aO => exact (by (with_reducible repeat (first | apply Kd.R_alloc | apply Kd.R_drewN | apply Kd.R_drew)); exact HO.out)); (case aS => exact (below_size (by repeat (first | (with_reducible first | exact HB.out | apply below_alloc | apply pw_below_drewN | apply below_drew1) | exact HB.out)))); (case aL => exact HLA.out); intro V9 w9 ho hb hg hat; have nE_ := Aside0.mk (EnAt.mk (blk_grown E.out.blk hg (Kd.R_ne HO.out E.out.blk (by decide))) HT.out HC.out (Kd.C_below HR.out hb)); have n0_ := Aside0.mk hb; have n1_ := Aside0.mk ho; clear E HB HO hb ho hg hat z0 z1 z34; have E := nE_; have HB := n0_; have HO := n1_; clear nE_ n0_ n1_))
        go_roundw
        case rel => exact ⟨i + 1, done ++ [n], hlt, HDN2.out, by go_num, HQ, HO, E, HB⟩
        case measure => simp [intOf]; exact left_lt hlt
      · obtain rfl : i = x.ps.length := by omega
        have hltb : decide ((x.ps.length : Int) < (x.ps.length : Int)) = false := decide_eq_false (Int.lt_irrefl _)
        have hq := HDN.out
        rw [List.take_length] at hq
        obtain ⟨A6, c6, rfl⟩ := Kd.R_slice HO.out
        have HRD := Aside0.mk (Kd.R_reads' HO.out).2.2
        have HRC := Aside0.mk (Kd.R_reads' HO.out).2.1
        have HDL := Aside0.mk (show done.length ≤ 1000 by omega)
        have HRW := Aside0.mk (show rowP 0 done = (spansL 0 x.ps, 0) by rw [hq]; exact rowP_spans hl HF.out.2.2.1)
        clear hq hdn
        go_wp2_with (first | (go_at_call 23; with_reducible refine (row_calls 0 HRD.out HRC.out HDL.out).mono ?_; rw [HRW.out]; rintro e w3 ⟨V3, rfl, hv, hb⟩; have HV3 := Aside0.mk (Kd.R_lower hv HB.out.size); have HB3 := Aside0.mk (below_step HB.out hb); clear hv hb))
        go_ret2
        exact ⟨_, rfl, R_as HV3.out _ HW.out, HB3.out⟩
  · have HW := Aside0.mk (show rowsP x = [] by unfold rowsP; rw [if_neg he])
    have HP := Aside0.mk (show sizeP x = sizeP x from rfl)
    have b1 : ((sizeP x).2 != 0) = true := bne_iff_ne.mpr he
    have b2 : ((sizeP x).2 == 0) = false := beq_eq_false_iff_ne.mpr he
    clear hp he
    go_enter Try.func11, Try.ntmps11
    go_wp2_with (first | ((with_reducible refine gate_dst (N := 1) rfl ?_); refine wpList_box rfl 26 (.tmp 0) rfl (enV x A c) rfl ?_; intro w1 hk hb hs; have E := Aside0.mk (EnAt.mk hk HT.out HC.out (Kd.C_below HR.out hb)); have HB := Aside0.mk hb; have HZ := Aside0.mk hs; have z0 := E.out.cell (enV_0 x _ _); have z1 := E.out.cell (enV_1 x _ _); have z34 := E.out.cell (enV_34 x _ _ HT.out); clear hk hb hs) | ((with_reducible refine gate_dst (N := 9) rfl ?_); refine load_en rfl (.tmp 1) rfl w.heap.size rfl E.out ?_) | (go_at_call 9; with_reducible refine (tsize_calls E.out.K HS.out).mono ?_; rintro e w2 ⟨rfl, hb⟩; have nB_ := Aside0.mk (below_step HB.out hb); have nE_ := Aside0.mk (E.out.below hb); clear HB E z0 z1 z34 hb; have HB := nB_; have E := nE_; clear nB_ nE_; have z0 := E.out.cell (enV_0 x _ _); have z1 := E.out.cell (enV_1 x _ _); have z34 := E.out.cell (enV_34 x _ _ HT.out)))
    go_ret2
    exact ⟨_, rfl, R_as (Kd.R_nil _ _ _ _ _) _ HW.out, HB.out⟩
set_option maxHeartbeats 4000000 in
set_option maxRecDepth 100000 in
theorem rrow_calls {x : En} {cs : List Value} {w : World} (h : kEn.K w x cs) (hs : Sz1 x) :
    Calls Try.prog 12 #[.agg cs.toArray] w fun e w' => ∃ V, e = .returned (.tuple #[V, .int .i64 (sizeP x).2]) ∧ Kd.R k34 41 w' w.heap.size (fun _ => True) V (rowsP x) ∧ Below w.heap.size w w' := by
  obtain ⟨A, c, rfl, ht, hc, hr⟩ := kEn_open h
  have HT := Aside0.mk ht
  have HC := Aside0.mk hc
  have HR := Aside0.mk hr
  have HS := Aside0.mk hs
  clear h ht hc hr hs
  have hp : sizeP x = ((sizeP x).1, (sizeP x).2) := rfl
  by_cases he : (sizeP x).2 = 0
  · obtain ⟨hf, hd, hn⟩ := size_ok he
    rw [he] at hp
    have HW := Aside0.mk (show rowsP x = spansL 0 x.ps by unfold rowsP; rw [if_pos he])
    have HF := Aside0.mk hf
    have HP := Aside0.mk hp
    have hl := hf.2.1
    rw [he]
    clear hf hd hn hp he
    go_enter Try.func12, Try.ntmps12
    go_wp2_with (first | ((with_reducible refine gate_dst (N := 1) rfl ?_); refine wpList_box rfl 26 (.tmp 0) rfl (enV x A c) rfl ?_; intro w1 hk hb hs; have E := Aside0.mk (EnAt.mk hk HT.out HC.out (Kd.C_below HR.out hb)); have HB := Aside0.mk hb; have HZ := Aside0.mk hs; have z0 := E.out.cell (enV_0 x _ _); have z1 := E.out.cell (enV_1 x _ _); have z34 := E.out.cell (enV_34 x _ _ HT.out); clear hk hb hs) | ((with_reducible refine gate_dst (N := 10) rfl ?_); refine load_en rfl (.tmp 1) rfl w.heap.size rfl E.out ?_) | (go_at_call 10; with_reducible refine (rsize_calls E.out.K HS.out).mono ?_; rw [HP.out]; rintro e w2 ⟨rfl, hb⟩; have nB_ := Aside0.mk (below_step HB.out hb); have nE_ := Aside0.mk (E.out.below hb); clear HB E z0 z1 z34 hb; have HB := nB_; have E := nE_; clear nB_ nE_; have z0 := E.out.cell (enV_0 x _ _); have z1 := E.out.cell (enV_1 x _ _); have z34 := E.out.cell (enV_34 x _ _ HT.out)))
    have HO := Aside0.mk (Kd.R_nil k34 41 w2 w.heap.size (fun _ => True))
    go_loopw [6, 7, 8] (fun v6 v7 v8 wr => ∃ (i : Nat) (S : Int) (done : List S34), i ≤ x.ps.length ∧ done.length = i ∧ 0 ≤ S ∧ S ≤ 4096 * i ∧ v7 = .int .i64 S ∧ v8 = .int .i64 i ∧ Aside0 (S = sumN (x.ps.take i)) ∧ Aside0 (done = spansL 0 (x.ps.take i)) ∧ Aside0 (Kd.R k34 41 wr w.heap.size (fun _ => True) v6 done) ∧ Aside0 (EnAt wr w.heap.size x A c) ∧ Aside0 (Below w.heap.size w wr)) (fun _ _ v8 _ => x.ps.length - (intOf v8).toNat)
    case atStart => exact ⟨0, 0, [], Nat.zero_le _, rfl, Int.le_refl _, by omega, rfl, rfl, ⟨rfl⟩, ⟨rfl⟩, HO, E, HB⟩
    case round =>
      obtain ⟨i, S, done, hi, hdn, hS0, hS1, rfl, rfl, HSS, HDN, HOn, En, HBn⟩ := hrel
      clear HO E HB z0 z1 z34
      have HO := HOn
      have E := En
      have HB := HBn
      clear HOn En HBn
      have z34 := E.out.cell (enV_34 x _ _ HT.out)
      have z0 := E.out.cell (enV_0 x _ _)
      have z1 := E.out.cell (enV_1 x _ _)
      obtain ⟨V6, rfl⟩ : ∃ V, V = u6 := ⟨_, rfl⟩
      by_cases hlt : i < x.ps.length
      · have hltb : decide ((i : Int) < (x.ps.length : Int)) = true := decide_eq_true (lt_cast hlt)
        have p1 : (0 ≤ (i : Int)) = True := eq_true (Int.natCast_nonneg _)
        have p2 : ((i : Int) < (x.ps.length : Int)) = True := eq_true (lt_cast hlt)
        obtain ⟨ad, rfl, hil, _, hx⟩ := at_Pc E.out.rd hlt
        have hok := HF.out.2.2.1 _ (rdPc_mem hlt)
        have HTK := Aside0.mk (take_rdPc hlt)
        have HXA := Aside0.mk hx
        clear hil
        generalize hpe : rdPc x.ps i = p at *
        obtain ⟨n, hn⟩ : ∃ n, n = p.n := ⟨_, rfl⟩
        rw [← hn] at hx hok
        have h1n := hok.1
        have h2n := hok.2
        have HXW := Aside0.mk (show ∀ w9, Below w.heap.size w w9 → Kd.C kPc w9 (some ad) x.ps.length x.ps from fun w9 h9 => Kd.C_below HR.out h9)
        have HQ := Aside0.mk (show done ++ [⟨S, n⟩] = spansL 0 (x.ps.take (i + 1)) by rw [HTK.out, spansL_snoc, ← HDN.out, ← HSS.out, Int.zero_add, hn])
        have HQS := Aside0.mk (show S + n = sumN (x.ps.take (i + 1)) by rw [HTK.out, sumN_snoc, ← HSS.out, hn])
        have HLA := Aside0.mk (show (done.length + 1) * 16 ≤ 140737488355328 by omega)
        have HDN2 := Aside0.mk (show (done ++ [(⟨S, n⟩ : S34)]).length = i + 1 by rw [List.length_append, hdn]; rfl)
        have HS1 := Aside0.mk (show S + n ≤ 4096 * ((i + 1 : Nat) : Int) by omega)
        have HS0 := Aside0.mk (show 0 ≤ S + n by omega)
        have HNN := Aside0.mk hn
        have HN9 := Aside0.mk (show (rdPc x.ps i).n = n by rw [hpe, hn])
        clear hn hdn hok HXA hpe
        have HLT := Aside0.mk hlt
        have hwi : wrap64 ((i : Int) + 1) = (i : Int) + 1 := n64 (by omega) (by omega)
        have hws : wrap64 (S + n) = S + n := n64 (by omega) (by omega)
        go_wp2_with (first | ((with_reducible refine gate_builtin (b := .append) (xs := #[.tmp 24, .tmp 33]) rfl ?_); at_builtin; refine Kd.R_append k34 (w0 := w) w.heap.size rfl (.tmp 24) (.tmp 33) 35 41 (.agg #[(.int .i64 0), (.int .i64 0)]) 16 rfl Try.underlying35 info34 rfl (by decide) (by decide) V6 done (⟨S, n⟩ : S34) [.int .i64 S, .int .i64 n] (fun _ => True) (fun _ => False) rfl rfl ?aP (fun _ hk => hk.elim) ?aF ?aO ?aB ?aS ?aL ?_; (case aP => exact k34_mkM _ _ _ _); (case aB => exact (by repeat (first | (with_reducible first | exact HB.out | apply below_alloc | apply pw_below_drewN | apply below_drew1) | exact HB.out))); (case aF => exact (fun _ _ => trivial)); (case aO => exact (by (with_reducible repeat (first | apply Kd.R_alloc | apply Kd.R_drewN | apply Kd.R_drew)); exact HO.out)); (case aS => exact (below_size (by repeat (first | (with_reducible first | exact HB.out | apply below_alloc | apply pw_below_drewN | apply below_drew1) | exact HB.out)))); (case aL => exact HLA.out); intro V9 w9 ho hb hg hat; have nE_ := Aside0.mk (EnAt.mk (blk_grown E.out.blk hg (Kd.R_ne HO.out E.out.blk (by decide))) HT.out HC.out (Kd.C_below HR.out hb)); have n0_ := Aside0.mk hb; have n1_ := Aside0.mk ho; clear E HB HO hb ho hg hat z0 z1 z34; have E := nE_; have HB := n0_; have HO := n1_; clear nE_ n0_ n1_ hx; have z34 := E.out.cell (enV_34 x _ _ HT.out); obtain ⟨_, e9, _, _, hx9⟩ := at_Pc E.out.rd HLT.out; cases e9; have hx := hx9.trans (congrArg (fun b => some (Value.int .i64 b)) HN9.out); clear hx9))
        go_roundw
        case rel => exact ⟨i + 1, S + n, done ++ [⟨S, n⟩], hlt, HDN2.out, HS0.out, HS1.out, rfl, by go_num, HQS, HQ, HO, E, HB⟩
        case measure => simp [intOf]; exact left_lt hlt
      · obtain rfl : i = x.ps.length := by omega
        have hltb : decide ((x.ps.length : Int) < (x.ps.length : Int)) = false := decide_eq_false (Int.lt_irrefl _)
        have hq := HDN.out
        rw [List.take_length] at hq
        have HW2 := Aside0.mk (show rowsP x = done by rw [HW.out, hq])
        clear hq hdn
        go_wp2
        go_ret2
        exact ⟨_, rfl, R_as HO.out _ HW2.out, HB.out⟩
  · have HW := Aside0.mk (show rowsP x = [] by unfold rowsP; rw [if_neg he])
    have HP := Aside0.mk (show sizeP x = sizeP x from rfl)
    have b1 : ((sizeP x).2 != 0) = true := bne_iff_ne.mpr he
    have b2 : ((sizeP x).2 == 0) = false := beq_eq_false_iff_ne.mpr he
    clear hp he
    go_enter Try.func12, Try.ntmps12
    go_wp2_with (first | ((with_reducible refine gate_dst (N := 1) rfl ?_); refine wpList_box rfl 26 (.tmp 0) rfl (enV x A c) rfl ?_; intro w1 hk hb hs; have E := Aside0.mk (EnAt.mk hk HT.out HC.out (Kd.C_below HR.out hb)); have HB := Aside0.mk hb; have HZ := Aside0.mk hs; have z0 := E.out.cell (enV_0 x _ _); have z1 := E.out.cell (enV_1 x _ _); have z34 := E.out.cell (enV_34 x _ _ HT.out); clear hk hb hs) | ((with_reducible refine gate_dst (N := 10) rfl ?_); refine load_en rfl (.tmp 1) rfl w.heap.size rfl E.out ?_) | (go_at_call 10; with_reducible refine (rsize_calls E.out.K HS.out).mono ?_; rintro e w2 ⟨rfl, hb⟩; have nB_ := Aside0.mk (below_step HB.out hb); have nE_ := Aside0.mk (E.out.below hb); clear HB E z0 z1 z34 hb; have HB := nB_; have E := nE_; clear nB_ nE_; have z0 := E.out.cell (enV_0 x _ _); have z1 := E.out.cell (enV_1 x _ _); have z34 := E.out.cell (enV_34 x _ _ HT.out)))
    go_ret2
    exact ⟨_, rfl, R_as (Kd.R_nil _ _ _ _ _) _ HW.out, HB.out⟩
end Go.Proofs.Ytphpinfingaffaa.Law
