/- How many bytes a file has: the program's and the document's: the walks. -/
import Derived.Test.YtphpinfingaffaaPu
import Derived.Great.BuildSlice
namespace Go.Proofs.Ytphpinfingaffaa.Law
open Go.RowKit Go.Proofs.Ytphpinfingaffaa Go.Proofs.YtphpinfingaffaaW.PrintWords Go.Proofs.YtphpinfingaffaaW.PrintLast Go.Proofs.YtphpinfingaffaaW.PrintMore Go.Proofs.Ytphpinfingaffaa.D
set_option linter.unusedSimpArgs false
set_option linter.unusedVariables false
theorem info26q : (Try.prog.info? 26).map (fun i => (i.zero, i.size)) = some (some (.agg (enV zEn none 0).toArray), 35) := by kernel_rfl
/-- a list of one entry, made in place -/
theorem one_en {ops : Array Oper} {rest : List Oper} {o : Oper} {a : Act} {w : World} {Q : Exit → Act → World → Prop} (hgd : o.guard = none) (x : Operand) (ho : o.op = .buildSlice 64 1 #[(0, x)]) (y : En) (A : Option Addr) (c : Nat) (hl : y.tree.length = 32) (hx : a.eval x = .agg (enV y A c).toArray)
    (h : wpList Try.prog ops Q rest (a.put o.dst (.slice (some ⟨w.heap.size, 0, none⟩) 1 1)) (w.alloc (.cells (enV y A c).toArray 26))) : wpList Try.prog ops Q (o :: rest) a w := by
  obtain ⟨ie, hie, hz⟩ := Option.map_eq_some_iff.1 info26q
  simp only [Prod.mk.injEq] at hz
  obtain ⟨hz1, hz2⟩ := hz
  refine wpList_buildSlice hgd 64 26 1 _ ho (enV y A c).toArray ie _ Try.underlying64 hie hz1 (by rw [hz2]; decide) (by rw [hz2]; decide) ?_ h
  rw [hz2]
  have hf := Great.fill_whole (s := 35) (by decide) [.agg (enV y A c).toArray] ((Array.range (1 * 35)).map ((Value.agg (enV zEn none 0).toArray).cells[· % (Value.agg (enV zEn none 0).toArray).cells.size]!)) (fun v hv => by
    rw [List.mem_singleton.mp hv]
    show (enV y A c).toArray.size = 35
    rw [List.size_toArray, enV_len _ _ _ hl]) (by rw [Array.size_map, Array.size_range]; rfl)
  simp only [List.map_toArray, List.map_cons, List.map_nil, hx]
  refine Eq.trans hf ?_
  simp [Value.cells]
theorem one_C {w : World} {g : Nat} {x : En} {A : Option Addr} {c : Nat} (h : EnAt w g x A c) : Kd.C kEn w (some ⟨g, 0, none⟩) 1 [x] := by
  refine ⟨rfl, by decide, fun _ => ⟨_, rfl, fun j p hj => ?_⟩⟩
  obtain ⟨rfl, rfl⟩ : j = 0 ∧ p = x := by
    cases j with
    | zero => exact ⟨rfl, (Option.some.inj hj).symm⟩
    | succ j => simp at hj
  exact ⟨enV p A c, enV_len _ _ _ h.tl, h.K, fun i u hu => by rw [Nat.zero_mul, Nat.zero_add, addr_add, Nat.zero_add]; exact h.cell hu⟩
/-- how many bytes a file has, or why there are none -/
def sizeP (x : En) : Int × Int := if mayB x then (if x.dir then (0, 22) else (sumN x.ps, 0)) else (0, 1)
theorem put_one (x : En) : (putP [x]).2 = if mayB x then 0 else 1 := by
  have hr : risingP [x] = if mayB x then 0 else 1 := by
    cases hm : mayB x with
    | true => exact rising_ok (fun y hy => by rw [List.mem_singleton.mp hy]; exact hm) (fun i hi => absurd hi (by simp))
    | false => exact rising_no (List.mem_singleton.mpr rfl) hm
  unfold putP
  rw [if_neg (by simp), hr]
  cases mayB x <;> simp
theorem size_no {x : En} (h : mayB x = false) : sizeP x = (0, 1) := by unfold sizeP; rw [h]; rfl
theorem size_dir {x : En} (h : mayB x = true) (hd : x.dir = true) : sizeP x = (0, 22) := by unfold sizeP; rw [h, hd]; rfl
theorem size_file {x : En} (h : mayB x = true) (hd : x.dir = false) : sizeP x = (sumN x.ps, 0) := by unfold sizeP; rw [h, hd]; rfl
/-- the sizes of an entry -/
abbrev Sz1 (x : En) : Prop := x.nm.size ≤ 140737488355328 ∧ x.ps.length ≤ 140737488355328
theorem sz1_all {x : En} (h : Sz1 x) : Szd [x] := ⟨by simp, fun y hy => by rw [List.mem_singleton.mp hy]; exact h⟩
theorem below_two {w w0 w1 : World} (h : Below w0.heap.size w0 w) (o : Obj) (hb : Below (w.alloc o).heap.size (w.alloc o) w1) : Below w0.heap.size w0 w1 := below_step (below_alloc h o) hb
theorem put_one_calls {w : World} {x : En} {A : Option Addr} {c : Nat} (h1 : x.tree.length = 32) (h2 : x.ps.length ≤ c) (h3 : Kd.C kPc w A x.ps.length x.ps) (hs : Sz1 x) :
    Calls Try.prog 21 #[.slice (some ⟨w.heap.size, 0, none⟩) 1 1] (w.alloc (.cells (enV x A c).toArray 26)) fun e w' => ∃ V, e = .returned (.tuple #[V, .int .i64 (putP [x]).2]) ∧ Below w.heap.size w w' := by
  refine (nput_calls (A := some ⟨w.heap.size, 0, none⟩) (c := 1) (xs := [x]) (one_C (EnAt.new h1 h2 h3)) (sz1_all hs)).mono ?_
  rintro e w' ⟨V, he, _, hb⟩
  exact ⟨V, he, below_step (below_alloc (Below.refl _ _) _) hb⟩
theorem blw1 {w w1 : World} (o : Obj) (hb : Below (w.alloc o).heap.size (w.alloc o) w1) : Below w.heap.size w w1 := below_step (below_alloc (Below.refl _ _) o) hb
set_option maxHeartbeats 4000000 in
set_option maxRecDepth 100000 in
theorem tsize_calls {x : En} {cs : List Value} {w : World} (h : kEn.K w x cs) (hs : Sz1 x) :
    Calls Try.prog 9 #[.agg cs.toArray] w fun e w' => e = .returned (.tuple #[.int .i64 (sizeP x).1, .int .i64 (sizeP x).2]) ∧ Below w.heap.size w w' := by
  obtain ⟨A, c, rfl, ht, hc, hr⟩ := kEn_open h
  have HT := Aside0.mk ht
  have HC := Aside0.mk hc
  have HR := Aside0.mk hr
  have HS := Aside0.mk hs
  clear h ht hc hr hs
  cases hm : mayB x with
  | false =>
    have HV := Aside0.mk (size_no hm)
    have HP := Aside0.mk (show (putP [x]).2 = 1 by rw [put_one, hm]; rfl)
    clear hm
    go_enter Try.func9, Try.ntmps9
    go_wp2_with (first | ((with_reducible refine gate_dst (N := 1) rfl ?_); refine wpList_box rfl 26 (.tmp 0) rfl (enV x A c) rfl ?_; intro w1 hk hb hs; have E := Aside0.mk (EnAt.mk hk HT.out HC.out (Kd.C_below HR.out hb)); have HB := Aside0.mk hb; have HZ := Aside0.mk hs; have z0 := E.out.cell (enV_0 x _ _); have z1 := E.out.cell (enV_1 x _ _); have z34 := E.out.cell (enV_34 x _ _ HT.out); clear hk hb hs) | ((with_reducible refine gate_dst (N := 10) rfl ?_); refine load_en rfl (.tmp 1) rfl w.heap.size rfl E.out ?_) | ((with_reducible refine gate_dst (N := 11) rfl ?_); refine one_en rfl (.tmp 10) rfl x A c HT.out rfl ?_) | (go_at_call 21; with_reducible refine (put_one_calls HT.out HC.out (Kd.C_below HR.out HB.out) HS.out).mono ?_; rw [HP.out]; rintro e w2 ⟨V2, rfl, hb⟩; have nB_ := Aside0.mk (below_step HB.out hb); have nE_ := Aside0.mk (E.out.below hb); clear HB E z0 z1 z34 hb; have HB := nB_; have E := nE_; clear nB_ nE_; have z0 := E.out.cell (enV_0 x _ _); have z1 := E.out.cell (enV_1 x _ _); have z34 := E.out.cell (enV_34 x _ _ HT.out)))
    go_ret2
    exact ⟨by rw [HV.out]; rfl, HB.out⟩
  | true =>
    have HP := Aside0.mk (show (putP [x]).2 = 0 by rw [put_one, hm]; rfl)
    cases hd : x.dir with
    | true =>
      have HV := Aside0.mk (size_dir hm hd)
      have HD := Aside0.mk hd
      clear hm hd
      go_enter Try.func9, Try.ntmps9
      go_wp2_with (first | ((with_reducible refine gate_dst (N := 1) rfl ?_); refine wpList_box rfl 26 (.tmp 0) rfl (enV x A c) rfl ?_; intro w1 hk hb hs; have E := Aside0.mk (EnAt.mk hk HT.out HC.out (Kd.C_below HR.out hb)); have HB := Aside0.mk hb; have HZ := Aside0.mk hs; have z0 := E.out.cell (enV_0 x _ _); have z1 := (E.out.cell (enV_1 x _ _)).trans (congrArg (fun b => some (Value.bool b)) HD.out); have z34 := E.out.cell (enV_34 x _ _ HT.out); clear hk hb hs) | ((with_reducible refine gate_dst (N := 10) rfl ?_); refine load_en rfl (.tmp 1) rfl w.heap.size rfl E.out ?_) | ((with_reducible refine gate_dst (N := 11) rfl ?_); refine one_en rfl (.tmp 10) rfl x A c HT.out rfl ?_) | (go_at_call 21; with_reducible refine (put_one_calls HT.out HC.out (Kd.C_below HR.out HB.out) HS.out).mono ?_; rw [HP.out]; rintro e w2 ⟨V2, rfl, hb⟩; have nB_ := Aside0.mk (below_step HB.out hb); have nE_ := Aside0.mk (E.out.below hb); clear HB E z0 z1 z34 hb; have HB := nB_; have E := nE_; clear nB_ nE_; have z0 := E.out.cell (enV_0 x _ _); have z1 := (E.out.cell (enV_1 x _ _)).trans (congrArg (fun b => some (Value.bool b)) HD.out); have z34 := E.out.cell (enV_34 x _ _ HT.out)))
      go_ret2
      exact ⟨by rw [HV.out]; rfl, HB.out⟩
    | false =>
      have HV := Aside0.mk (size_file hm hd)
      have HD := Aside0.mk hd
      have HF := Aside0.mk (may_file hm hd)
      have hl := HF.out.2.1
      clear hm hd
      go_enter Try.func9, Try.ntmps9
      go_wp2_with (first | ((with_reducible refine gate_dst (N := 1) rfl ?_); refine wpList_box rfl 26 (.tmp 0) rfl (enV x A c) rfl ?_; intro w1 hk hb hs; have E := Aside0.mk (EnAt.mk hk HT.out HC.out (Kd.C_below HR.out hb)); have HB := Aside0.mk hb; have HZ := Aside0.mk hs; have z0 := E.out.cell (enV_0 x _ _); have z1 := (E.out.cell (enV_1 x _ _)).trans (congrArg (fun b => some (Value.bool b)) HD.out); have z34 := E.out.cell (enV_34 x _ _ HT.out); clear hk hb hs) | ((with_reducible refine gate_dst (N := 10) rfl ?_); refine load_en rfl (.tmp 1) rfl w.heap.size rfl E.out ?_) | ((with_reducible refine gate_dst (N := 11) rfl ?_); refine one_en rfl (.tmp 10) rfl x A c HT.out rfl ?_) | (go_at_call 21; with_reducible refine (put_one_calls HT.out HC.out (Kd.C_below HR.out HB.out) HS.out).mono ?_; rw [HP.out]; rintro e w2 ⟨V2, rfl, hb⟩; have nB_ := Aside0.mk (below_step HB.out hb); have nE_ := Aside0.mk (E.out.below hb); clear HB E z0 z1 z34 hb; have HB := nB_; have E := nE_; clear nB_ nE_; have z0 := E.out.cell (enV_0 x _ _); have z1 := (E.out.cell (enV_1 x _ _)).trans (congrArg (fun b => some (Value.bool b)) HD.out); have z34 := E.out.cell (enV_34 x _ _ HT.out)))
      go_loopw [6, 22] (fun v6 v22 wr => ∃ (i : Nat) (S : Int), i ≤ x.ps.length ∧ 0 ≤ S ∧ S ≤ 4096 * i ∧ v6 = .int .i64 S ∧ v22 = .int .i64 i ∧ Aside0 (S = sumN (x.ps.take i)) ∧ Aside0 (EnAt wr w.heap.size x A c) ∧ Aside0 (Below w.heap.size w wr)) (fun _ v22 _ => x.ps.length - (intOf v22).toNat)
      case atStart => exact ⟨0, 0, by omega, by omega, by omega, rfl, rfl, ⟨rfl⟩, E, HB⟩
      case round =>
        obtain ⟨i, S, hi, hS0, hS1, rfl, rfl, HQ, En, HBn⟩ := hrel
        clear E HB z0 z1 z34
        have E := En
        have HB := HBn
        clear En HBn
        by_cases hlt : i < x.ps.length
        · have hltb : decide ((i : Int) < (x.ps.length : Int)) = true := decide_eq_true (by omega)
          have p1 : (0 ≤ (i : Int)) = True := eq_true (by omega)
          have p2 : ((i : Int) < (x.ps.length : Int)) = True := eq_true (by omega)
          obtain ⟨ad, rfl, hil, hpc, _⟩ := at_Pc E.out.rd hlt
          have hok := HF.out.2.2.1 _ (rdPc_mem hlt)
          have HTK := Aside0.mk (take_rdPc hlt)
          have HIL := Aside0.mk hil
          have HPC := Aside0.mk hpc
          clear hil hpc
          generalize rdPc x.ps i = p at *
          obtain ⟨n, hn⟩ : ∃ n, n = p.n := ⟨_, rfl⟩
          rw [← hn] at hok
          have h1n := hok.1
          have h2n := hok.2
          have HNN := Aside0.mk hn
          clear hn hok
          have HQ2 := Aside0.mk (show S + n = sumN (x.ps.take (i + 1)) by rw [HTK.out, sumN_snoc, ← HQ.out, ← HNN.out])
          have HS1 := Aside0.mk (show S + n ≤ 4096 * ((i + 1 : Nat) : Int) by omega)
          have HS0 := Aside0.mk (show 0 ≤ S + n by omega)
          have hwi : wrap64 ((i : Int) + 1) = (i : Int) + 1 := n64 (by omega) (by omega)
          have hws : wrap64 (S + n) = S + n := n64 (by omega) (by omega)
          go_wp2_with (first | ((with_reducible refine gate_dst (N := 25) rfl ?_); refine load_pc rfl (.tmp 24) rfl (ad.add (i * 33)) rfl p HIL.out HPC.out ?_) | ((with_reducible refine gate_dst (N := 8) rfl ?_); refine new_pc rfl rfl rfl (.tmp 8) (.tmp 25) rfl rfl p HIL.out rfl ?_; intro w3 hq hb hsz; have y32 := (hq.cell (pcV_32 hq.il)).trans (congrArg (fun b => some (Value.int .i64 b)) HNN.out.symm); have nB_ := Aside0.mk (below_step HB.out hb); have nE_ := Aside0.mk (E.out.below hb); clear HB E hb; have HB := nB_; have E := nE_; clear nB_ nE_; clear hq hsz))
          go_roundw
          case rel => exact ⟨i + 1, S + n, hlt, HS0.out, HS1.out, rfl, by go_num, HQ2, E, HB⟩
          case measure => simp [intOf]; exact left_lt hlt
        · obtain rfl : i = x.ps.length := by omega
          have hltb : decide ((x.ps.length : Int) < (x.ps.length : Int)) = false := decide_eq_false (by omega)
          have hQ := HQ.out
          rw [List.take_length] at hQ
          have HQ3 := Aside0.mk hQ
          clear hQ
          go_wp2
          go_ret2
          exact ⟨by rw [HV.out, ← HQ3.out]; rfl, HB.out⟩
set_option maxHeartbeats 4000000 in
set_option maxRecDepth 100000 in
theorem rsize_calls {x : En} {cs : List Value} {w : World} (h : kEn.K w x cs) (hs : Sz1 x) :
    Calls Try.prog 10 #[.agg cs.toArray] w fun e w' => e = .returned (.tuple #[.int .i64 (sizeP x).1, .int .i64 (sizeP x).2]) ∧ Below w.heap.size w w' := by
  obtain ⟨A, c, rfl, ht, hc, hr⟩ := kEn_open h
  have HT := Aside0.mk ht
  have HC := Aside0.mk hc
  have HR := Aside0.mk hr
  have HS := Aside0.mk hs
  clear h ht hc hr hs
  cases hm : mayB x with
  | false =>
    have HV := Aside0.mk (size_no hm)
    have HM := Aside0.mk hm
    clear hm
    go_enter Try.func10, Try.ntmps10
    go_wp2_with (first | ((with_reducible refine gate_dst (N := 1) rfl ?_); refine wpList_box rfl 26 (.tmp 0) rfl (enV x A c) rfl ?_; intro w1 hk hb hs; have E := Aside0.mk (EnAt.mk hk HT.out HC.out (Kd.C_below HR.out hb)); have HB := Aside0.mk hb; have HZ := Aside0.mk hs; have z0 := E.out.cell (enV_0 x _ _); have z1 := E.out.cell (enV_1 x _ _); have z34 := E.out.cell (enV_34 x _ _ HT.out); clear hk hb hs) | ((with_reducible refine gate_dst (N := 6) rfl ?_); refine load_en rfl (.tmp 1) rfl w.heap.size rfl E.out ?_) | (go_at_call 22; with_reducible refine (may_calls E.out.K HS.out.1 HS.out.2).mono ?_; rw [HM.out]; rintro e w2 ⟨rfl, hb⟩; have nB_ := Aside0.mk (below_step HB.out hb); have nE_ := Aside0.mk (E.out.below hb); clear HB E z0 z1 z34 hb; have HB := nB_; have E := nE_; clear nB_ nE_; have z0 := E.out.cell (enV_0 x _ _); have z1 := E.out.cell (enV_1 x _ _); have z34 := E.out.cell (enV_34 x _ _ HT.out)))
    go_ret2
    exact ⟨by rw [HV.out]; rfl, HB.out⟩
  | true =>
    have HM := Aside0.mk hm
    cases hd : x.dir with
    | true =>
      have HV := Aside0.mk (size_dir hm hd)
      have HD := Aside0.mk hd
      clear hm hd
      go_enter Try.func10, Try.ntmps10
      go_wp2_with (first | ((with_reducible refine gate_dst (N := 1) rfl ?_); refine wpList_box rfl 26 (.tmp 0) rfl (enV x A c) rfl ?_; intro w1 hk hb hs; have E := Aside0.mk (EnAt.mk hk HT.out HC.out (Kd.C_below HR.out hb)); have HB := Aside0.mk hb; have HZ := Aside0.mk hs; have z0 := E.out.cell (enV_0 x _ _); have z1 := (E.out.cell (enV_1 x _ _)).trans (congrArg (fun b => some (Value.bool b)) HD.out); have z34 := E.out.cell (enV_34 x _ _ HT.out); clear hk hb hs) | ((with_reducible refine gate_dst (N := 6) rfl ?_); refine load_en rfl (.tmp 1) rfl w.heap.size rfl E.out ?_) | (go_at_call 22; with_reducible refine (may_calls E.out.K HS.out.1 HS.out.2).mono ?_; rw [HM.out]; rintro e w2 ⟨rfl, hb⟩; have nB_ := Aside0.mk (below_step HB.out hb); have nE_ := Aside0.mk (E.out.below hb); clear HB E z0 z1 z34 hb; have HB := nB_; have E := nE_; clear nB_ nE_; have z0 := E.out.cell (enV_0 x _ _); have z1 := (E.out.cell (enV_1 x _ _)).trans (congrArg (fun b => some (Value.bool b)) HD.out); have z34 := E.out.cell (enV_34 x _ _ HT.out)))
      go_ret2
      exact ⟨by rw [HV.out]; rfl, HB.out⟩
    | false =>
      have HV := Aside0.mk (size_file hm hd)
      have HD := Aside0.mk hd
      have HF := Aside0.mk (may_file hm hd)
      have hl := HF.out.2.1
      clear hm hd
      go_enter Try.func10, Try.ntmps10
      go_wp2_with (first | ((with_reducible refine gate_dst (N := 1) rfl ?_); refine wpList_box rfl 26 (.tmp 0) rfl (enV x A c) rfl ?_; intro w1 hk hb hs; have E := Aside0.mk (EnAt.mk hk HT.out HC.out (Kd.C_below HR.out hb)); have HB := Aside0.mk hb; have HZ := Aside0.mk hs; have z0 := E.out.cell (enV_0 x _ _); have z1 := (E.out.cell (enV_1 x _ _)).trans (congrArg (fun b => some (Value.bool b)) HD.out); have z34 := E.out.cell (enV_34 x _ _ HT.out); clear hk hb hs) | ((with_reducible refine gate_dst (N := 6) rfl ?_); refine load_en rfl (.tmp 1) rfl w.heap.size rfl E.out ?_) | (go_at_call 22; with_reducible refine (may_calls E.out.K HS.out.1 HS.out.2).mono ?_; rw [HM.out]; rintro e w2 ⟨rfl, hb⟩; have nB_ := Aside0.mk (below_step HB.out hb); have nE_ := Aside0.mk (E.out.below hb); clear HB E z0 z1 z34 hb; have HB := nB_; have E := nE_; clear nB_ nE_; have z0 := E.out.cell (enV_0 x _ _); have z1 := (E.out.cell (enV_1 x _ _)).trans (congrArg (fun b => some (Value.bool b)) HD.out); have z34 := E.out.cell (enV_34 x _ _ HT.out)))
      go_loop [4, 5] (fun v4 v5 => ∃ (i : Nat) (S : Int), i ≤ x.ps.length ∧ 0 ≤ S ∧ S ≤ 4096 * i ∧ v4 = .int .i64 S ∧ v5 = .int .i64 i ∧ Aside0 (S = sumN (x.ps.take i))) (fun _ v5 => x.ps.length - (intOf v5).toNat)
      case atStart => exact ⟨0, 0, by omega, by omega, by omega, rfl, rfl, ⟨rfl⟩⟩
      case round =>
        obtain ⟨i, S, hi, hS0, hS1, rfl, rfl, HQ⟩ := hrel
        by_cases hlt : i < x.ps.length
        · have hltb : decide ((i : Int) < (x.ps.length : Int)) = true := decide_eq_true (by omega)
          have p1 : (0 ≤ (i : Int)) = True := eq_true (by omega)
          have p2 : ((i : Int) < (x.ps.length : Int)) = True := eq_true (by omega)
          obtain ⟨ad, rfl, hil, _, hx⟩ := at_Pc E.out.rd hlt
          have hok := HF.out.2.2.1 _ (rdPc_mem hlt)
          have HTK := Aside0.mk (take_rdPc hlt)
          clear hil
          generalize rdPc x.ps i = p at *
          obtain ⟨n, hn⟩ : ∃ n, n = p.n := ⟨_, rfl⟩
          rw [← hn] at hok hx
          have h1n := hok.1
          have h2n := hok.2
          have HNN := Aside0.mk hn
          clear hn hok
          have HQ2 := Aside0.mk (show S + n = sumN (x.ps.take (i + 1)) by rw [HTK.out, sumN_snoc, ← HQ.out, ← HNN.out])
          have HS1 := Aside0.mk (show S + n ≤ 4096 * ((i + 1 : Nat) : Int) by omega)
          have HS0 := Aside0.mk (show 0 ≤ S + n by omega)
          have hwi : wrap64 ((i : Int) + 1) = (i : Int) + 1 := n64 (by omega) (by omega)
          have hws : wrap64 (S + n) = S + n := n64 (by omega) (by omega)
          go_wp2
          go_round
          case rel => exact ⟨i + 1, S + n, hlt, HS0.out, HS1.out, rfl, by go_num, HQ2⟩
          case measure => simp [intOf]; exact left_lt hlt
        · obtain rfl : i = x.ps.length := by omega
          have hltb : decide ((x.ps.length : Int) < (x.ps.length : Int)) = false := decide_eq_false (by omega)
          have hQ := HQ.out
          rw [List.take_length] at hQ
          have HQ3 := Aside0.mk hQ
          clear hQ
          go_wp2
          go_ret2
          exact ⟨by rw [HV.out, ← HQ3.out]; rfl, HB.out⟩
end Go.Proofs.Ytphpinfingaffaa.Law
