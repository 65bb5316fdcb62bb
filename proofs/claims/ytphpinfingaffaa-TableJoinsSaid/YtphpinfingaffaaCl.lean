/- What the laws give to Gather: the closures' walks. -/
import Derived.Test.YtphpinfingaffaaGa
namespace Go.Proofs.Ytphpinfingaffaa.Law
open Go.RowKit Go.Proofs.Ytphpinfingaffaa Go.Proofs.YtphpinfingaffaaW.PrintWords Go.Proofs.YtphpinfingaffaaW.PrintLast Go.Proofs.YtphpinfingaffaaW.PrintMore Go.Proofs.Ytphpinfingaffaa.D Go.Proofs.Ytphpinfingaffaa.Fl
set_option linter.unusedSimpArgs false
set_option linter.unusedVariables false
/-- a store into a variable of one cell -/
theorem wpList_store_box {P : Program} {ops : Array Oper} {rest : List Oper} {o : Oper} {a : Act} {w : World} {Q : Exit → Act → World → Prop} (hgd : o.guard = none) (ty : TypeId) (x y : Operand) (ho : o.op = .store ty x y) (g t : Nat) (hx : a.eval x = .pointer (some ⟨g, 0, none⟩)) (v old : Value) (hy : a.eval y = v) (hv : v.cells = #[v]) (h1 : v.oneCell' = true)
    (hk : w.heap[g]? = some (.cells #[old] t (0, 0))) (hi : (P.info? ty).map (·.size) = some 1)
    (h : ∀ w1 : World, w1.heap[g]? = some (.cells #[v] t (0, 0)) → Only g w w1 → wpList P ops Q rest (a.put o.dst undef) w1) : wpList P ops Q (o :: rest) a w := by
  refine wpList_plain hgd fun K hK => ?_
  have hs : (storeVar ty ⟨g, 0, none⟩ v).run P w = .ok () (w.setCell ⟨g, 0, none⟩ v) := by
    cases hq : P.info? ty with
    | none => simp [hq] at hi
    | some i =>
      have hsz : i.size = 1 := by simpa [hq] using hi
      have hr := run_storeCells_row (P := P) g 0 [v] 0 w (fun u hu => by rw [List.mem_singleton.mp hu]; exact h1) (fun j hj => by
        have : j = 0 := by simpa using hj
        subst this
        exact ⟨old, (blk_cell hk 0).trans rfl⟩) (fun j => blk_frozen hk j)
      have he : setRow w g 0 [v] 0 = w.setCell ⟨g, 0, none⟩ v := rfl
      rw [he] at hr
      simp [storeVar, sizeOf, typeInfo, hq, hsz, hv, hr]
  unfold Oper.wp execOp
  simp only [ho, hx, hy, Instr.storeAt, Instr.sureAddr, Sem.run_bind, Sem.run_pure, Result.andThen_ok, hs]
  exact hK _ _ (h _ (blk_put hk 0 v rfl) ((Only.refl g w).set 0 v))
theorem info4s : (Try.prog.info? 4).map (·.size) = some 1 := by kernel_rfl
theorem info3s : (Try.prog.info? 3).map (·.size) = some 1 := by kernel_rfl
/-- what the k-th piece gives -/
def resF (bad : Int) (sh : Bool) (k n : Nat) : List Int × Int := if (k : Int) = bad then (if sh then ((pieceB k n).drop 1, 0) else ([], 11)) else (pieceB k n, 0)
/-- between W and W' the two boxes alone have turned -/
structure Two (g h : Nat) (W W' : World) : Prop where
  os : W'.os = W.os
  tape : W'.tape = W.tape
  output : W'.output = W.output
  size : W.heap.size ≤ W'.heap.size
  block : ∀ k, k < W.heap.size → k ≠ g → k ≠ h → W'.heap[k]? = W.heap[k]?
theorem Two.of {g h : Nat} {W W1 W2 : World} (a : Only g W W1) (b : Only h W1 W2) : Two g h W W2 :=
  ⟨b.os.trans a.os, b.tape.trans a.tape, b.output.trans a.output, by rw [b.size, a.size]; exact Nat.le_refl _, fun k _ h1 h2 => (b.block k h2).trans (a.block k h1)⟩
theorem Two.new {g h : Nat} {W W1 W2 : World} (a : Two g h W W1) (b : Below W1.heap.size W1 W2) : Two g h W W2 :=
  ⟨b.os.trans a.os, b.tape.trans a.tape, b.output.trans a.output, Nat.le_trans a.size b.size, fun k hk h1 h2 => (b.block k (Nat.lt_of_lt_of_le hk a.size)).trans (a.block k hk h1 h2)⟩
theorem below_two2 {B g h : Nat} {W W' : World} (t : Two g h W W') (hB : B ≤ W.heap.size) (hg : B ≤ g) (hh : B ≤ h) : Below B W W' := ⟨t.os, t.tape, t.output, t.size, fun k hk => t.block k (by omega) (by omega) (by omega)⟩
theorem C_two {α : Type} {d : Kd α} {w1 W W' : World} {A : Option Addr} {n : Nat} {xs : List α} (h : Kd.C d w1 A n xs) (hb : Below w1.heap.size w1 W') : Kd.C d W' A n xs := Kd.C_below h hb
set_option maxHeartbeats 4000000 in
set_option maxRecDepth 100000 in
theorem clo18 (w1 W : World) (gok gat gw gx gb gs : Nat) (x : En) (A : Option Addr) (c : Nat) (parts : List P42) (Aw : Option Addr) (cw j k n : Nat) (bad : Int) (sh : Bool)
    (hR : Kd.C kPc w1 A x.ps.length x.ps) (hP : Kd.C k51 w1 Aw parts.length parts) (h1 : Below w1.heap.size w1 W) (hg1 : w1.heap.size ≤ gok) (hg2 : w1.heap.size ≤ gat) (hT : x.tree.length = 32) (hC : x.ps.length ≤ c)
    (kok : W.heap[gok]? = some (.cells #[.bool true] 4 (0, 0))) (kat : W.heap[gat]? = some (.cells #[.int .i64 (j : Int)] 3 (0, 0))) (kw : W.heap[gw]? = some (.cells #[.slice Aw parts.length cw] 45 (0, 0))) (kx : W.heap[gx]? = some (.cells (enV x A c).toArray 26 (0, 0)))
    (kb : W.heap[gb]? = some (.cells #[.int .i64 bad] 3 (0, 0))) (ks : W.heap[gs]? = some (.cells #[.bool sh] 4 (0, 0))) (hne1 : gok ≠ gs) (hne2 : gat ≠ gb)
    (hj : j < parts.length) (hpl : parts.length ≤ 1000) (hk : (rd_T42 parts (j : Int)).i = (k : Int)) (hkl : k < x.ps.length) (hl : x.ps.length ≤ 300) (hn : (rdPc x.ps k).n = (n : Int)) (hn1 : 1 ≤ n) (hn2 : n ≤ 4096) :
    Calls Try.prog 18 #[.int .i64 (k : Int), .pointer (some ⟨gok, 0, none⟩), .pointer (some ⟨gat, 0, none⟩), .pointer (some ⟨gw, 0, none⟩), .pointer (some ⟨gx, 0, none⟩), .pointer (some ⟨gb, 0, none⟩), .pointer (some ⟨gs, 0, none⟩)] W
      fun e W' => ∃ (A' : Option Addr) (c' : Nat), e = .returned (.tuple #[.slice A' (resF bad sh k n).1.length c', .int .i64 (resF bad sh k n).2]) ∧ (resF bad sh k n).1.length ≤ c' ∧ Kd.C (Kd.int .u8) W' A' (resF bad sh k n).1.length (resF bad sh k n).1 ∧
        W'.heap[gok]? = some (.cells #[.bool true] 4 (0, 0)) ∧ W'.heap[gat]? = some (.cells #[.int .i64 ((j + 1 : Nat) : Int)] 3 (0, 0)) ∧ Two gok gat W W' := by
  obtain ⟨ad, rfl, hx0, _, _⟩ := at_T51 (Kd.C_below hP h1) (j : Int) (Int.natCast_nonneg _) (lt_lt hj)
  rw [Int.toNat_natCast, hk] at hx0
  have hadb : (ad.add (j * 3)).block < w1.heap.size := by
    obtain ⟨ad', e', h0, _, _⟩ := at_T51 hP (j : Int) (Int.natCast_nonneg _) (lt_lt hj)
    obtain rfl := Option.some.inj e'
    rw [Int.toNat_natCast] at h0
    exact World.block_lt_of_cell? w1 _ h0
  have HKOK := Aside0.mk kok
  have HKAT := Aside0.mk kat
  have HKX := Aside0.mk kx
  have HKB := Aside0.mk kb
  have HKS := Aside0.mk ks
  have HR := Aside0.mk hR
  have H1 := Aside0.mk h1
  have HT := Aside0.mk hT
  have HC := Aside0.mk hC
  have HN := Aside0.mk hn
  have HG := Aside0.mk (And.intro hg1 hg2)
  have HNE := Aside0.mk (And.intro hne1 hne2)
  have HNN := Aside0.mk (And.intro hn1 hn2)
  have HKL := Aside0.mk hkl
  have HL := Aside0.mk hl
  have zok := (blk_cell kok 0).trans rfl
  have zat := (blk_cell kat 0).trans rfl
  have zw := (blk_cell kw 0).trans rfl
  have p1 : (0 ≤ (j : Int)) = True := eq_true (Int.natCast_nonneg _)
  have p2 : ((j : Int) < (parts.length : Int)) = True := eq_true (lt_lt hj)
  have p3 : decide ((j : Int) < (parts.length : Int)) = true := decide_eq_true (lt_lt hj)
  have p4 : decide ((k : Int) < 0) = false := decide_eq_false (by omega)
  have p5 : decide ((x.ps.length : Int) ≤ (k : Int)) = false := decide_eq_false (by omega)
  have p5n : decide (x.ps.length ≤ k) = false := decide_eq_false (by omega)
  have hwj : wrap64 ((j : Int) + 1) = (j : Int) + 1 := wi hj hpl
  have HPC := Aside0.mk (fun (W : World) (h : EnAt W gx x A c) => piece_calls h.K k n hkl hl hn hn2)
  clear hR hP h1 hg1 hg2 hT hC kok kat kw kx kb ks hne1 hne2 hk hl hn hn1 hn2 hkl hj
  obtain ⟨iU, hiU, hzU⟩ := Option.map_eq_some_iff.1 info5
  have HU := Aside0.mk (And.intro hiU (show iU.size = 1 by simp only [Prod.mk.injEq] at hzU; exact hzU.2.1))
  clear hiU hzU
  go_enter Try.func18, Try.ntmps18
  by_cases hb : (k : Int) = bad
  · have b1 : ((k : Int) == bad) = true := beq_iff_eq.mpr hb
    cases sh with
    | true =>
      have HQ := Aside0.mk (show resF bad true k n = ((pieceB k n).drop 1, 0) by unfold resF; rw [if_pos hb]; rfl)
      clear hb
      go_wp2_with (first | ((with_reducible refine gate_store (t := 4) (p := 1) (v := .tmp 26) rfl ?_); refine wpList_store_box rfl 4 (.tmp 1) (.tmp 26) rfl gok 4 rfl (.bool true) _ rfl rfl rfl HKOK.out info4s ?_; intro w2 hk2 ho2; have K2 := Aside0.mk hk2; have O2 := Aside0.mk ho2; clear hk2 ho2 zok zw; have zat2 := (blk_cell ((O2.out.block gat (blk_ne HKAT.out HKOK.out (by decide))).trans HKAT.out) 0).trans rfl; clear zat) | ((with_reducible refine gate_store (t := 3) (p := 2) (v := .tmp 28) rfl ?_); refine wpList_store_box rfl 3 (.tmp 2) (.tmp 28) rfl gat 3 rfl (.int .i64 ((j : Int) + 1)) _ (congrArg (Value.int .i64) hwj) rfl rfl ((O2.out.block gat (blk_ne HKAT.out HKOK.out (by decide))).trans HKAT.out) info3s ?_; intro w3 hk3 ho3; have K3 := Aside0.mk hk3; have O3 := Aside0.mk ho3; have T3 := Aside0.mk (Two.of O2.out ho3); have KO3 := Aside0.mk ((ho3.block gok (fun h => blk_ne HKAT.out HKOK.out (by decide) h.symm)).trans K2.out); have E := Aside0.mk (EnAt.mk ((T3.out.block gx (blk_lt HKX.out) (blk_ne HKX.out HKOK.out (by decide)) (blk_ne HKX.out HKAT.out (by decide))).trans HKX.out) HT.out HC.out (Kd.C_below HR.out (H1.out.trans (below_two2 T3.out H1.out.size HG.out.1 HG.out.2)))); have zb := (blk_cell ((T3.out.block gb (blk_lt HKB.out) (blk_ne HKB.out HKOK.out (by decide)) HNE.out.2.symm).trans HKB.out) 0).trans rfl; have zs := (blk_cell ((T3.out.block gs (blk_lt HKS.out) HNE.out.1.symm (blk_ne HKS.out HKAT.out (by decide))).trans HKS.out) 0).trans rfl; have z34 := E.out.cell (enV_34 x _ _ HT.out); clear hk3 ho3 zat2) | ((with_reducible refine gate_dst (N := 38) rfl ?_); refine load_en rfl (.tmp 4) rfl gx rfl E.out ?_) | (go_at_call 16; with_reducible refine (HPC.out _ E.out).mono ?_; rintro e w4 ⟨V4, rfl, hv, hb⟩; obtain ⟨A4, c4, rfl⟩ := Kd.R_slice hv; have HV := Aside0.mk (Kd.R_reads' hv); have HSL := Aside0.mk (print_drop_of (P := Try.prog) (Value.int .u8) (0 : Int) 53 5 .i64 Try.underlying53 HU.out.1 HU.out.2 A4 c4 (pieceB k n) 1 (by decide) (by rw [pieceB_len]; have := HNN.out.1; omega) (Kd.R_reads' hv).2.1); obtain ⟨A5, hsl, hsr, hsc⟩ := HSL.out; have HSR := Aside0.mk (And.intro hsr hsc); clear HSL hsr hsc; have zb := (blk_cell (blk_below ((T3.out.block gb (blk_lt HKB.out) (blk_ne HKB.out HKOK.out (by decide)) HNE.out.2.symm).trans HKB.out) hb) 0).trans rfl; have zs := (blk_cell (blk_below ((T3.out.block gs (blk_lt HKS.out) HNE.out.1.symm (blk_ne HKS.out HKAT.out (by decide))).trans HKS.out) hb) 0).trans rfl; have T4 := Aside0.mk (T3.out.new hb); have KO4 := Aside0.mk (blk_below KO3.out hb); have K4 := Aside0.mk (blk_below K3.out hb); clear hv hb z34))
      go_ret2
      rw [HQ.out]
      dsimp only
      have hld : ((pieceB k n).drop 1).length = (pieceB k n).length - 1 := List.length_drop
      have hsc := HSR.out.2
      refine ⟨A5, c4 - 1, by rw [hld]; rfl, hsc, ?_, KO4.out, K4.out, T4.out⟩
      exact Kd.C_of_reads (enc := Value.int .u8) (d := (0 : Int)) (h1 := fun _ => rfl) (HSR.out.1 w4 (Kd.reads_of_C (enc := Value.int .u8) (d := (0 : Int)) (h1 := fun _ => rfl) HV.out.2.2))
    | false =>
      have HQ := Aside0.mk (show resF bad false k n = ([], 11) by unfold resF; rw [if_pos hb]; rfl)
      clear hb
      go_wp2_with (first | ((with_reducible refine gate_store (t := 4) (p := 1) (v := .tmp 26) rfl ?_); refine wpList_store_box rfl 4 (.tmp 1) (.tmp 26) rfl gok 4 rfl (.bool true) _ rfl rfl rfl HKOK.out info4s ?_; intro w2 hk2 ho2; have K2 := Aside0.mk hk2; have O2 := Aside0.mk ho2; clear hk2 ho2 zok zw; have zat2 := (blk_cell ((O2.out.block gat (blk_ne HKAT.out HKOK.out (by decide))).trans HKAT.out) 0).trans rfl; clear zat) | ((with_reducible refine gate_store (t := 3) (p := 2) (v := .tmp 28) rfl ?_); refine wpList_store_box rfl 3 (.tmp 2) (.tmp 28) rfl gat 3 rfl (.int .i64 ((j : Int) + 1)) _ (congrArg (Value.int .i64) hwj) rfl rfl ((O2.out.block gat (blk_ne HKAT.out HKOK.out (by decide))).trans HKAT.out) info3s ?_; intro w3 hk3 ho3; have K3 := Aside0.mk hk3; have O3 := Aside0.mk ho3; have T3 := Aside0.mk (Two.of O2.out ho3); have KO3 := Aside0.mk ((ho3.block gok (fun h => blk_ne HKAT.out HKOK.out (by decide) h.symm)).trans K2.out); have E := Aside0.mk (EnAt.mk ((T3.out.block gx (blk_lt HKX.out) (blk_ne HKX.out HKOK.out (by decide)) (blk_ne HKX.out HKAT.out (by decide))).trans HKX.out) HT.out HC.out (Kd.C_below HR.out (H1.out.trans (below_two2 T3.out H1.out.size HG.out.1 HG.out.2)))); have zb := (blk_cell ((T3.out.block gb (blk_lt HKB.out) (blk_ne HKB.out HKOK.out (by decide)) HNE.out.2.symm).trans HKB.out) 0).trans rfl; have zs := (blk_cell ((T3.out.block gs (blk_lt HKS.out) HNE.out.1.symm (blk_ne HKS.out HKAT.out (by decide))).trans HKS.out) 0).trans rfl; have z34 := E.out.cell (enV_34 x _ _ HT.out); clear hk3 ho3 zat2) | ((with_reducible refine gate_dst (N := 38) rfl ?_); refine load_en rfl (.tmp 4) rfl gx rfl E.out ?_) | (go_at_call 16; with_reducible refine (HPC.out _ E.out).mono ?_; rintro e w4 ⟨V4, rfl, hv, hb⟩; obtain ⟨A4, c4, rfl⟩ := Kd.R_slice hv; have HV := Aside0.mk (Kd.R_reads' hv); have HSL := Aside0.mk (print_drop_of (P := Try.prog) (Value.int .u8) (0 : Int) 53 5 .i64 Try.underlying53 HU.out.1 HU.out.2 A4 c4 (pieceB k n) 1 (by decide) (by rw [pieceB_len]; have := HNN.out.1; omega) (Kd.R_reads' hv).2.1); obtain ⟨A5, hsl, hsr, hsc⟩ := HSL.out; have HSR := Aside0.mk (And.intro hsr hsc); clear HSL hsr hsc; have zb := (blk_cell (blk_below ((T3.out.block gb (blk_lt HKB.out) (blk_ne HKB.out HKOK.out (by decide)) HNE.out.2.symm).trans HKB.out) hb) 0).trans rfl; have zs := (blk_cell (blk_below ((T3.out.block gs (blk_lt HKS.out) HNE.out.1.symm (blk_ne HKS.out HKAT.out (by decide))).trans HKS.out) hb) 0).trans rfl; have T4 := Aside0.mk (T3.out.new hb); have KO4 := Aside0.mk (blk_below KO3.out hb); have K4 := Aside0.mk (blk_below K3.out hb); clear hv hb z34))
      go_ret2
      rw [HQ.out]
      exact ⟨none, 0, rfl, Nat.le_refl _, Kd.C_nil _ _, KO4.out, K4.out, T4.out⟩
  · have b1 : ((k : Int) == bad) = false := beq_eq_false_iff_ne.mpr hb
    have HQ := Aside0.mk (show resF bad sh k n = (pieceB k n, 0) by unfold resF; rw [if_neg hb])
    clear hb
    go_wp2_with (first | ((with_reducible refine gate_store (t := 4) (p := 1) (v := .tmp 26) rfl ?_); refine wpList_store_box rfl 4 (.tmp 1) (.tmp 26) rfl gok 4 rfl (.bool true) _ rfl rfl rfl HKOK.out info4s ?_; intro w2 hk2 ho2; have K2 := Aside0.mk hk2; have O2 := Aside0.mk ho2; clear hk2 ho2 zok zw; have zat2 := (blk_cell ((O2.out.block gat (blk_ne HKAT.out HKOK.out (by decide))).trans HKAT.out) 0).trans rfl; clear zat) | ((with_reducible refine gate_store (t := 3) (p := 2) (v := .tmp 28) rfl ?_); refine wpList_store_box rfl 3 (.tmp 2) (.tmp 28) rfl gat 3 rfl (.int .i64 ((j : Int) + 1)) _ (congrArg (Value.int .i64) hwj) rfl rfl ((O2.out.block gat (blk_ne HKAT.out HKOK.out (by decide))).trans HKAT.out) info3s ?_; intro w3 hk3 ho3; have K3 := Aside0.mk hk3; have O3 := Aside0.mk ho3; have T3 := Aside0.mk (Two.of O2.out ho3); have KO3 := Aside0.mk ((ho3.block gok (fun h => blk_ne HKAT.out HKOK.out (by decide) h.symm)).trans K2.out); have E := Aside0.mk (EnAt.mk ((T3.out.block gx (blk_lt HKX.out) (blk_ne HKX.out HKOK.out (by decide)) (blk_ne HKX.out HKAT.out (by decide))).trans HKX.out) HT.out HC.out (Kd.C_below HR.out (H1.out.trans (below_two2 T3.out H1.out.size HG.out.1 HG.out.2)))); have zb := (blk_cell ((T3.out.block gb (blk_lt HKB.out) (blk_ne HKB.out HKOK.out (by decide)) HNE.out.2.symm).trans HKB.out) 0).trans rfl; have zs := (blk_cell ((T3.out.block gs (blk_lt HKS.out) HNE.out.1.symm (blk_ne HKS.out HKAT.out (by decide))).trans HKS.out) 0).trans rfl; have z34 := E.out.cell (enV_34 x _ _ HT.out); clear hk3 ho3 zat2) | ((with_reducible refine gate_dst (N := 38) rfl ?_); refine load_en rfl (.tmp 4) rfl gx rfl E.out ?_) | (go_at_call 16; with_reducible refine (HPC.out _ E.out).mono ?_; rintro e w4 ⟨V4, rfl, hv, hb⟩; obtain ⟨A4, c4, rfl⟩ := Kd.R_slice hv; have HV := Aside0.mk (Kd.R_reads' hv); have HSL := Aside0.mk (print_drop_of (P := Try.prog) (Value.int .u8) (0 : Int) 53 5 .i64 Try.underlying53 HU.out.1 HU.out.2 A4 c4 (pieceB k n) 1 (by decide) (by rw [pieceB_len]; have := HNN.out.1; omega) (Kd.R_reads' hv).2.1); obtain ⟨A5, hsl, hsr, hsc⟩ := HSL.out; have HSR := Aside0.mk (And.intro hsr hsc); clear HSL hsr hsc; have zb := (blk_cell (blk_below ((T3.out.block gb (blk_lt HKB.out) (blk_ne HKB.out HKOK.out (by decide)) HNE.out.2.symm).trans HKB.out) hb) 0).trans rfl; have zs := (blk_cell (blk_below ((T3.out.block gs (blk_lt HKS.out) HNE.out.1.symm (blk_ne HKS.out HKAT.out (by decide))).trans HKS.out) hb) 0).trans rfl; have T4 := Aside0.mk (T3.out.new hb); have KO4 := Aside0.mk (blk_below KO3.out hb); have K4 := Aside0.mk (blk_below K3.out hb); clear hv hb z34))
    go_ret2
    rw [HQ.out]
    exact ⟨A4, c4, rfl, HV.out.2.1, HV.out.2.2, KO4.out, K4.out, T4.out⟩
set_option maxHeartbeats 4000000 in
set_option maxRecDepth 100000 in
theorem clo20 (W : World) (gx : Nat) (x : En) (A : Option Addr) (c k n : Nat) (hE : EnAt W gx x A c) (hkl : k < x.ps.length) (hl : x.ps.length ≤ 300) (hn : (rdPc x.ps k).n = (n : Int)) (hn2 : n ≤ 4096) :
    Calls Try.prog 20 #[.int .i64 (k : Int), .pointer (some ⟨gx, 0, none⟩)] W fun e W' => ∃ (A' : Option Addr) (c' : Nat), e = .returned (.tuple #[.slice A' (pieceB k n).length c', .int .i64 0]) ∧ (pieceB k n).length ≤ c' ∧ Kd.C (Kd.int .u8) W' A' (pieceB k n).length (pieceB k n) ∧ Below W.heap.size W W' := by
  have E := Aside0.mk hE
  have HPC := Aside0.mk (fun (W : World) (h : EnAt W gx x A c) => piece_calls h.K k n hkl hl hn hn2)
  clear hE hkl hl hn hn2
  go_enter Try.func20, Try.ntmps20
  go_wp2_with (first | ((with_reducible refine gate_dst (N := 5) rfl ?_); refine load_en rfl (.tmp 1) rfl gx rfl E.out ?_) | (go_at_call 16; with_reducible refine (HPC.out _ E.out).mono ?_; rintro e w4 ⟨V4, rfl, hv, hb⟩; obtain ⟨A4, c4, rfl⟩ := Kd.R_slice hv; have HV := Aside0.mk (Kd.R_reads' hv); have HB := Aside0.mk hb; clear hv hb))
  go_ret2
  exact ⟨A4, c4, rfl, HV.out.2.1, HV.out.2.2, HB.out⟩
end Go.Proofs.Ytphpinfingaffaa.Law
