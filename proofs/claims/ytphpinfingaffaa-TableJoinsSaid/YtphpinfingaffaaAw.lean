/- few; the file that the document fixes: the walk of awake. -/
import Derived.Test.YtphpinfingaffaaPc
import Derived.Laws.Tables
namespace Go.Proofs.Ytphpinfingaffaa.Law
open Go.RowKit Go.Proofs.Ytphpinfingaffaa Go.Proofs.YtphpinfingaffaaW.PrintWords Go.Proofs.YtphpinfingaffaaW.PrintLast Go.Proofs.YtphpinfingaffaaW.PrintMore Go.Proofs.Ytphpinfingaffaa.D Go.Proofs.Ytphpinfingaffaa.Fl
set_option linter.unusedSimpArgs false
set_option linter.unusedVariables false
def fewB (x : En) : Bool := decide (x.nm.size ≤ 1000 ∧ x.ps.length ≤ 300)
set_option maxHeartbeats 4000000 in
set_option maxRecDepth 100000 in
theorem few_calls {x : En} {cs : List Value} {w : World} (h : kEn.K w x cs) (b : Bool) (hb : fewB x = b) : Calls Try.prog 7 #[.agg cs.toArray] w fun e w' => e = .returned (.bool b) ∧ Below w.heap.size w w' := by
  obtain ⟨A, c, rfl, ht, hc, hr⟩ := kEn_open h
  have HT := Aside0.mk ht
  have HC := Aside0.mk hc
  have HR := Aside0.mk hr
  have HF := Aside0.mk hb
  clear h ht hc hr hb
  by_cases h1 : x.nm.size ≤ 1000
  · have b1 : decide ((x.nm.size : Int) ≤ 1000) = true := decide_eq_true (by omega)
    by_cases h2 : x.ps.length ≤ 300
    · have b2 : decide ((x.ps.length : Int) ≤ 300) = true := decide_eq_true (by omega)
      have HB0 := Aside0.mk (show b = true by rw [← HF.out]; exact decide_eq_true ⟨h1, h2⟩)
      clear h1 h2
      go_enter Try.func7, Try.ntmps7
      go_wp2_with (first | ((with_reducible refine gate_dst (N := 1) rfl ?_); refine wpList_box rfl 26 (.tmp 0) rfl (enV x A c) rfl ?_; intro w1 hk hb hs; have E := Aside0.mk (EnAt.mk hk HT.out HC.out (Kd.C_below HR.out hb)); have HB := Aside0.mk hb; have HZ := Aside0.mk hs; have z0 := E.out.cell (enV_0 x _ _); have z1 := E.out.cell (enV_1 x _ _); have z34 := E.out.cell (enV_34 x _ _ HT.out); clear hk hb hs))
      go_ret
      exact ⟨by rw [HB0.out]; rfl, HB.out⟩
    · have b2 : decide ((x.ps.length : Int) ≤ 300) = false := decide_eq_false (by omega)
      have HB0 := Aside0.mk (show b = false by rw [← HF.out]; exact decide_eq_false (fun n => h2 n.2))
      clear h1 h2
      go_enter Try.func7, Try.ntmps7
      go_wp2_with (first | ((with_reducible refine gate_dst (N := 1) rfl ?_); refine wpList_box rfl 26 (.tmp 0) rfl (enV x A c) rfl ?_; intro w1 hk hb hs; have E := Aside0.mk (EnAt.mk hk HT.out HC.out (Kd.C_below HR.out hb)); have HB := Aside0.mk hb; have HZ := Aside0.mk hs; have z0 := E.out.cell (enV_0 x _ _); have z1 := E.out.cell (enV_1 x _ _); have z34 := E.out.cell (enV_34 x _ _ HT.out); clear hk hb hs))
      go_ret
      exact ⟨by rw [HB0.out]; rfl, HB.out⟩
  · have b1 : decide ((x.nm.size : Int) ≤ 1000) = false := decide_eq_false (by omega)
    have HB0 := Aside0.mk (show b = false by rw [← HF.out]; exact decide_eq_false (fun n => h1 n.1))
    clear h1
    go_enter Try.func7, Try.ntmps7
    go_wp2_with (first | ((with_reducible refine gate_dst (N := 1) rfl ?_); refine wpList_box rfl 26 (.tmp 0) rfl (enV x A c) rfl ?_; intro w1 hk hb hs; have E := Aside0.mk (EnAt.mk hk HT.out HC.out (Kd.C_below HR.out hb)); have HB := Aside0.mk hb; have HZ := Aside0.mk hs; have z0 := E.out.cell (enV_0 x _ _); have z1 := E.out.cell (enV_1 x _ _); have z34 := E.out.cell (enV_34 x _ _ HT.out); clear hk hb hs))
    go_ret
    exact ⟨by rw [HB0.out]; rfl, HB.out⟩
/-! the file that the document fixes -/
theorem wpList_build_to {P : Program} {ops : Array Oper} {rest : List Oper} {o : Oper} {a : Act} {w : World} {Q : Exit → Act → World → Prop} (hg : o.guard = none) (t : TypeId) (parts : Array (Nat × Operand)) (ho : o.op = .build t parts) (vs : List (Nat × Value)) (hv : (parts.map fun (i, x) => (i, a.eval x)).toList = vs)
    (cells : Array Value) (hf : P.built t vs = some cells) (h : wpList P ops Q rest (a.put o.dst (.agg cells)) w) : wpList P ops Q (o :: rest) a w := by
  refine wpList_build hg t parts ho (by rw [hv, hf]; rfl) ?_
  rw [hv, hf]; exact h
abbrev P3_ : Pc := ⟨zeros32, 3⟩
abbrev P4_ : Pc := ⟨zeros32, 4⟩
abbrev P5_ : Pc := ⟨zeros32, 5⟩
abbrev aw : En := ⟨⟨#[97]⟩, false, zeros32, [P3_, P4_, P5_]⟩
theorem b3 : Try.prog.built 62 [(1, .int .i64 3)] = some (pcV P3_).toArray := by kernel_rfl
theorem b4 : Try.prog.built 62 [(1, .int .i64 4)] = some (pcV P4_).toArray := by kernel_rfl
theorem b5 : Try.prog.built 62 [(1, .int .i64 5)] = some (pcV P5_).toArray := by kernel_rfl
theorem b26 (g : Nat) : Try.prog.built 26 [(0, .string ⟨#[97]⟩), (3, .slice (some ⟨g, 0, none⟩) 3 3)] = some (enV aw (some ⟨g, 0, none⟩) 3).toArray := by kernel_rfl
theorem info62q : (Try.prog.info? 62).map (fun i => (i.zero, i.size)) = some (some (.agg (pcV ⟨zeros32, 0⟩).toArray), 33) := by kernel_rfl
theorem build_three {ops : Array Oper} {rest : List Oper} {o : Oper} {a : Act} {w : World} {Q : Exit → Act → World → Prop} (hgd : o.guard = none) (x y z : Operand) (ho : o.op = .buildSlice 24 3 #[(0, x), (1, y), (2, z)]) (p q r : Pc) (hp : p.id.length = 32) (hq : q.id.length = 32) (hr : r.id.length = 32)
    (hx : a.eval x = .agg (pcV p).toArray) (hy : a.eval y = .agg (pcV q).toArray) (hz : a.eval z = .agg (pcV r).toArray)
    (h : ∀ w1 : World, Kd.C kPc w1 (some ⟨w.heap.size, 0, none⟩) 3 [p, q, r] → Below w.heap.size w w1 → wpList Try.prog ops Q rest (a.put o.dst (.slice (some ⟨w.heap.size, 0, none⟩) 3 3)) w1) : wpList Try.prog ops Q (o :: rest) a w := by
  obtain ⟨ie, hie, hzz⟩ := Option.map_eq_some_iff.1 info62q
  simp only [Prod.mk.injEq] at hzz
  obtain ⟨hz1, hz2⟩ := hzz
  have hlen : ∀ v ∈ [Value.agg (pcV p).toArray, .agg (pcV q).toArray, .agg (pcV r).toArray], v.cells.size = 33 := fun v hv => by
    rcases List.mem_cons.mp hv with rfl | hv
    · show (pcV p).toArray.size = 33; rw [List.size_toArray, pcV_len hp]
    · rcases List.mem_cons.mp hv with rfl | hv
      · show (pcV q).toArray.size = 33; rw [List.size_toArray, pcV_len hq]
      · rw [List.mem_singleton.mp hv]; show (pcV r).toArray.size = 33; rw [List.size_toArray, pcV_len hr]
  refine wpList_buildSlice hgd 24 62 3 _ ho (pcV p ++ (pcV q ++ pcV r)).toArray ie _ Try.underlying24 hie hz1 (by rw [hz2]; decide) (by rw [hz2]; decide) ?_ (h _ ?_ (below_alloc (Below.refl _ _) _))
  · rw [hz2]
    have hf := Great.fill_whole (s := 33) (by decide) [Value.agg (pcV p).toArray, .agg (pcV q).toArray, .agg (pcV r).toArray] ((Array.range (3 * 33)).map ((Value.agg (pcV ⟨zeros32, 0⟩).toArray).cells[· % (Value.agg (pcV ⟨zeros32, 0⟩).toArray).cells.size]!)) hlen (by rw [Array.size_map, Array.size_range]; rfl)
    simp only [List.map_toArray, List.map_cons, List.map_nil, hx, hy, hz]
    refine Eq.trans hf ?_
    simp [Value.cells]
  · refine ⟨rfl, by decide, fun _ => ⟨_, rfl, fun j u hj => ?_⟩⟩
    have hblk := heap_alloc_new w (.cells (pcV p ++ (pcV q ++ pcV r)).toArray 62)
    have hcell : ∀ k v, (pcV p ++ (pcV q ++ pcV r))[k]? = some v → (w.alloc (.cells (pcV p ++ (pcV q ++ pcV r)).toArray 62)).cell? ((⟨w.heap.size, 0, none⟩ : Addr).add k) = some v := fun k v hv => by
      rw [addr_add, Nat.zero_add, blk_cell hblk k, List.getElem?_toArray, hv]
    have lp := pcV_len hp
    have lq := pcV_len hq
    rcases j with _ | _ | _ | j
    · obtain rfl : p = u := Option.some.inj hj
      exact ⟨pcV p, lp, ⟨_, _, rfl, ⟨rfl, hp⟩, rfl⟩, fun i v hv => hcell _ v (by rw [show 0 * kPc.sz + i = i by omega, List.getElem?_append_left (List.getElem?_eq_some_iff.mp hv).1, hv])⟩
    · obtain rfl : q = u := Option.some.inj hj
      exact ⟨pcV q, lq, ⟨_, _, rfl, ⟨rfl, hq⟩, rfl⟩, fun i v hv => hcell _ v (by
        rw [show (0 + 1) * kPc.sz + i = 33 + i from by show 1 * 33 + i = _; omega, List.getElem?_append_right (by omega), lp, Nat.add_sub_cancel_left, List.getElem?_append_left (List.getElem?_eq_some_iff.mp hv).1, hv])⟩
    · obtain rfl : r = u := Option.some.inj hj
      exact ⟨pcV r, pcV_len hr, ⟨_, _, rfl, ⟨rfl, hr⟩, rfl⟩, fun i v hv => hcell _ v (by
        rw [show (0 + 1 + 1) * kPc.sz + i = 33 + (33 + i) from by show 2 * 33 + i = _; omega, List.getElem?_append_right (by omega), lp, Nat.add_sub_cancel_left, List.getElem?_append_right (by omega), lq, Nat.add_sub_cancel_left, hv])⟩
    · simp at hj
theorem may_aw : mayB aw = true := by decide +kernel
theorem size_aw : sizeP aw = (12, 0) := by unfold sizeP; rw [may_aw]; rfl
theorem pick_aw : pickP aw 2 6 = ([⟨0, 2, 1⟩, ⟨1, 0, 4⟩, ⟨2, 0, 1⟩], 0) := by unfold pickP; rw [size_aw]; rfl
theorem sz_aw : Sz1 aw := ⟨by decide, by decide⟩
theorem f_1 : floatOfInt .f64 1 = 4607182418800017408 := by decide
theorem f_4 : floatOfInt .f64 4 = 4616189618054758400 := by decide
theorem eq_in (d : Nat) {a b : Nat} (ha : (FloatKind.f64.format.order a a == some .eq) = true) (hb : (FloatKind.f64.format.order b b == some .eq) = true) (w : World) : (Op.equalIn (d + 1) 39 (.complex .f64 a b) (.complex .f64 a b)).run Try.prog w = .ok true w := by
  have h1 : Op.floatEq .f64 a a = true := ha
  have h2 : Op.floatEq .f64 b b = true := hb
  simp [Op.equalIn, run_underlying Try.underlying39, h1, h2]
theorem pick26 {A : Option Addr} {c : Nat} {w : World} {g : Nat} (hE : EnAt w g aw A c) : Calls Try.prog 14 #[.agg (enV aw A c).toArray, .int .i64 2, .int .i64 6] w fun e w' => ∃ g2 cap2, e = .returned (.tuple #[.slice (some ⟨g2, 0, none⟩) 3 cap2, .int .i64 0]) ∧
    w'.cell? ⟨g2, 2, none⟩ = some (.int .i64 1) ∧ w'.cell? ⟨g2, 3, none⟩ = some (.complex .f64 0 4616189618054758400) ∧ Below w.heap.size w w' := by
  have h := tpick_calls hE.K sz_aw 2 6
  rw [pick_aw] at h
  refine h.mono ?_
  rintro e w' ⟨V, rfl, hv, hb⟩
  obtain ⟨g2, cap2, rfl, _, _⟩ := Kd.R_form hv (by decide)
  obtain ⟨_, _, hC⟩ := Kd.R_reads' hv
  obtain ⟨ad, e0, c4, c5⟩ := at_T42 hC 1 (by decide) (by decide)
  cases e0
  refine ⟨g2, cap2, rfl, c4, ?_, hb⟩
  refine Eq.trans c5 ?_
  show some (Value.complex .f64 (floatOfInt .f64 0) (floatOfInt .f64 4)) = _
  rw [f_zero, f_4]
set_option maxHeartbeats 4000000 in
set_option maxRecDepth 100000 in
theorem awake_calls (w : World) : Calls Try.prog 8 #[] w fun e w' => e = .returned (.bool true) ∧ Below w.heap.size w w' := by
  have q4 : (FloatKind.f64.format.order 4616189618054758400 4616189618054758400 == some .eq) = true := by have := o_eq (n := 4) (by decide) (by decide); rwa [f_4] at this
  have q0 : (FloatKind.f64.format.order 0 0 == some .eq) = true := by have := o_eq (n := 0) (by decide) (by decide); rwa [f_zero] at this
  have e1 := eq_in 9998 q0 q4
  clear q4 q0
  go_enter Try.func8, Try.ntmps8
  go_wp2_with (first | ((with_reducible refine gate_dst (N := 6) rfl ?_); refine wpList_build_to rfl 62 _ rfl _ rfl _ b3 ?_) | ((with_reducible refine gate_dst (N := 7) rfl ?_); refine wpList_build_to rfl 62 _ rfl _ rfl _ b4 ?_) | ((with_reducible refine gate_dst (N := 8) rfl ?_); refine wpList_build_to rfl 62 _ rfl _ rfl _ b5 ?_)  | ((with_reducible refine gate_dst (N := 9) rfl ?_); refine build_three rfl (.tmp 6) (.tmp 7) (.tmp 8) rfl P3_ P4_ P5_ rfl rfl rfl rfl rfl rfl ?_; intro w1 hcp hb1; have HCP := Aside0.mk hcp; have HB := Aside0.mk hb1; clear hcp hb1)  | ((with_reducible refine gate_dst (N := 10) rfl ?_); refine wpList_build_to rfl 26 _ rfl _ rfl _ (b26 w.heap.size) ?_)  | ((with_reducible refine gate_dst (N := 1) rfl ?_); refine new_en rfl rfl rfl (.tmp 1) (.tmp 10) rfl rfl aw (some ⟨w.heap.size, 0, none⟩) 3 rfl rfl ?_; intro w2 hk hb hsz; have E := Aside0.mk (EnAt.mk hk rfl (by decide) (Kd.C_below HCP.out hb)); have nB_ := Aside0.mk (below_step HB.out hb); clear HB hb hk hsz; have HB := nB_; clear nB_)  | ((with_reducible refine gate_dst (N := 12) rfl ?_); refine load_en rfl (.tmp 1) rfl w1.heap.size rfl E.out ?_) | ((with_reducible refine gate_dst (N := 17) rfl ?_); refine load_en rfl (.tmp 1) rfl w1.heap.size rfl E.out ?_) | (go_at_call 9; with_reducible refine (tsize_calls E.out.K sz_aw).mono ?_; rw [size_aw]; rintro e w3 ⟨rfl, hb⟩; have nB_ := Aside0.mk (below_step HB.out hb); have nE_ := Aside0.mk (E.out.below hb); clear HB E hb; have HB := nB_; have E := nE_; clear nB_ nE_) | (go_at_call 14; with_reducible refine (pick26 E.out).mono ?_; rintro e w4 ⟨g2, cap2, rfl, c4, c5, hb⟩; have nB_ := Aside0.mk (below_step HB.out hb); clear HB hb; have HB := nB_; clear nB_))
  go_ret
  exact ⟨rfl, HB.out⟩
end Go.Proofs.Ytphpinfingaffaa.Law
