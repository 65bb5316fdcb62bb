/- Lengths as a whole. -/
import Derived.Test.YtkaabkoadoomjaaLn
import Derived.Maps.OwnIn
import Derived.RangeFuncBox
namespace Go.Proofs.Ytkaabkoadoomjaa.Law
open Go.RowKit Go.Proofs.Ytkaabkoadoomjaa Go.Proofs.Ytkaabkoadoomjaa.D Go.Proofs.Ytkaabkoadoomjaa.Roll Go.Proofs.YtkaabkoadoomjaaW.PrintWords Go.Proofs.YtkaabkoadoomjaaW.PrintLast Go.Proofs.YtkaabkoadoomjaaW.PrintMore
set_option linter.unusedSimpArgs false
set_option linter.unusedVariables false
attribute [local go_sem] Oper.semAt_some
/-- entering a loop over a function, at the wide fence: the record is laid, the one call is made -/
theorem range_enter {n : Nat} {P : Program} {g : Operand} {ps : Array Tmp} {assign body : Code} {Q : Exit → Act → World → Prop} {a : Act} {w : World} {gf : Nat} {lb : Array Value}
    (hg : a.eval g = .func (.func gf) #[] lb) (eg : ∀ args w, (callFunc gf args).run P w = .ok (.enter gf args) w)
    (h : ∀ fn, CallsIn Fence.wide (n - 1) P gf (#[.func (.yield (w.heap.size + 1)) #[] #[]] ++ lb) ((w.alloc (.deferred (some []))).alloc (.loop { state := .ready, pending := none, fn := fn, tmps := a.tmps, params := ps, assign := assign, body := body, defers := w.heap.size }))
      (rangePost Fence.wide n P (w.heap.size + 1) Q { a with defers := [{ target := .collected w.heap.size, args := #[] }] ++ a.defers })) :
    (Code.rangeFunc g ps assign body).wpIn Fence.wide n P Q a w := by
  refine wpIn_rangeFunc fun fn _ => ?_
  refine ⟨_, _, _, { target := .fn (.func gf) lb, args := #[.func (.yield (w.heap.size + 1)) #[] #[]] }, (w.alloc (.deferred (some []))).alloc (.loop { state := .ready, pending := none, fn := fn, tmps := a.tmps, params := ps, assign := assign, body := body, defers := w.heap.size }), gf, _, _, run_enterLoop_outer _ _ _ _ _, ?_, fun _ _ => trivial, ?_, fun e => by simp [Fence.wide] at e, h fn⟩
  · simp only [resolve, hg]
    simp [go_sem]
  · simp [invoke, go_sem, eg]
theorem C_keep {w W W' : World} {A : Option Addr} {l : List Int} (h : Kd.C (Kd.int .u8) W A l.length l) (h0 : Kd.C (Kd.int .u8) w A l.length l) (hk : ∀ q, q < w.heap.size → W'.heap[q]? = W.heap[q]?) : Kd.C (Kd.int .u8) W' A l.length l := by
  cases l with
  | nil => exact Kd.C_of_reads (enc := Value.int .u8) (d := (0 : Int)) (h1 := fun _ => rfl) ⟨rfl, by have := h.2.1; exact this, fun hn => by simp at hn⟩
  | cons x l =>
    refine C_block h fun ad e => hk _ ?_
    obtain ⟨ad', e', hx⟩ := Kd.at_int h0 0 (by omega) (by rw [List.length_cons]; omega)
    rw [e] at e'
    cases e'
    have := World.block_lt_of_cell? w _ hx
    have hbl : (ad.add (0 : Int).toNat).block = ad.block := by unfold Addr.add; split <;> rfl
    rwa [hbl] at this
theorem app_room {n : Nat} (h : n < 17592186044415) : n + 1 ≤ maxLen ∧ (n + 1) * 8 ≤ 140737488355328 := by
  unfold maxLen
  omega
set_option maxHeartbeats 4000000 in
set_option maxRecDepth 100000 in
theorem pieces_calls (m k : Nat) (mn mx : Int) (A : Option Addr) (n cap : Nat) (w : World) : Calls Try.prog 15 #[.agg #[.int .u64 (m : Int), .int .u64 (k : Int), .int .i64 mn, .int .i64 mx], .slice A n cap] w fun e w' => e = .returned (.func (.func 23) #[] #[.pointer (some ⟨w.heap.size, 0, none⟩), .pointer (some ⟨w.heap.size + 1, 0, none⟩)]) ∧ w' = (w.alloc (.cells #[.int .u64 (m : Int), .int .u64 (k : Int), .int .i64 mn, .int .i64 mx] 24)).alloc (.cells #[.slice A n cap] 25) := by
  go_enter Try.func15, Try.ntmps15
  go_wp2
  go_ret
  exact ⟨rfl, rfl⟩
set_option maxHeartbeats 4000000 in
set_option maxRecDepth 100000 in
theorem lengths_no (m k : Nat) (mn mx : Int) (hu : U m) (no : ¬ OkC m mn mx) (A : Option Addr) (n cap : Nat) (w : World) : Calls Try.prog 10 #[.agg #[.int .u64 (m : Int), .int .u64 (k : Int), .int .i64 mn, .int .i64 mx], .slice A n cap] w fun e w' => e = .returned (.tuple #[.slice none 0 0, .int .i64 6]) ∧ Below w.heap.size w w' := by
  have HB := Aside0.mk (below_alloc (Below.refl w.heap.size w) (.cells #[.int .u64 (m : Int), .int .u64 (k : Int), .int .i64 mn, .int .i64 mx] 24))
  have K := heap_alloc_new w (.cells #[.int .u64 (m : Int), .int .u64 (k : Int), .int .i64 mn, .int .i64 mx] 24)
  have z0 := (blk_cell K 0).trans rfl
  have z1 := (blk_cell K 1).trans rfl
  have z2 := (blk_cell K 2).trans rfl
  have z3 := (blk_cell K 3).trans rfl
  have HR := Aside0.mk (right_calls hu (k : Int) mn mx)
  rw [decide_eq_false no] at HR
  clear K no hu
  go_enter Try.func10, Try.ntmps10
  go_wp2_with (go_at_call 11; with_reducible refine (HR.out _).mono ?_; rintro e w1 ⟨rfl, hb⟩; have n0_ := Aside0.mk (below_step HB.out hb); clear HB hb; have HB := n0_; clear n0_)
  go_ret2
  exact ⟨rfl, HB.out⟩
set_option maxHeartbeats 4000000 in
set_option maxRecDepth 100000 in
theorem lengths_ok (m k : Nat) (mn mx : Int) (ok : OkC m mn mx) (hk : U k) (A : Option Addr) (cap : Nat) (b : List Int) (w : World) (hb : Bytes b) (hr : Kd.C (Kd.int .u8) w A b.length b) (hc : b.length ≤ cap) (hlen : (lens m k mn mx [] b).length ≤ 17592186044415) (hlb : b.length ≤ 140737488351232) :
    Calls Try.prog 10 #[.agg #[.int .u64 (m : Int), .int .u64 (k : Int), .int .i64 mn, .int .i64 mx], .slice A b.length cap] w fun e w' => ∃ V, e = .returned (.tuple #[V, .int .i64 0]) ∧ Kd.R (Kd.int .i64) 3 w' w.heap.size (fun _ => True) V (lens m k mn mx [] b) ∧ Below w.heap.size w w' := by
  have HB := Aside0.mk (below_alloc (Below.refl w.heap.size w) (.cells #[.int .u64 (m : Int), .int .u64 (k : Int), .int .i64 mn, .int .i64 mx] 24))
  have K := Aside0.mk (heap_alloc_new w (.cells #[.int .u64 (m : Int), .int .u64 (k : Int), .int .i64 mn, .int .i64 mx] 24))
  have z0 := (blk_cell K.out 0).trans rfl
  have z1 := (blk_cell K.out 1).trans rfl
  have z2 := (blk_cell K.out 2).trans rfl
  have z3 := (blk_cell K.out 3).trans rfl
  have HR := Aside0.mk (right_calls ok.may.u (k : Int) mn mx)
  rw [decide_eq_true ok] at HR
  have HOK := Aside0.mk ok
  have HU := Aside0.mk hk
  have HBY := Aside0.mk hb
  have HRD := Aside0.mk hr
  have HC := Aside0.mk hc
  have HLEN := Aside0.mk hlen
  have HLB := Aside0.mk hlb
  clear ok hk hb hr hc hlen hlb
  refine (callsIn_wide (n := 5)).1 ?_
  refine callsIn_of_wp_marks Try.func10 rfl trivial ?_ rfl
  simp only [Try.ntmps10, List.size_toArray, List.length_cons, List.length_nil, Nat.reduceAdd, Nat.reduceSub, Array.replicate_succ, Array.replicate_zero, List.push_toArray, List.append_toArray, List.nil_append, List.cons_append]
  refine wpIn_wide.2 ?_
  go_wp2_with (first | (go_at_call 11; with_reducible refine (HR.out _).mono ?_; rintro e w1 ⟨rfl, hb⟩; have n0_ := Aside0.mk (below_step HB.out hb); have nK_ := Aside0.mk (blk_below K.out hb); clear HB K hb z0 z1 z2 z3; have HB := n0_; have K := nK_; have z0 := (blk_cell K.out 0).trans rfl; have z1 := (blk_cell K.out 1).trans rfl; have z2 := (blk_cell K.out 2).trans rfl; have z3 := (blk_cell K.out 3).trans rfl; clear n0_ nK_; have zz := (blk_cell (blk_below K.out (below_alloc (Below.refl _ _) (.cells #[.slice none 0 0] 28))) 0).trans rfl; have zz1 := (blk_cell (blk_below K.out (below_alloc (Below.refl _ _) (.cells #[.slice none 0 0] 28))) 1).trans rfl; have zz2 := (blk_cell (blk_below K.out (below_alloc (Below.refl _ _) (.cells #[.slice none 0 0] 28))) 2).trans rfl; have zz3 := (blk_cell (blk_below K.out (below_alloc (Below.refl _ _) (.cells #[.slice none 0 0] 28))) 3).trans rfl) | (go_at_call 15; with_reducible refine (pieces_calls m k mn mx A b.length cap _).mono ?_; rintro e w2 ⟨rfl, rfl⟩))
  have hgo := blk_below (blk_below (heap_alloc_new w1 (.cells #[.slice none 0 0] 28)) (below_alloc (Below.refl _ _) (.cells #[.int .u64 (m : Int), .int .u64 (k : Int), .int .i64 mn, .int .i64 mx] 24))) (below_alloc (Below.refl _ _) (.cells #[.slice A b.length cap] 25))
  have hg0 := blk_below (heap_alloc_new (w1.alloc (.cells #[.slice none 0 0] 28)) (.cells #[.int .u64 (m : Int), .int .u64 (k : Int), .int .i64 mn, .int .i64 mx] 24)) (below_alloc (Below.refl _ _) (.cells #[.slice A b.length cap] 25))
  have hg1 := heap_alloc_new ((w1.alloc (.cells #[.slice none 0 0] 28)).alloc (.cells #[.int .u64 (m : Int), .int .u64 (k : Int), .int .i64 mn, .int .i64 mx] 24)) (.cells #[.slice A b.length cap] 25)
  have hbw : Below w.heap.size w (((w1.alloc (.cells #[.slice none 0 0] 28)).alloc (.cells #[.int .u64 (m : Int), .int .u64 (k : Int), .int .i64 mn, .int .i64 mx] 24)).alloc (.cells #[.slice A b.length cap] 25)) := below_alloc (below_alloc (below_alloc HB.out _) _) _
  have hsz : (((w1.alloc (.cells #[.slice none 0 0] 28)).alloc (.cells #[.int .u64 (m : Int), .int .u64 (k : Int), .int .i64 mn, .int .i64 mx] 24)).alloc (.cells #[.slice A b.length cap] 25)).heap.size = w1.heap.size + 1 + 1 + 1 := by simp only [World.size_alloc]
  have hrw := Kd.C_below HRD.out hbw
  have hwg : w.heap.size ≤ w1.heap.size := HB.out.size
  simp only [World.size_alloc] at hg0 hg1
  clear HB K z0 z1 z2 z3 zz zz1 zz2 zz3 HR
  generalize ((w1.alloc (.cells #[.slice none 0 0] 28)).alloc (.cells #[.int .u64 (m : Int), .int .u64 (k : Int), .int .i64 mn, .int .i64 mx] 24)).alloc (.cells #[.slice A b.length cap] 25) = W at *
  generalize w1.heap.size = go at *
  refine (wpIn_wide (n := 5)).1 (range_enter (gf := 23) (lb := #[.pointer (some ⟨go + 1, 0, none⟩), .pointer (some ⟨go + 1 + 1, 0, none⟩)]) rfl (enters_of Try.func23 (by kernel_rfl) rfl) fun fn => ?_)
  generalize hrec : ({ state := .ready, pending := none, fn := fn, tmps := _, params := _, assign := _, body := _, defers := _ } : Loop) = rec
  have hrd : rec.state = .ready := by rw [← hrec]
  have hWsz : W.heap.size = go + 3 := hsz
  rw [hWsz] at hrec
  obtain ⟨W1, hW1⟩ : ∃ W1, (W.alloc (.deferred (some []))).alloc (.loop rec) = W1 := ⟨_, rfl⟩
  rw [hW1]
  have hb1 : Below W.heap.size W W1 := by rw [← hW1]; exact below_alloc (below_alloc (Below.refl _ _) _) _
  have hsz1 : W1.heap.size = go + 5 := by rw [← hW1]; simp only [World.size_alloc, hWsz]
  have hl1 : W1.heap[W.heap.size + 1]? = some (.loop rec) := by
    rw [← hW1]; have := World.alloc_heap_new (W.alloc (.deferred (some []))) (.loop rec); rwa [World.size_alloc] at this
  have hD1 : W1.heap[W.heap.size]? = some (.deferred (some [])) := by
    rw [← hW1]; exact (Below.heap_alloc _ _ _ (by rw [World.size_alloc]; omega)).trans (World.alloc_heap_new W _)
  have hbw1 := hbw.trans (hb1.mono (show w.heap.size ≤ W.heap.size by omega))
  rw [hWsz] at hl1 hD1 hb1 ⊢
  have hgo1 := (hb1.block go (by omega)).trans hgo
  have hg01 := (hb1.block (go + 1) (by omega)).trans hg0
  have hg11 := (hb1.block (go + 1 + 1) (by omega)).trans hg1
  have hrw1 := Kd.C_below HRD.out hbw1
  clear hW1 hgo hg0 hg1 hb1 hrw hbw hsz
  refine (callsIn_wide.2 (pieces1 m k mn mx HOK.out HU.out A cap b (go + 1) (go + 1 + 1) (go + 3 + 1) W1 HBY.out hrw1 HC.out HLB.out hg01 hg11 (LJ w go (go + 3) (go + 3 + 1) (go + 1 + 1) rec) ?start ?step ?new ?hY)).mono ?_
  case start =>
    intro kb rb w' hkb hrb hbe
    exact ⟨⟨_, (hbe.block go (by omega)).trans hgo1, Kd.R_nil _ _ _ _ _⟩, (hbe.block _ (by omega)).trans hl1, (hbe.block _ (by omega)).trans hD1, hbw1.trans (hbe.mono (by omega)), ⟨by omega, by omega, by omega, by omega⟩, ⟨by omega, by omega, by omega, by omega⟩⟩
  case step => exact fun kb rb pre Wa Wb h ho => h.step ho
  case new => exact fun kb rb pre Wa Wb h ho => h.new ho
  case hY =>
    intro kb rb pre fr n A' Wr hJ hpl hkb hrb hkb0 hrb0
    obtain ⟨V, hbox, hrow⟩ := hJ.box
    obtain ⟨AV, cV, rfl⟩ := Kd.R_slice hrow
    have hlW := (Array.getElem?_eq_some_iff.1 hJ.loop).1
    refine ⟨rec.fn, _, rec.assign, rec.body, run_yield (P := Try.prog) hJ.loop (by rw [← hrec]; rfl), roundIn_of_wpIn trivial ?_⟩
    obtain ⟨recB, hrecB⟩ : ∃ r : Loop, r = { rec with state := .busy } := ⟨_, rfl⟩
    have hbr : ∀ Wx : World, Wx.heap[go + 3 + 1]? = some (.loop rec) → (Instr.beginRound (go + 3 + 1)).run Try.prog Wx = .ok () (Wx.putObj (go + 3 + 1) (.loop recB)) := fun Wx hx => by rw [hrecB]; exact run_beginRound hx hrd
    have her : ∀ Wx : World, Wx.heap[go + 3 + 1]? = some (.loop recB) → (Instr.endRound (go + 3 + 1) none).run Try.prog Wx = .ok (.bool true) (Wx.putObj (go + 3 + 1) (.loop rec)) := fun Wx hx => by
      have := run_endRound (P := Try.prog) none hx
      rw [this, hrecB, ← hrec]; rfl
    have HJ := Aside0.mk hJ
    have HBX := Aside0.mk hbox
    have HRW := Aside0.mk hrow
    have HREC := Aside0.mk hrec
    have HKB := Aside0.mk hkb
    have HRB := Aside0.mk hrb
    clear hkb hrb
    clear hJ hbox hrow hrecB
    have hloop := HJ.out.loop
    rw [← hrec]
    dsimp only
    gi_wp2
    refine ⟨_, hbr _ hloop, ?_⟩
    obtain ⟨W2, hW2⟩ : ∃ x, Wr.putObj (go + 3 + 1) (.loop recB) = x := ⟨_, rfl⟩
    have hgo2 : W2.heap[go]? = some (.cells #[.slice AV pre.length cV] 28 (0, 0)) := by rw [← hW2]; exact (World.putObj_heap_other (by omega)).trans HBX.out
    have hrow2 : Kd.R (Kd.int .i64) 3 W2 w.heap.size (LOk kb rb go (go + 3 + 1) (go + 3) (go + 1 + 1)) (.slice AV pre.length cV) pre := by rw [← hW2]; exact Kd.R_step HRW.out (fun q hq _ => World.putObj_heap_other hq.2.2.2.1)
    have hl2 : W2.heap[go + 3 + 1]? = some (.loop recB) := by rw [← hW2]; exact World.putObj_heap_same hlW
    have hsz2 : W2.heap.size = Wr.heap.size := by rw [← hW2]; exact World.putObj_size
    rw [hW2]
    have zgo := (blk_cell hgo2 0).trans rfl
    have hown := Kd.own_of_R hrow2
    have HNE := Aside0.mk (own_ne HRW.out)
    have HSZ := Aside0.mk hsz2
    have HW2 := Aside0.mk hW2
    have HG2 := Aside0.mk hgo2
    have HL2 := Aside0.mk hl2
    obtain ⟨m1, m2⟩ := app_room (Nat.lt_of_lt_of_le hpl HLEN.out)
    obtain ⟨i0, hi, hz0, hz1, hz2⟩ := info_parts info3
    have hbase : w.heap.size ≤ (W2.alloc (.cells #[.int .i64 (n : Int)] 3)).heap.size := by rw [World.size_alloc, hsz2]; have := HJ.out.bel.size; omega
    clear hW2 hgo2 hl2 hloop hrow2 hsz2 hpl
    gi_wp2_with (gi_at_builtin; refine wpListIn_append_own_at _ rfl (.tmp 17) (.tmp 20) 28 rfl w.heap.size 3 i0 (.int .i64 0) 1 8 Try.underlying28 hi hz0 hz1 hz2 rfl (by decide) (.slice AV pre.length cV) pre.length (encs (Value.int .i64) pre) rfl (hown.alloc _) ⟨W2.heap.size, 0, none⟩ 1 1 [.int .i64 (n : Int)] rfl rfl (cell_one_new _ _ _) (by simp [Value.oneCell']) m1 m2 hbase ?_; intro v' w9 hown' hgrow _ hat; obtain ⟨g', cap', rfl⟩ := ownsRow_succ hown'; have hgo9 := blk_grown (blk_below HG2.out (below_alloc (Below.refl _ _) _)) hgrow HNE.out.1; have zgo9 := (blk_cell hgo9 0).trans rfl; have fgo9 := blk_frozen hgo9 0; have HOWN := Aside0.mk hown'; have HGROW := Aside0.mk hgrow; have HAT := Aside0.mk hat; clear hown' hgrow hat hgo9)
    have hl9 : (w9.setCell ⟨go, 0, none⟩ (.slice (some ⟨g', 0, none⟩) (pre.length + 1) cap')).heap[go + 3 + 1]? = some (.loop recB) :=
      (Below.heap_setCell w9 ⟨go, 0, none⟩ _ _ (by show go + 3 + 1 ≠ go; omega)).trans (blk_grown (blk_below HL2.out (below_alloc (Below.refl _ _) _)) HGROW.out HNE.out.2.1)
    refine ⟨_, _, her _ hl9, rfl, ?_⟩
    (try rw [HREC.out])
    have hgw := HGROW.out
    rw [← HW2.out] at hgw
    have hlt := (Array.getElem?_eq_some_iff.1 HJ.out.loop).1
    have ht := LJ.turn HJ.out HBX.out HRW.out (by omega) (by omega) (by omega) (by omega) hwg HKB.out HRB.out (show go + 1 + 1 < Wr.heap.size by omega) (by omega) (by omega) HOWN.out hgw (HAT.out.imp id (fun h => ⟨_, h, by rw [World.size_alloc, HSZ.out]; omega⟩))
    have hnb : ∀ q, q < w.heap.size → some q ≠ (Value.slice AV pre.length cV).ownBlock := fun q hq e => by
      have := own_base (Kd.own_of_R HRW.out) q e.symm
      omega
    refine ⟨ht.1, ht.2 _ (by omega) (by omega) (by omega) HNE.out.2.2.2.2.2, ht.2 kb HKB.out HJ.out.hkb.2.1 HJ.out.hkb.2.2.1 HNE.out.2.2.2.1, ht.2 rb HRB.out HJ.out.hrb.2.1 HJ.out.hrb.2.2.1 HNE.out.2.2.2.2.1, fun hC => C_keep hC HRD.out fun q hq => ht.2 q (Nat.lt_of_lt_of_le hq HJ.out.bel.size) (by omega) (by omega) (hnb q hq)⟩
  rintro e W3 ⟨⟨v, rfl⟩, kb, rb, hJ⟩
  obtain ⟨rec2, hend⟩ : ∃ r2 : Loop, (Instr.endLoop (go + 3 + 1)).run Try.prog W3 = .ok none (W3.putObj (go + 3 + 1) (.loop r2)) := ⟨_, by have := run_endLoop (P := Try.prog) hJ.loop (by rw [hrd]; decide); rw [show rec.pending = none by rw [← hrec]] at this; exact this⟩
  refine ⟨none, _, hend, ?_⟩
  obtain ⟨V, hbox, hrow⟩ := hJ.box
  have hgo4 : (W3.putObj (go + 3 + 1) (.loop rec2)).heap[go]? = some (.cells #[V] 28 (0, 0)) := (World.putObj_heap_other (by omega)).trans hbox
  have hD4 : (W3.putObj (go + 3 + 1) (.loop rec2)).heap[go + 3]? = some (.deferred (some [])) := (World.putObj_heap_other (by omega)).trans hJ.def_
  have hr4 : Kd.R (Kd.int .i64) 3 (W3.putObj (go + 3 + 1) (.loop rec2)) w.heap.size (LOk kb rb go (go + 3 + 1) (go + 3) (go + 1 + 1)) V (lens m k mn mx [] b) := Kd.R_step hrow (fun q hq _ => World.putObj_heap_other hq.2.2.2.1)
  have hb4 : Below w.heap.size w (W3.putObj (go + 3 + 1) (.loop rec2)) := hJ.bel.trans (belowK_b (w := w) (Nat.le_refl _) W3 _ _ _ (by omega) hJ.loop rfl rfl)
  have HR4 := Aside0.mk hr4
  have HB4 := Aside0.mk hb4
  have HD4 := Aside0.mk hD4
  have zgo4 := (blk_cell hgo4 0).trans rfl
  clear hr4 hb4 hgo4 hD4 hJ hbox hrow hrec hrd hend
  generalize W3.putObj (go + 3 + 1) (.loop rec2) = W4 at *
  go_wp2
  refine ⟨by simp, .inl ⟨_, _, rfl, run_takeDeferred HD4.out, ?_⟩⟩
  exact ⟨_, results_tmp2 rfl _ _ _, V, rfl, Kd.R_mono (Kd.R_step HR4.out (fun q hq _ => World.putObj_heap_other hq.2.2.2.2.1)) (fun _ _ => trivial), HB4.out.trans (belowK_b (w := w) (Nat.le_refl _) W4 _ _ _ (by omega) HD4.out rfl rfl)⟩
end Go.Proofs.Ytkaabkoadoomjaa.Law
