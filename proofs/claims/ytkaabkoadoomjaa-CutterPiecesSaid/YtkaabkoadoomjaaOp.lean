/- A cut that is handed over, opened; CutterLengths, for the row. -/
import Derived.Test.YtkaabkoadoomjaaLe
import Derived.ProofKit
import Derived.OpenShut
import Derived.WideLaws
namespace Go.Proofs.Ytkaabkoadoomjaa.Law
open Go.RowKit Go.Proofs.Ytkaabkoadoomjaa Go.Proofs.Ytkaabkoadoomjaa.D Go.Proofs.Ytkaabkoadoomjaa.Roll Go.Proofs.YtkaabkoadoomjaaW.PrintWords Go.Proofs.YtkaabkoadoomjaaW.PrintLast Go.Proofs.YtkaabkoadoomjaaW.PrintMore
set_option linter.unusedSimpArgs false
set_option linter.unusedVariables false
theorem open_cut {H : Type} {enc : TypeId × Value → H} {W : World} {r : Reach} {b0 base : Nat} {sp : Nat → Bool} {held : Bool} {v : Value} {d : DataW H} {ps : List MemPlace}
    (hv : Value.okWide Try.prog W r b0 24 v) (hd : DataW.Trod enc Try.prog W base sp held 24 v d ps) :
    ∃ p k mn mx : Int, v = .agg #[.int .u64 p, .int .u64 k, .int .i64 mn, .int .i64 mx] ∧ (Lit.int .u64 p).wf = true ∧ (Lit.int .u64 k).wf = true ∧ (Lit.int .i64 mn).wf = true ∧ (Lit.int .i64 mx).wf = true := by
  have hu := Try.underlying24
  have hc : Try.prog.cellsOf 24 = 4 := by kernel_rfl
  have hc22 : Try.prog.cellsOf 22 = 1 := by kernel_rfl
  have hc3 : Try.prog.cellsOf 3 = 1 := by kernel_rfl
  simp only [Value.okWide, hu] at hv
  obtain ⟨cs, rfl, h2, _⟩ := hv
  obtain ⟨fuel, hf⟩ := hd
  rw [hc] at h2
  obtain ⟨c0, c1, c2, c3, rfl⟩ : ∃ c0 c1 c2 c3, cs = #[c0, c1, c2, c3] := by
    obtain ⟨l⟩ := cs
    match l, h2 with
    | [c0, c1, c2, c3], _ => exact ⟨c0, c1, c2, c3, rfl⟩
  cases fuel with
  | zero => simp [DataW.trod] at hf
  | succ m =>
    rw [DataW.trod_step] at hf
    unfold DataW.trodStep at hf
    simp only [hu, Value.cells] at hf
    rw [hc, if_pos (by rfl)] at hf
    simp only [List.mapM_cons, List.mapM_nil, hc22, hc3, Option.map_eq_some_iff, Option.bind_eq_bind, Option.bind_eq_some_iff, List.drop_succ_cons, List.drop_zero, List.take_succ_cons, List.take_zero] at hf
    obtain ⟨_, ⟨y0, hy0, _, ⟨y1, hy1, _, ⟨y2, hy2, _, ⟨y3, hy3, _⟩, _⟩, _⟩, _⟩, _⟩ := hf
    obtain ⟨p, e0, _, w0⟩ := DataW.trod_int Try.underlying22 hy0
    obtain ⟨k, e1, _, w1⟩ := DataW.trod_int Try.underlying22 hy1
    obtain ⟨mn, e2, _, w2⟩ := DataW.trod_int Try.underlying3 hy2
    obtain ⟨mx, e3, _, w3⟩ := DataW.trod_int Try.underlying3 hy3
    cases e0; cases e1; cases e2; cases e3
    exact ⟨p, k, mn, mx, rfl, w0, w1, w2, w3⟩
def IsRow (k : IntKind) (w : World) (a : Option Addr) (len cap : Nat) (zs : List Int) : Prop :=
  (a = none ∧ len = 0 ∧ cap = 0 ∧ zs = []) ∨
  ∃ x, a = some x ∧ len ≤ cap ∧ cap ≤ maxLen ∧ zs.length = cap ∧ (∀ i, i < zs.length → w.cell? (x.add i) = some (.int k (zs.getD i 0))) ∧ ∀ n ∈ zs, (Lit.int k n).wf = true
theorem IsRow.opened {w : World} {a : Option Addr} {len cap : Nat} {zs : List Int} (h : IsRow .u8 w a len cap zs) :
    ∃ l : List Int, len = l.length ∧ Kd.C (Kd.int .u8) w a l.length l ∧ Bytes l ∧ l.length ≤ cap := by
  obtain ⟨l, rfl, hr, _, hw, hc⟩ := ReadsInt.ofRowC h
  exact ⟨l, rfl, Kd.C_of_reads (d := (0 : Int)) (h1 := fun _ => rfl) hr, bytes_wf hw, hc⟩
abbrev WfC (p k mn mx : Int) : Prop := (Lit.int .u64 p).wf = true ∧ (Lit.int .u64 k).wf = true ∧ (Lit.int .i64 mn).wf = true ∧ (Lit.int .i64 mx).wf = true
theorem lengths_walk (p k mn mx : Int) (a2 : Option Addr) (len2 cap2 : Nat) (z2 : List Int) (w : World) (wc : WfC p k mn mx) (w2 : IsRow .u8 w a2 len2 cap2 z2) (_ : len2 * 1 ≤ 140737488351232) :
    Calls Try.prog 3 #[.agg #[.int .u64 p, .int .u64 k, .int .i64 mn, .int .i64 mx], .slice a2 len2 cap2] w fun e w' => e = .returned (.bool true) ∧ Below w.heap.size w w' := by
  obtain ⟨l, rfl, hr, hb, hc⟩ := w2.opened
  obtain ⟨m, rfl, hu⟩ := of_wf wc.1
  obtain ⟨q, rfl, hk⟩ := of_wf wc.2.1
  by_cases hl : l.length ≤ 600
  · by_cases ok : OkC m mn mx
    · exact cl_ok m q mn mx ok hk a2 cap2 l w hb hr hc hl
    · exact cl_no m q mn mx hu ok hk a2 cap2 l w hb hr hc hl
  · exact cl_many _ _ mn mx a2 cap2 l.length w hl
end Go.Proofs.Ytkaabkoadoomjaa.Law
