/- What the laws' walks call: the document's functions, a Roll's, in one form. -/
import Derived.Test.YtmpfngooefpieaaRefOf
namespace Go.Proofs.Ytmpfngooefpieaa.Law
open Go.RowKit Go.Proofs.Ytmpfngooefpieaa Go.Proofs.Ytmpfngooefpieaa.A Go.Proofs.YtmpfngooefpieaaW.PrintWords Go.Proofs.YtmpfngooefpieaaW.PrintLast Go.Proofs.YtmpfngooefpieaaW.PrintMore
/-- the fingerprint of bytes, by the document -/
def fpo (m : Nat) (l : List Int) : Nat := fp m (pushed zeroWin (nat l))
theorem fpo_eq (m : Nat) (l : List Int) : fpo m l = fp m ((nat l).drop (l.length - 16)) := by unfold fpo; rw [fp_pushed, nat_len]
theorem rof_calls {m : Nat} (hm : May m) (A1 : Option Addr) (c1 : Nat) (l1 : List Int) (w : World) (hr : Kd.C (Kd.int .u8) w A1 l1.length l1) (hc : l1.length ≤ c1) (hb : Bytes l1) (hl : l1.length ≤ 1000000000000000) :
    Calls Try.prog 12 #[.int .u64 (m : Int), .slice A1 l1.length c1] w fun e w' => e = .returned (.int .u64 (fpo m l1 : Int)) ∧ Below w.heap.size w w' := by
  obtain ⟨k, h⟩ := (ev_rof hm l1 hb hl).rounds
  rw [fpo_eq]
  exact hypogeumref13_Of.calls k (m : Int) A1 c1 l1 _ w hr hc h
theorem right_calls {m : Nat} (hu : U m) (w : World) : Calls Try.prog 11 #[.int .u64 (m : Int)] w fun e w' => e = .returned (.bool (decide (May m))) ∧ Drawn0 w w' := by
  obtain ⟨k, h⟩ := (ev_right hu).rounds
  exact hypogeumref13_Right.calls k (m : Int) _ w h
theorem right_yes {m : Nat} (hm : May m) (w : World) : Calls Try.prog 11 #[.int .u64 (m : Int)] w fun e w' => e = .returned (.bool true) ∧ Drawn0 w w' := by
  have := right_calls hm.u w
  rw [decide_eq_true hm] at this; exact this
theorem right_no {m : Nat} (hu : U m) (hm : ¬ May m) (w : World) : Calls Try.prog 11 #[.int .u64 (m : Int)] w fun e w' => e = .returned (.bool false) ∧ Drawn0 w w' := by
  have := right_calls hu w
  rw [decide_eq_false hm] at this; exact this
theorem Inv.lt {w : World} {g m : Nat} {L : List Nat} (h : Inv w g m L) : g < w.heap.size := by
  obtain ⟨C, p, hb, hh⟩ := h
  exact World.block_lt_of_cell? w _ (hb.cell 0 (by omega))
theorem pushed_append (L a b : List Nat) : pushed L (a ++ b) = pushed (pushed L a) b := by unfold pushed; rw [List.foldl_append]
theorem nat_append (a b : List Int) : nat (a ++ b) = nat a ++ nat b := by simp [nat]
theorem fpo_append (m : Nat) (a b : List Int) : fpo m (a ++ b) = fp m (pushed (pushed zeroWin (nat a)) (nat b)) := by
  unfold fpo; rw [nat_append, pushed_append]
theorem Bytes.app {a b : List Int} (ha : Bytes a) (hb : Bytes b) : Bytes (a ++ b) := fun x hx => by
  rcases List.mem_append.mp hx with h | h
  · exact ha x h
  · exact hb x h
/-- a row of bytes that is handed in -/
def IsRow (k : IntKind) (w : World) (a : Option Addr) (len cap : Nat) (zs : List Int) : Prop :=
  (a = none ∧ len = 0 ∧ cap = 0 ∧ zs = []) ∨
  ∃ x, a = some x ∧ len ≤ cap ∧ cap ≤ maxLen ∧ zs.length = cap ∧ (∀ i, i < zs.length → w.cell? (x.add i) = some (.int k (zs.getD i 0))) ∧ ∀ n ∈ zs, (Lit.int k n).wf = true
theorem IsRow.opened {w : World} {a : Option Addr} {len cap : Nat} {zs : List Int} (h : IsRow .u8 w a len cap zs) :
    ∃ l : List Int, len = l.length ∧ Kd.C (Kd.int .u8) w a l.length l ∧ Bytes l ∧ l.length ≤ cap := by
  obtain ⟨l, rfl, hr, _, hw, hc⟩ := ReadsInt.ofRowC h
  exact ⟨l, rfl, Kd.C_of_reads (d := (0 : Int)) (h1 := fun _ => rfl) hr, bytes_wf hw, hc⟩
end Go.Proofs.Ytmpfngooefpieaa.Law
