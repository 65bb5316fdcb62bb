/- CodecScans: the questions that are handed in, opened; the walk in the row's shape. -/
import Derived.Test.YteonbbfegnjjeaaScans
import Derived.Deep.Slices
import Derived.WalkKit
import Derived.ProofKit
namespace Go.Proofs.Yteonbbfegnjjeaa.Law
open Go.RowKit Go.Deep Go.ChangeShapes Go.WideShapes Go.Proofs.Yteonbbfegnjjeaa
theorem open_ask {H : Type} {enc : TypeId × Value → H} {w : World} {base : Nat} {spare : Nat → Bool} {held : Bool} {n : Nat} {a : Addr} {cs : List Value} {x : DataW H × List MemPlace} (h1 : w.cells? base a 3 = some cs) (h : DataW.trod enc Try.prog w base spare held n 46 cs = some x) :
    ∃ q : Int × Int × Int, w.cell? a = some (.int .i64 q.1) ∧ w.cell? (a.add 1) = some (.int .i64 q.2.1) ∧ w.cell? (a.add 2) = some (.int .i64 q.2.2) := by
  obtain ⟨_, hlen, hcell⟩ := World.cells?_some h1
  obtain ⟨xs, k, _, _, _, hxl, hf⟩ := DataW.trod_struct Try.underlying46 h
  have c3 : Try.prog.cellsOf 3 = 1 := by kernel_rfl
  match cs, hlen, xs, hxl with
  | [v0, v1, v2], _, [y0, y1, y2], _ =>
    have e0 := hcell 0 (by omega)
    have e1 := hcell 1 (by omega)
    have e2 := hcell 2 (by omega)
    have g0 := hf 0 _ rfl
    have g1 := hf 1 _ rfl
    have g2 := hf 2 _ rfl
    change DataW.trod enc Try.prog w base spare held k 3 (List.take (Try.prog.cellsOf 3) [v0, v1, v2]) = some y0 at g0
    change DataW.trod enc Try.prog w base spare held k 3 (List.take (Try.prog.cellsOf 3) [v1, v2]) = some y1 at g1
    change DataW.trod enc Try.prog w base spare held k 3 (List.take (Try.prog.cellsOf 3) [v2]) = some y2 at g2
    rw [c3] at g0 g1 g2
    obtain ⟨n0, k0, _⟩ := DataW.trod_int Try.underlying3 g0
    obtain ⟨n1, k1, _⟩ := DataW.trod_int Try.underlying3 g1
    obtain ⟨n2, k2, _⟩ := DataW.trod_int Try.underlying3 g2
    obtain rfl : v0 = .int .i64 n0 := by simpa using k0
    obtain rfl : v1 = .int .i64 n1 := by simpa using k1
    obtain rfl : v2 = .int .i64 n2 := by simpa using k2
    exact ⟨(n0, n1, n2), e0, e1, e2⟩
/-- what the walk wants of the questions -/
def AskRow (w : World) (Q : Option Addr) (len _cap : Nat) : Prop :=
  ∃ qs : List (Int × Int × Int), qs.length = len ∧ ∀ i (hi : i < qs.length), ∃ aq, Q = some aq ∧ w.cell? (aq.add (i * 3)) = some (.int .i64 qs[i].1) ∧ w.cell? (aq.add (i * 3 + 1)) = some (.int .i64 qs[i].2.1) ∧ w.cell? (aq.add (i * 3 + 2)) = some (.int .i64 qs[i].2.2)
theorem open_asks {H : Type} {enc : TypeId × Value → H} {w : World} {base : Nat} {spare : Nat → Bool} {held : Bool} {Q : Option Addr} {len cap : Nat} {d : DataW H} {p : List MemPlace} (h : DataW.Trod enc Try.prog w base spare held 42 (.slice Q len cap) d p) :
    AskRow w Q len cap := by
  obtain ⟨fuel, hf⟩ := h
  rcases open_slice Try.underlying42 hf with ⟨hcs, _⟩ | ⟨a, l, c, m, n, D, Pl, hcs, _, hl, _, hmm, _, hx⟩
  · simp [Value.cells] at hcs
    obtain ⟨rfl, rfl, rfl⟩ := hcs
    exact ⟨[], rfl, fun i hi => by simp at hi⟩
  · simp [Value.cells] at hcs
    obtain ⟨rfl, rfl, rfl⟩ := hcs
    have hlm : len ≤ m := by rw [hmm]; split <;> omega
    have c46 : Try.prog.cellsOf 46 = 3 := by kernel_rfl
    obtain ⟨q, hq⟩ := choose_lt (p := fun i (q : Int × Int × Int) => w.cell? (a.add (i * 3)) = some (.int .i64 q.1) ∧ w.cell? (a.add (i * 3 + 1)) = some (.int .i64 q.2.1) ∧ w.cell? (a.add (i * 3 + 2)) = some (.int .i64 q.2.2)) (fun i (hi : i < len) => by
      obtain ⟨cs', h1, h2⟩ := hx i (by omega)
      rw [c46] at h1
      obtain ⟨q, e0, e1, e2⟩ := open_ask h1 h2
      rw [add_add] at e1 e2
      exact ⟨q, e0, e1, e2⟩)
    refine ⟨(List.range len).map q, by simp, fun i hi => ⟨a, rfl, ?_⟩⟩
    have hi' : i < len := by simpa using hi
    simpa using hq i hi'
theorem scans_walk (a1 : Option Addr) (len1 cap1 : Nat) (z1 : List Int) (a2 : Option Addr) (len2 cap2 : Nat) (w : World) (w1 : IsRow .u8 w a1 len1 cap1 z1) (y1 : len1 * 1 ≤ 140737488351232) (w2 : AskRow w a2 len2 cap2) :
    Calls Try.prog 7 #[.slice a1 len1 cap1, .slice a2 len2 cap2] w fun e w' => e = .returned (.bool true) ∧ Below w.heap.size w w' := by
  by_cases h : 100 < (len2 : Int)
  · exact scans_long a1 a2 len1 cap1 len2 cap2 w h
  · obtain ⟨l, rfl, hr, hb, hc⟩ := w1.opened
    obtain ⟨qs, rfl, hq⟩ := w2
    exact scans_0 a1 a2 cap1 cap2 l qs w hr hc hb (by omega) (by omega) hq
end Go.Proofs.Yteonbbfegnjjeaa.Law
