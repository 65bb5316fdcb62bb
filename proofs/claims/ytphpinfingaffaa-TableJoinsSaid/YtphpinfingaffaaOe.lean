/- An entry that is handed in, opened. -/
import Derived.Test.YtphpinfingaffaaSz
import Derived.Deep.Slices
import Derived.OpenShut
import Derived.WideLaws
namespace Go.Proofs.Ytphpinfingaffaa.Law
open Go.RowKit Go.Deep Go.ChangeShapes Go.WideShapes Go.Proofs.Ytphpinfingaffaa Go.Proofs.YtphpinfingaffaaW.PrintWords
section
variable {H : Type} {enc : TypeId × Value → H} {w : World} {base : Nat} {spare : Nat → Bool} {held : Bool}
theorem u8_wf {n : Int} (h : (Lit.int .u8 n).wf = true) : 0 ≤ n ∧ n < 256 := by
  simp only [Lit.wf, IntKind.min, IntKind.max, IntKind.signed, IntKind.bits, Bool.and_eq_true] at h
  simp at h
  omega
theorem open_id {n : Nat} {cs : List Value} {x : DataW H × List MemPlace} (h : DataW.trod enc Try.prog w base spare held n 23 cs = some x) : ∃ z : List Int, cs = u8s z ∧ z.length = 32 ∧ Bytes z := by
  obtain ⟨xs, m, _, _, hl, hxl, hf⟩ := DataW.trod_array Try.underlying23 h
  have hc : Try.prog.cellsOf 23 = 32 := by kernel_rfl
  have hc5 : Try.prog.cellsOf 5 = 1 := by kernel_rfl
  rw [hc] at hl
  have hcell : ∀ i, i < 32 → ∃ z : Int, cs[i]? = some (.int .u8 z) ∧ 0 ≤ z ∧ z < 256 := fun i hi => by
    have hy := hf i hi
    rw [List.getElem?_eq_getElem (by omega), hc5, Nat.mul_one] at hy
    obtain ⟨z, e, _, wz⟩ := DataW.trod_int Try.underlying5 hy
    rw [List.take_one, List.head?_drop] at e
    refine ⟨z, ?_, u8_wf wz⟩
    cases hx : cs[i]? with
    | none => rw [hx] at e; simp at e
    | some x => rw [hx] at e; simp at e; rw [e]
  refine ⟨cs.map fun | .int _ n => n | _ => 0, ?_, by rw [List.length_map, hl], fun y hy => ?_⟩
  · apply List.ext_getElem?
    intro i
    unfold u8s
    rw [List.map_map, List.getElem?_map]
    by_cases hi : i < 32
    · obtain ⟨z, e, _⟩ := hcell i hi
      rw [e]; rfl
    · rw [List.getElem?_eq_none (by omega)]; rfl
  · obtain ⟨v, hv, rfl⟩ := List.mem_map.mp hy
    obtain ⟨i, hi, e⟩ := List.getElem_of_mem hv
    obtain ⟨z, e2, h0⟩ := hcell i (by omega)
    rw [List.getElem?_eq_getElem hi, e] at e2
    obtain rfl := Option.some.inj e2
    exact h0
theorem open_piece {n : Nat} {cs : List Value} {x : DataW H × List MemPlace} (h : DataW.trod enc Try.prog w base spare held n 62 cs = some x) : ∃ p : Pc, kPc.K w p cs := by
  obtain ⟨xs, m, _, _, hl, hxl, hf⟩ := DataW.trod_struct Try.underlying62 h
  have hc : Try.prog.cellsOf 62 = 33 := by kernel_rfl
  have hc3 : Try.prog.cellsOf 3 = 1 := by kernel_rfl
  have hc23 : Try.prog.cellsOf 23 = 32 := by kernel_rfl
  rw [hc] at hl
  match xs, hxl with
  | [y0, y1], _ =>
    have g0 := hf 0 _ rfl
    have g1 := hf 1 _ rfl
    change DataW.trod enc Try.prog w base spare held m 23 (List.take (Try.prog.cellsOf 23) (List.drop 0 cs)) = some y0 at g0
    change DataW.trod enc Try.prog w base spare held m 3 (List.take (Try.prog.cellsOf 3) (List.drop 32 cs)) = some y1 at g1
    rw [hc23, List.drop_zero] at g0
    rw [hc3] at g1
    obtain ⟨z, e0, hz, _⟩ := open_id g0
    obtain ⟨k, e1, _⟩ := DataW.trod_int Try.underlying3 g1
    have e1' : List.drop 32 cs = [.int .i64 k] := by
      have : (List.drop 32 cs).length = 1 := by rw [List.length_drop]; omega
      rwa [List.take_of_length_le (by omega)] at e1
    exact ⟨⟨z, k⟩, u8s z, [.int .i64 k], by rw [← e0, ← e1', List.take_append_drop], ⟨rfl, hz⟩, rfl⟩
theorem open_pieces {n : Nat} {cs : List Value} {x : DataW H × List MemPlace} (h : DataW.trod enc Try.prog w base spare held n 24 cs = some x) : ∃ (ps : List Pc) (A : Option Addr) (c : Nat), cs = [.slice A ps.length c] ∧ ps.length ≤ c ∧ Kd.C kPc w A ps.length ps := by
  rcases open_slice Try.underlying24 h with ⟨rfl, _⟩ | ⟨a, l, c, m, n', D, Pl, rfl, _, hl, hmx, hmm, _, hx⟩
  · exact ⟨[], none, 0, rfl, Nat.le_refl _, rfl, by decide, fun h => absurd h (by decide)⟩
  · have hlm : l ≤ m := by rw [hmm]; split <;> omega
    have c62 : Try.prog.cellsOf 62 = 33 := by kernel_rfl
    have : Inhabited Pc := ⟨zPc⟩
    obtain ⟨q, hq⟩ := choose_lt (p := fun i (q : Pc) => ∃ c, c.length = 33 ∧ kPc.K w q c ∧ ∀ j u, c[j]? = some u → w.cell? (a.add (i * 33 + j)) = some u) (fun i (hi : i < l) => by
      obtain ⟨cs', h1, h2⟩ := hx i (by omega)
      rw [c62] at h1
      obtain ⟨_, hlen, hcell⟩ := World.cells?_some h1
      obtain ⟨p, hp⟩ := open_piece h2
      refine ⟨p, cs', hlen, hp, fun j u hu => ?_⟩
      have hj : j < 33 := by have := (List.getElem?_eq_some_iff.mp hu).1; omega
      rw [← hu, ← hcell j hj, add_add])
    have hlen : ((List.range l).map q).length = l := by simp
    refine ⟨(List.range l).map q, some a, c, by rw [hlen], by rw [hlen]; exact hl, rfl, by rw [hlen]; unfold maxLen at hmx; omega, fun _ => ⟨a, rfl, fun j p hj => ?_⟩⟩
    have hjl : j < l := by have := (List.getElem?_eq_some_iff.mp hj).1; rwa [hlen] at this
    rw [List.getElem?_map, List.getElem?_range hjl] at hj
    obtain rfl := Option.some.inj hj
    exact hq j hjl
/-- cells of an entry -/
theorem open_cells {n : Nat} {cs : List Value} {x : DataW H × List MemPlace} (h : DataW.trod enc Try.prog w base spare held n 26 cs = some x) : ∃ y : En, kEn.K w y cs := by
  obtain ⟨xs, m, _, _, hl, hxl, hf⟩ := DataW.trod_struct Try.underlying26 h
  have hc : Try.prog.cellsOf 26 = 35 := by kernel_rfl
  have hc9 : Try.prog.cellsOf 9 = 1 := by kernel_rfl
  have hc4 : Try.prog.cellsOf 4 = 1 := by kernel_rfl
  have hc23 : Try.prog.cellsOf 23 = 32 := by kernel_rfl
  have hc24 : Try.prog.cellsOf 24 = 1 := by kernel_rfl
  rw [hc] at hl
  match xs, hxl with
  | [y0, y1, y2, y3], _ =>
    have g0 := hf 0 _ rfl
    have g1 := hf 1 _ rfl
    have g2 := hf 2 _ rfl
    have g3 := hf 3 _ rfl
    change DataW.trod enc Try.prog w base spare held m 9 (List.take (Try.prog.cellsOf 9) (List.drop 0 cs)) = some y0 at g0
    change DataW.trod enc Try.prog w base spare held m 4 (List.take (Try.prog.cellsOf 4) (List.drop 1 cs)) = some y1 at g1
    change DataW.trod enc Try.prog w base spare held m 23 (List.take (Try.prog.cellsOf 23) (List.drop 2 cs)) = some y2 at g2
    change DataW.trod enc Try.prog w base spare held m 24 (List.take (Try.prog.cellsOf 24) (List.drop 34 cs)) = some y3 at g3
    rw [hc9] at g0
    rw [hc4] at g1
    rw [hc23] at g2
    rw [hc24] at g3
    obtain ⟨s, e0, _⟩ := DataW.trod_string Try.underlying9 g0
    obtain ⟨b, e1, _⟩ := DataW.trod_bool Try.underlying4 g1
    obtain ⟨z, e2, hz, _⟩ := open_id g2
    obtain ⟨ps, A, c, e3, hpc, hpr⟩ := open_pieces g3
    have hsp : cs = List.take 1 (List.drop 0 cs) ++ (List.take 1 (List.drop 1 cs) ++ (List.take 32 (List.drop 2 cs) ++ List.take 1 (List.drop 34 cs))) := by
      have t1 : List.take 1 (List.drop 34 cs) = List.drop 34 cs := List.take_of_length_le (by rw [List.length_drop]; omega)
      rw [t1, show List.drop 34 cs = List.drop 32 (List.drop 2 cs) by rw [List.drop_drop], List.take_append_drop, show List.drop 2 cs = List.drop 1 (List.drop 1 cs) by rw [List.drop_drop], List.take_append_drop, List.drop_zero, List.take_append_drop]
    rw [e0, e1, e2, e3] at hsp
    exact ⟨⟨s, b, z, ps⟩, [.string s], _, hsp, rfl, [.bool b], _, rfl, rfl, u8s z, _, rfl, ⟨rfl, hz⟩, A, c, rfl, hpc, hpr⟩
end
theorem open_entry {H : Type} {enc : TypeId × Value → H} {W : World} {r : Reach} {b0 base : Nat} {sp : Nat → Bool} {held : Bool} {v : Value} {d : DataW H} {ps : List MemPlace}
    (hv : Value.okWide Try.prog W r b0 26 v) (hd : DataW.Trod enc Try.prog W base sp held 26 v d ps) : ∃ (x : En) (cs : List Value), v = .agg cs.toArray ∧ kEn.K W x cs := by
  have hu := Try.underlying26
  simp only [Value.okWide, hu] at hv
  obtain ⟨cs, rfl, _⟩ := hv
  obtain ⟨fuel, hf⟩ := hd
  obtain ⟨y, hy⟩ := open_cells hf
  exact ⟨y, cs.toList, by rw [Array.toArray_toList], hy⟩
end Go.Proofs.Ytphpinfingaffaa.Law
