/- An array of sixteen bytes that is handed in. -/
import Derived.Test.YtmpfngooefpieaaCon
import Derived.WideKeyArr2
namespace Go.Proofs.Ytmpfngooefpieaa.Law
open Go.RowKit Go.Proofs.Ytmpfngooefpieaa Go.ChangeShapes Go.WideShapes
theorem mapM_each {α β : Type} (f : α → Option β) : ∀ (L : List α) (ys : List β), L.mapM f = some ys → ∀ i ∈ L, ∃ y, f i = some y
  | [], _, _ => fun i hi => by cases hi
  | a :: L, ys, h => by
    rw [List.mapM_cons] at h
    simp only [bind, Option.bind_eq_some_iff, pure, Option.some.injEq] at h
    obtain ⟨y, hy, ys', hys, _⟩ := h
    intro i hi
    rcases List.mem_cons.mp hi with rfl | hi
    · exact ⟨y, hy⟩
    · exact mapM_each f L ys' hys i hi
theorem open_row16 {H : Type} {enc : TypeId × Value → H} {W : World} {r : Reach} {b0 base : Nat} {sp : Nat → Bool} {held : Bool} {v : Value} {d : DataW H} {ps : List MemPlace}
    (hv : Value.okWide Try.prog W r b0 31 v) (hd : DataW.Trod enc Try.prog W base sp held 31 v d ps) : ∃ z : List Int, v = .agg (z.map (Value.int .u8)).toArray ∧ z.length = 16 ∧ Bytes z := by
  have hu := Try.underlying31
  have hc : Try.prog.cellsOf 31 = 16 := by kernel_rfl
  have hc5 : Try.prog.cellsOf 5 = 1 := by kernel_rfl
  simp only [Value.okWide, hu] at hv
  obtain ⟨cs, rfl, h2, _⟩ := hv
  obtain ⟨fuel, hf⟩ := hd
  cases fuel with
  | zero => simp [DataW.trod] at hf
  | succ m =>
    rw [DataW.trod_step] at hf
    unfold DataW.trodStep at hf
    simp only [hu, Value.cells] at hf
    rw [hc] at h2
    rw [hc, if_pos (by simpa using h2)] at hf
    simp only [Option.map_eq_some_iff] at hf
    obtain ⟨ys, hy, _⟩ := hf
    have hcell : ∀ i, i < 16 → ∃ n : Int, cs[i]? = some (.int .u8 n) ∧ 0 ≤ n ∧ n < 256 := fun i hi => by
      obtain ⟨y, hy1⟩ := mapM_each _ _ _ hy i (List.mem_range.mpr hi)
      obtain ⟨n, e, _, wn⟩ := DataW.trod_int Try.underlying5 hy1
      rw [hc5, Nat.mul_one, List.take_one, List.head?_drop, Array.getElem?_toList] at e
      refine ⟨n, ?_, ?_⟩
      · cases hx : cs[i]? with
        | none => rw [hx] at e; simp at e
        | some x => rw [hx] at e; simp at e; rw [e]
      · have := bytes_wf (l := [n]) (fun x hx => by rw [List.mem_singleton.mp hx]; exact wn) n (List.mem_singleton_self n)
        exact this
    refine ⟨cs.toList.map fun | .int _ n => n | _ => 0, ?_, by simp [h2], fun x hx => ?_⟩
    · congr 1
      apply Array.ext'
      apply List.ext_getElem?
      intro i
      rw [List.map_map, List.getElem?_map, Array.getElem?_toList]
      by_cases hi : i < 16
      · obtain ⟨n, e, _⟩ := hcell i hi
        rw [e]; rfl
      · rw [Array.getElem?_eq_none (by omega)]; rfl
    · obtain ⟨v, hv, rfl⟩ := List.mem_map.mp hx
      obtain ⟨i, hi, e⟩ := List.getElem_of_mem hv
      obtain ⟨n, e2, h0, h1⟩ := hcell i (by simpa [h2] using hi)
      have : cs[i]? = some v := by rw [← Array.getElem?_toList, List.getElem?_eq_getElem hi, e]
      rw [this] at e2
      obtain rfl := Option.some.inj e2
      exact ⟨h0, h1⟩
end Go.Proofs.Ytmpfngooefpieaa.Law
