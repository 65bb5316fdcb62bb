/- A slice of nodes told as a list, opened; what each weighs. -/
import Derived.Test.YthpgbhpnlnpfnaaDoorTb
import Derived.Deep.Slices
import Derived.OpenShut
import Derived.WideLaws
import Derived.SizedLaws
namespace Go.Proofs.YthpgbhpnlnpfnaaDoor.Law
open Go.RowKit Go.Deep Go.ChangeShapes Go.WideShapes Go.Proofs.YthpgbhpnlnpfnaaDoor Go.Proofs.YthpgbhpnlnpfnaaDoorW.PrintWords Go.Proofs.YthpgbhpnlnpfnaaDoor.E
set_option linter.unusedVariables false
section
variable {H : Type} {enc : TypeId × Value → H} {w : World} {base : Nat} {spare : Nat → Bool} {held : Bool}
def Cap (n : Nat) : Prop := n ≤ 140737488351232
theorem Cap.out {n : Nat} (h : Cap n) : n ≤ 140737488351232 := h
theorem Cap.mk {n : Nat} (h : n ≤ 140737488351232) : Cap n := h
def Light (ns : List Nat) : Prop := ∀ n ∈ ns, Cap n
theorem light_app {a b : List Nat} (h : Light (a ++ b)) : Light a ∧ Light b := ⟨fun n hn => h n (List.mem_append_left _ hn), fun n hn => h n (List.mem_append_right _ hn)⟩
theorem open_bytes {n : Nat} {cs : List Value} {x : DataW H × List MemPlace} (h : DataW.trod enc Tryd.prog w base spare held n 25 cs = some x) (hz : Light (x.1.weights Tryd.prog 25)) :
    ∃ (l : List Int) (A : Option Addr) (c : Nat), cs = [.slice A l.length c] ∧ l.length ≤ c ∧ Kd.C (Kd.int .u8) w A l.length l ∧ Cap l.length ∧ ∀ z ∈ l, 0 ≤ z ∧ z < 256 := by
  have c5 : Tryd.prog.cellsOf 5 = 1 := by kernel_rfl
  rcases open_slice1 Tryd.underlying25 c5 h with ⟨rfl, _⟩ | ⟨a, l, c, m, n', V, D, Pl, rfl, _, hl, hmx, hmm, rfl, hx⟩
  · exact ⟨[], none, 0, rfl, Nat.le_refl _, ⟨rfl, by decide, fun h => absurd h (by decide)⟩, Cap.mk (Nat.zero_le _), fun z hz => by cases hz⟩
  · have hlm : l ≤ m := by rw [hmm]; split <;> omega
    have b5 : Tryd.prog.bytesOf 5 = 1 := by kernel_rfl
    have hb : Cap l := by
      refine Cap.mk ?_
      have hw := Cap.out (hz ((((List.range l).map D).length + ((List.range (m - l)).map fun j => D (l + j)).length) * Tryd.prog.bytesOf 5) (by simp [DataW.weights, Tryd.underlying25]))
      rw [b5] at hw
      simp at hw
      omega
    obtain ⟨q, hq⟩ := choose_lt (p := fun i (z : Int) => w.cell? (a.add i) = some (.int .u8 z) ∧ 0 ≤ z ∧ z < 256) (fun i (hi : i < l) => by
      obtain ⟨h1, h2⟩ := hx i (by omega)
      obtain ⟨z, e, _, wz⟩ := DataW.trod_int Tryd.underlying5 h2
      injection e with e _
      refine ⟨z, by rw [h1, e], ?_⟩
      simp only [Lit.wf, IntKind.min, IntKind.max, IntKind.signed, IntKind.bits, Bool.and_eq_true] at wz
      simp at wz
      omega)
    have hlen : ((List.range l).map q).length = l := by simp
    refine ⟨(List.range l).map q, some a, c, by rw [hlen], by rw [hlen]; exact hl, ⟨rfl, by rw [hlen]; unfold maxLen at hmx; omega, fun _ => ⟨a, rfl, fun j p hj => ?_⟩⟩, by rw [hlen]; exact hb, fun z hz => ?_⟩
    · have hjl : j < l := by have := (List.getElem?_eq_some_iff.mp hj).1; rwa [hlen] at this
      rw [List.getElem?_map, List.getElem?_range hjl] at hj
      obtain rfl := Option.some.inj hj
      refine ⟨[.int .u8 (q j)], rfl, rfl, fun i u hu => ?_⟩
      match i, hu with
      | 0, hu =>
        obtain rfl := Option.some.inj hu
        have e : j * (Kd.int .u8).sz + 0 = j := by show j * 1 + 0 = j; omega
        rw [e]; exact (hq j hjl).1
    · obtain ⟨i, hi, rfl⟩ := List.mem_map.mp hz
      exact (hq i (List.mem_range.mp hi)).2
set_option maxRecDepth 20000 in
theorem open_flat {n : Nat} {cs : List Value} {x : DataW H × List MemPlace} (h : DataW.trod enc Tryd.prog w base spare held n 56 cs = some x) (hz : Light (x.1.weights Tryd.prog 56)) :
    ∃ y : S56, k56.K w y cs ∧ Cap y.f1.size ∧ Cap y.f3.length := by
  obtain ⟨xs, m, _, rfl, hl, hxl, hf⟩ := DataW.trod_struct Tryd.underlying56 h
  have hc : Tryd.prog.cellsOf 56 = 4 := by kernel_rfl
  have hc5 : Tryd.prog.cellsOf 5 = 1 := by kernel_rfl
  have hc9 : Tryd.prog.cellsOf 9 = 1 := by kernel_rfl
  have hc4 : Tryd.prog.cellsOf 4 = 1 := by kernel_rfl
  have hc25 : Tryd.prog.cellsOf 25 = 1 := by kernel_rfl
  rw [hc] at hl
  match xs, hxl with
  | [y0, y1, y2, y3], _ =>
    have g0 := hf 0 _ rfl
    have g1 := hf 1 _ rfl
    have g2 := hf 2 _ rfl
    have g3 := hf 3 _ rfl
    change DataW.trod enc Tryd.prog w base spare held m 5 (List.take (Tryd.prog.cellsOf 5) (List.drop 0 cs)) = some y0 at g0
    change DataW.trod enc Tryd.prog w base spare held m 9 (List.take (Tryd.prog.cellsOf 9) (List.drop 1 cs)) = some y1 at g1
    change DataW.trod enc Tryd.prog w base spare held m 4 (List.take (Tryd.prog.cellsOf 4) (List.drop 2 cs)) = some y2 at g2
    change DataW.trod enc Tryd.prog w base spare held m 25 (List.take (Tryd.prog.cellsOf 25) (List.drop 3 cs)) = some y3 at g3
    rw [hc5] at g0
    rw [hc9] at g1
    rw [hc4] at g2
    rw [hc25] at g3
    have hz' : Light (DataW.weightsEach Tryd.prog [5, 9, 4, 25] [y0.1, y1.1, y2.1, y3.1]) := fun n hn => hz n (by simp only [List.map_cons, List.map_nil, DataW.weights, Tryd.underlying56]; exact hn)
    simp only [DataW.weightsEach] at hz'
    obtain ⟨_, hz1⟩ := light_app hz'
    obtain ⟨hzs, hz2⟩ := light_app hz1
    obtain ⟨_, hz3⟩ := light_app hz2
    obtain ⟨hzb, _⟩ := light_app hz3
    obtain ⟨k, e0, _⟩ := DataW.trod_int Tryd.underlying5 g0
    obtain ⟨s, e1, ex1, _⟩ := DataW.trod_string Tryd.underlying9 g1
    obtain ⟨b, e2, _⟩ := DataW.trod_bool Tryd.underlying4 g2
    obtain ⟨l, A, c, e3, hlc, hcc, hlb, _⟩ := open_bytes g3 hzb
    have hs : Cap s.size := by
      have := hzs s.data.toList.length (by rw [ex1]; simp [DataW.weights])
      rwa [data_length] at this
    have hsp : cs = List.take 1 (List.drop 0 cs) ++ (List.take 1 (List.drop 1 cs) ++ (List.take 1 (List.drop 2 cs) ++ List.take 1 (List.drop 3 cs))) := by
      match cs, hl with
      | [_, _, _, _], _ => rfl
    rw [e0, e1, e2, e3] at hsp
    exact ⟨⟨k, s, b, l⟩, by rw [hsp]; exact k56_mk w ⟨k, s, b, l⟩ hlc hcc, hs, hlb⟩
theorem light_all {e : TypeId} : ∀ (l : List (DataW H)), Light (DataW.weightsAll Tryd.prog e l) → ∀ d ∈ l, Light (d.weights Tryd.prog e)
  | d0 :: l, h, d, hd => by
    simp only [DataW.weightsAll] at h
    obtain ⟨h1, h2⟩ := light_app h
    rcases List.mem_cons.mp hd with rfl | hd
    · exact h1
    · exact light_all l h2 d hd
set_option maxRecDepth 20000 in
theorem open_flats {A : Option Addr} {len cap : Nat} {d : DataW H} {p : List MemPlace} (h : DataW.Trod enc Tryd.prog w base spare held 22 (.slice A len cap) d p) (hz : Light (d.weights Tryd.prog 22)) : ∃ l, FlatAt w A len cap l := by
  obtain ⟨fuel, hf⟩ := h
  have c56 : Tryd.prog.cellsOf 56 = 4 := by kernel_rfl
  rcases open_slice Tryd.underlying22 hf with ⟨hcs, _⟩ | ⟨a, l, c, m, n', D, Pl, hcs, _, hl, hmx, hmm, hd, hx⟩
  · simp [Value.cells] at hcs
    obtain ⟨rfl, rfl, rfl⟩ := hcs
    exact ⟨[], rfl, ⟨rfl, by decide, fun h => absurd h (by decide)⟩, Nat.le_refl _, fun x hx => by cases hx⟩
  · simp [Value.cells] at hcs
    obtain ⟨rfl, rfl, rfl⟩ := hcs
    have hlm : len ≤ m := by rw [hmm]; split <;> omega
    have hd' : d = (.slice ((List.range len).map D) ((List.range (m - len)).map fun j => D (len + j))) := congrArg Prod.fst hd
    rw [hd'] at hz
    simp only [DataW.weights, Tryd.underlying22] at hz
    have hz1 : Light (DataW.weightsAll Tryd.prog 56 ((List.range len).map D)) := fun n hn => hz n (List.mem_cons_of_mem _ (List.mem_append_left _ hn))
    have hzi : ∀ i, i < len → Light ((D i).weights Tryd.prog 56) := fun i hi => light_all _ hz1 _ (List.mem_map.mpr ⟨i, List.mem_range.mpr hi, rfl⟩)
    have : Inhabited S56 := ⟨z56⟩
    obtain ⟨q, hq⟩ := choose_lt (p := fun i (q : S56) => (∃ c, c.length = 4 ∧ k56.K w q c ∧ ∀ j u, c[j]? = some u → w.cell? (a.add (i * 4 + j)) = some u) ∧ Cap q.f1.size ∧ Cap q.f3.length) (fun i (hi : i < len) => by
      obtain ⟨cs', h1, h2⟩ := hx i (by omega)
      rw [c56] at h1
      obtain ⟨_, hlen, hcell⟩ := World.cells?_some h1
      obtain ⟨p, hp, hb1, hb2⟩ := open_flat h2 (hzi i hi)
      refine ⟨p, ⟨cs', hlen, hp, fun j u hu => ?_⟩, hb1, hb2⟩
      have hj : j < 4 := by have := (List.getElem?_eq_some_iff.mp hu).1; omega
      rw [← hu, ← hcell j hj, Go.Deep.add_add])
    have hlen : ((List.range len).map q).length = len := by simp
    refine ⟨(List.range len).map q, hlen.symm, ⟨rfl, by rw [hlen]; unfold maxLen at hmx; omega, fun _ => ⟨a, rfl, fun j p hj => ?_⟩⟩, by rw [hlen]; exact hl, fun x hx' => ?_⟩
    · have hjl : j < len := by have := (List.getElem?_eq_some_iff.mp hj).1; rwa [hlen] at this
      rw [List.getElem?_map, List.getElem?_range hjl] at hj
      obtain rfl := Option.some.inj hj
      obtain ⟨c, g1, g2, g3⟩ := (hq j hjl).1
      exact ⟨c, g1, g2, g3⟩
    · obtain ⟨i, hi, rfl⟩ := List.mem_map.mp hx'
      have e := (hq i (List.mem_range.mp hi)).2
      exact ⟨Cap.out e.1, Cap.out e.2⟩
end
end Go.Proofs.YthpgbhpnlnpfnaaDoor.Law
