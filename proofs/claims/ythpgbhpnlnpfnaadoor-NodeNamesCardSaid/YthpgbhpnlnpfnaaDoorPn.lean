/- NodeNames, plain: the two packages tell one list of names and one error of any path. -/
import Derived.Test.YthpgbhpnlnpfnaaDoorPs
namespace Go.Proofs.YthpgbhpnlnpfnaaDoor.Law
open Go.RowKit Go.Proofs.YthpgbhpnlnpfnaaDoor Go.Proofs.YthpgbhpnlnpfnaaDoorW.PrintWords Go.Proofs.YthpgbhpnlnpfnaaDoorW.PrintLast Go.Proofs.YthpgbhpnlnpfnaaDoorW.PrintMore Go.Proofs.YthpgbhpnlnpfnaaDoor.E
set_option linter.unusedSimpArgs false
set_option linter.unusedVariables false
theorem names_l0 (L : List ByteArray) (hL : L.length ≤ 2000) : ∀ (m i k : Nat), L.length - i = m → i ≤ L.length → m + 42 ≤ k → hypogeumlaw21_NodeNames.l0 k L L (L.length : Int) (i : Int) = some true
  | 0, i, 0, _, _, hk => by omega
  | 0, i, k + 1, hm, hi, hk => by
    unfold hypogeumlaw21_NodeNames.l0
    rw [if_neg (by omega), awake_f k (by omega)]
    rfl
  | m + 1, i, 0, _, _, hk => by omega
  | m + 1, i, k + 1, hm, hi, hk => by
    unfold hypogeumlaw21_NodeNames.l0
    rw [if_pos (by omega), if_pos (by omega), if_pos (by omega), if_pos (by omega), if_pos rfl, show wrap64 ((i : Int) + 1) = ((i + 1 : Nat) : Int) by rw [n64 (by omega) (by omega)]; omega]
    exact names_l0 L hL m (i + 1) k (by omega) (by omega) (by omega)
theorem names_j0 (L : List ByteArray) (hL : L.length ≤ 2000) (k : Nat) (hk : 2100 ≤ k) : hypogeumlaw21_NodeNames.j0 k L L false = some true := by
  obtain ⟨k, rfl⟩ : ∃ n, k = n + 1 := ⟨k - 1, by omega⟩
  rw [hypogeumlaw21_NodeNames.j0, if_neg (by decide)]
  exact names_l0 L hL L.length 0 k rfl (by omega) (by omega)
theorem splitL_len (s : ByteArray) (hs : s.size ≤ 1000) : (splitL s).length ≤ 2000 := by
  have hn : (pieces s).length ≤ 2000 := by
    rw [pieces_len]
    have := Lib.countB_le ⟨#[47]⟩ (by decide) s.size s (Nat.le_refl _)
    omega
  unfold splitL
  split
  · split
    · exact Nat.zero_le _
    · exact hn
  · exact Nat.zero_le _
theorem names_pure (s : ByteArray) : ∃ k, hypogeumlaw21_NodeNames.f k s = some true := by
  by_cases h1 : (s.size : Int) > 1000
  · refine ⟨41, ?_⟩
    unfold hypogeumlaw21_NodeNames.f
    rw [if_pos h1, awake_f 41 (Nat.le_refl _)]; rfl
  · have hs : s.size ≤ 1000 := by omega
    refine ⟨s.size + 4003, ?_⟩
    unfold hypogeumlaw21_NodeNames.f
    rw [if_neg h1]
    obtain ⟨L, E, hL, h2, h3⟩ : ∃ L E, L.length ≤ 2000 ∧ node_Split.f s = some (L, E) ∧ hypogeumref21_Split.f (s.size + 4003) s = some (L, E) := by
      by_cases h0 : s.toList = []
      · refine ⟨[], 0, Nat.zero_le _, ?_, ?_⟩
        · unfold node_Split.f; rw [if_pos h0]
        · unfold hypogeumref21_Split.f; rw [if_pos h0]
      · refine ⟨splitL s, splitE s, splitL_len s hs, ?_, rsplit s hs h0⟩
        unfold node_Split.f; rw [if_neg h0, if_pos (by omega)]
    have hn : hypogeumref21_Name.f (s.size + 4003) s = some (nameB s) := name_k s (by omega) _ (by omega)
    rw [h2, h3, hn]
    unfold node_Name.f
    simp only [Option.bind_some]
    have e1 : (nameB s != nameB s) = false := bne_self_eq_false _
    rw [e1]
    have e2 : (E != E) = false := bne_self_eq_false _
    rw [e2, if_neg (by decide), if_pos trivial]
    exact names_j0 L hL _ (by omega)
theorem names_walk (s : ByteArray) (w : World) : Calls Tryd.prog 4 #[.string s] w fun e w' => e = .returned (.bool true) ∧ Below w.heap.size w w' := by
  obtain ⟨k, h⟩ := names_pure s
  exact hypogeumlaw21_NodeNames.calls k s true w h
end Go.Proofs.YthpgbhpnlnpfnaaDoor.Law
