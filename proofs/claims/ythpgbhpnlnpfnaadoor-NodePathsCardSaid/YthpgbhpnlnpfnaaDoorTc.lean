/- A tree's copy, plain. -/
import Derived.Test.YthpgbhpnlnpfnaaDoorTy
import Derived.Test.YthpgbhpnlnpfnaaDoorEx10
namespace Go.Proofs.YthpgbhpnlnpfnaaDoor.Law
open Go.RowKit Go.Proofs.YthpgbhpnlnpfnaaDoor Go.Proofs.YthpgbhpnlnpfnaaDoorW.PrintWords Go.Proofs.YthpgbhpnlnpfnaaDoorW.PrintLast Go.Proofs.YthpgbhpnlnpfnaaDoorW.PrintMore Go.Proofs.YthpgbhpnlnpfnaaDoor.E
set_option linter.unusedSimpArgs false
set_option linter.unusedVariables false
set_option maxHeartbeats 1000000 in
theorem copy_run : ∀ (n : Nat) (x : S28), wtN x ≤ n → wtN x ≤ 140737488355328 → cN x ≤ 1000 → ∃ K, ∀ k, K ≤ k → node_Copy.f k x.f0 x.f1 x.f2 x.f3 = some (x.f0, x.f1, x.f2, x.f3)
  | 0, x, hn, _, _ => by have := wtN_pos x; omega
  | n + 1, ⟨a, b, c, ks⟩, hn, hb, hcn => by
    simp only [wtN] at hn hb
    simp only [cN] at hcn
    have hkl := wtL_len ks
    have hcl := cL_len ks
    show ∃ K, ∀ k, K ≤ k → node_Copy.f k a b c ks = some (a, b, c, ks)
    have loop : ∀ (m i : Nat), ks.length - i = m → i ≤ ks.length → ∃ K, ∀ k, K ≤ k → node_Copy.l0 k ks (ks.length : Int) (i : Int) a b c (ks.take i) = some (a, b, c, ks) := by
      intro m
      induction m with
      | zero =>
        intro i hm hi
        obtain rfl : i = ks.length := by omega
        refine ⟨1, fun k hk => ?_⟩
        obtain ⟨k, rfl⟩ : ∃ j, k = j + 1 := ⟨k - 1, by omega⟩
        rw [node_Copy.l0, if_neg (by omega), List.take_length]
      | succ m ih =>
        intro i hm hi
        have hlt : i < ks.length := by omega
        have hk := wt_kid ks i hlt
        have hkc : cN (rd_T28 ks (i : Int)) ≤ cL ks := by rw [rd_mem ks i hlt]; exact cN_mem _ _ (List.getElem_mem hlt)
        obtain ⟨K1, g1⟩ := copy_run n (rd_T28 ks (i : Int)) (by omega) (by omega) (by omega)
        obtain ⟨K2, g2⟩ := ih (i + 1) (by omega) (by omega)
        have hw1 : Aside0 (wrap64 ((i : Int) + 1) = ((i + 1 : Nat) : Int)) := ⟨by rw [n64 (by omega) (by omega)]; omega⟩
        refine ⟨K1 + K2 + 1, fun k hk => ?_⟩
        obtain ⟨k, rfl⟩ : ∃ j, k = j + 1 := ⟨k - 1, by omega⟩
        rw [node_Copy.l0, if_pos (by omega), if_pos (by omega), if_pos (by omega), g1 k (by omega), Option.bind_some, if_pos (by rw [List.length_take]; omega), hw1.out]
        have e : ks.take i ++ [(⟨(rd_T28 ks (i : Int)).f0, (rd_T28 ks (i : Int)).f1, (rd_T28 ks (i : Int)).f2, (rd_T28 ks (i : Int)).f3⟩ : S28)] = ks.take (i + 1) := by
          rw [eta28, rd_mem ks i hlt, List.take_succ_eq_append_getElem hlt]
        refine Eq.trans (congrArg _ e) (g2 k (by omega))
    obtain ⟨K, h⟩ := loop ks.length 0 rfl (by omega)
    refine ⟨K + 1, fun k hk => ?_⟩
    obtain ⟨k, rfl⟩ : ∃ j, k = j + 1 := ⟨k - 1, by omega⟩
    rw [node_Copy.f]
    unfold slices_Clone_byte_byte.f
    rw [if_pos (by omega), Option.bind_some]
    exact h k (by omega)

end Go.Proofs.YthpgbhpnlnpfnaaDoor.Law
