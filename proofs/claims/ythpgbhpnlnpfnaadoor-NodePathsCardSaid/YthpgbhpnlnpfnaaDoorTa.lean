/- Trees, plain: their weight; what a list tells. -/
import Derived.Test.YthpgbhpnlnpfnaaDoorAk
import Derived.Test.YthpgbhpnlnpfnaaDoorEx5
namespace Go.Proofs.YthpgbhpnlnpfnaaDoor.Law
open Go.RowKit Go.Proofs.YthpgbhpnlnpfnaaDoor Go.Proofs.YthpgbhpnlnpfnaaDoorW.PrintWords Go.Proofs.YthpgbhpnlnpfnaaDoorW.PrintLast Go.Proofs.YthpgbhpnlnpfnaaDoorW.PrintMore Go.Proofs.YthpgbhpnlnpfnaaDoor.E
set_option linter.unusedSimpArgs false
set_option linter.unusedVariables false
mutual
/-- how much a tree weighs: its names and bytes, and thirty a node -/
def wtN : S28 → Nat
  | ⟨nm, _, by_, ks⟩ => nm.size + by_.length + 30 + wtL ks
def wtL : List S28 → Nat
  | [] => 0
  | x :: xs => wtN x + wtL xs
end
mutual
/-- how many nodes -/
def cN : S28 → Nat
  | ⟨_, _, _, ks⟩ => 1 + cL ks
def cL : List S28 → Nat
  | [] => 0
  | x :: xs => cN x + cL xs
end
theorem cN_pos (x : S28) : 1 ≤ cN x := by obtain ⟨a, b, c, d⟩ := x; simp only [cN]; omega
theorem cL_len : ∀ l : List S28, l.length ≤ cL l
  | [] => Nat.zero_le _
  | x :: l => by have := cL_len l; have := cN_pos x; simp only [cL, List.length_cons]; omega
theorem cN_mem : ∀ (l : List S28) (x : S28), x ∈ l → cN x ≤ cL l
  | y :: l, x, h => by
    rcases List.mem_cons.mp h with rfl | h
    · simp only [cL]; omega
    · have := cN_mem l x h; simp only [cL]; omega
theorem wtL_app (a b : List S28) : wtL (a ++ b) = wtL a + wtL b := by
  induction a with
  | nil => simp [wtL]
  | cons x a ih => simp only [List.cons_append, wtL, ih]; omega
theorem wtN_pos (x : S28) : 30 ≤ wtN x := by obtain ⟨a, b, c, d⟩ := x; simp only [wtN]; omega
theorem wtL_len : ∀ l : List S28, 30 * l.length ≤ wtL l
  | [] => by simp [wtL]
  | x :: l => by have := wtL_len l; have := wtN_pos x; simp only [wtL, List.length_cons]; omega
theorem wtN_mem : ∀ (l : List S28) (x : S28), x ∈ l → wtN x ≤ wtL l
  | y :: l, x, h => by
    rcases List.mem_cons.mp h with rfl | h
    · simp only [wtL]; omega
    · have := wtN_mem l x h; simp only [wtL]; omega
theorem rd_mem (ks : List S28) (i : Nat) (h : i < ks.length) : rd_T28 ks (i : Int) = ks[i] := by
  unfold rd_T28
  rw [Int.toNat_natCast, List.getD_eq_getElem?_getD, List.getElem?_eq_getElem h]; rfl
theorem wt_kid (ks : List S28) (i : Nat) (h : i < ks.length) : wtN (rd_T28 ks (i : Int)) ≤ wtL ks := by
  rw [rd_mem ks i h]; exact wtN_mem _ _ (List.getElem_mem h)
theorem eta28 (x : S28) : (⟨x.f0, x.f1, x.f2, x.f3⟩ : S28) = x := by cases x; rfl
/-! what a list tells -/
abbrev wF (x : S56) : Nat := x.f1.size + x.f3.length + 30
def wtF : List S56 → Nat
  | [] => 0
  | x :: l => wF x + wtF l
theorem wtF_drop (l : List S56) (i : Nat) (h : i < l.length) : wtF (l.drop i) = wF l[i] + wtF (l.drop (i + 1)) := by
  rw [List.drop_eq_getElem_cons h]; rfl
theorem rd_mem56 (ks : List S56) (i : Nat) (h : i < ks.length) : rd_T56 ks (i : Int) = ks[i] := by
  unfold rd_T56
  rw [Int.toNat_natCast, List.getD_eq_getElem?_getD, List.getElem?_eq_getElem h]; rfl
set_option maxHeartbeats 1000000 in
theorem kids_run (l : List S56) (hl : l.length ≤ 100) (hb : ∀ x ∈ l, x.f3.length < 140737488355328) : ∀ (m at_ depth : Nat) (acc : List S28), l.length - at_ = m → at_ ≤ l.length → depth ≤ at_ → acc.length ≤ at_ →
    ∃ r n, (∀ k, 2 * m + 1 ≤ k → hypogeumlaw21_kids.l0 k l (at_ : Int) (depth : Int) acc = some (acc ++ r, ((n : Nat) : Int))) ∧ at_ ≤ n ∧ n ≤ l.length ∧ wtL r + wtF (l.drop n) ≤ wtF (l.drop at_) ∧ cL r + at_ ≤ n := by
  intro m
  induction m using Nat.strongRecOn with
  | _ m ih =>
  intro at_ depth acc hm hat hd hacc
  by_cases hlt : at_ < l.length
  · have hx := hb l[at_] (List.getElem_mem hlt)
    by_cases hq : (wrap64 (Int.tmod ((rd_T56 l (at_ : Int)).f0) 9)) ≥ (depth : Int)
    · have HQ := Aside0.mk hq
      clear hq
      have hw1 : Aside0 (wrap64 ((at_ : Int) + 1) = ((at_ + 1 : Nat) : Int)) := ⟨by rw [n64 (by omega) (by omega)]; omega⟩
      have hw2 : Aside0 (wrap64 ((depth : Int) + 1) = ((depth + 1 : Nat) : Int)) := ⟨by rw [n64 (by omega) (by omega)]; omega⟩
      obtain ⟨r1, n1, h1, h2, h3, h4, h5⟩ := ih (m - 1) (by omega) (at_ + 1) (depth + 1) [] (by omega) (by omega) (by omega) (by simp)
      obtain ⟨r2, n2, g1, g2, g3, g4, g5⟩ := ih (l.length - n1) (by omega) n1 depth (acc ++ [⟨l[at_].f1, l[at_].f2, l[at_].f3, r1⟩]) rfl h3 (by omega) (by simp; omega)
      refine ⟨⟨l[at_].f1, l[at_].f2, l[at_].f3, r1⟩ :: r2, n2, fun k hk => ?_, by omega, g3, ?_, by simp only [cL, cN]; omega⟩
      · obtain ⟨k, rfl⟩ : ∃ j, k = j + 1 := ⟨k - 1, by omega⟩
        obtain ⟨k, rfl⟩ : ∃ j, k = j + 1 := ⟨k - 1, by omega⟩
        rw [hypogeumlaw21_kids.l0, if_pos (by omega), if_pos (by omega), if_pos HQ.out]
        simp only [Option.bind_some]
        rw [rd_mem56 l at_ hlt, if_pos (by simpa using hx), hw1.out, hw2.out, hypogeumlaw21_kids.f, h1 k (by omega)]
        simp only [Option.bind_some, List.nil_append]
        rw [if_pos (by omega), g1 (k + 1) (by omega), List.append_assoc]
        rfl
      · rw [wtF_drop l at_ hlt]
        simp only [wtL, wtN, wF]
        omega
    · have HQ := Aside0.mk hq
      clear hq
      refine ⟨[], at_, fun k hk => ?_, Nat.le_refl _, hat, by simp [wtL], by simp [cL]⟩
      obtain ⟨k, rfl⟩ : ∃ j, k = j + 1 := ⟨k - 1, by omega⟩
      rw [hypogeumlaw21_kids.l0, if_pos (by omega), if_pos (by omega), if_neg HQ.out, List.append_nil]
  · refine ⟨[], at_, fun k hk => ?_, Nat.le_refl _, hat, by simp [wtL], by simp [cL]⟩
    obtain ⟨k, rfl⟩ : ∃ j, k = j + 1 := ⟨k - 1, by omega⟩
    rw [hypogeumlaw21_kids.l0, if_neg (by omega), List.append_nil]
/-- the tree that a list tells -/
theorem tree_run (nm : ByteArray) (dir : Bool) (l : List S56) (hl : l.length ≤ 100) (hb : ∀ x ∈ l, x.f3.length < 140737488355328) :
    ∃ r, (wtL r ≤ wtF l ∧ cL r ≤ l.length) ∧ ∀ k, 202 ≤ k → hypogeumlaw21_tree.f k nm dir [] [] l = some (nm, dir, [], r) := by
  obtain ⟨r, n, h1, h2, h3, h4, h5⟩ := kids_run l hl hb l.length 0 0 [] rfl (Nat.zero_le _) (Nat.le_refl _) (Nat.le_refl _)
  refine ⟨r, ⟨by rw [List.drop_zero] at h4; omega, by omega⟩, fun k hk => ?_⟩
  obtain ⟨k, rfl⟩ : ∃ j, k = j + 1 := ⟨k - 1, by omega⟩
  have e := h1 k (by omega)
  unfold hypogeumlaw21_tree.f
  simp only [Option.bind_some]
  rw [if_pos (by simp), hypogeumlaw21_kids.f]
  have e' : hypogeumlaw21_kids.l0 k l 0 0 [] = some ([] ++ r, ((n : Nat) : Int)) := e
  rw [e']
  rfl

end Go.Proofs.YthpgbhpnlnpfnaaDoor.Law
