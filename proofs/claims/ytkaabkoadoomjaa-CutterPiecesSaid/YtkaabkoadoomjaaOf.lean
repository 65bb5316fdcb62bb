/- The walk of rolling.Of, and what a byte row tells. -/
import Derived.Test.YtkaabkoadoomjaaInv
namespace Go.Proofs.Ytkaabkoadoomjaa.Law
open Go.RowKit Go.Proofs.Ytkaabkoadoomjaa Go.Proofs.Ytkaabkoadoomjaa.D Go.Proofs.Ytkaabkoadoomjaa.Roll Go.Proofs.YtkaabkoadoomjaaW.PrintWords Go.Proofs.YtkaabkoadoomjaaW.PrintLast Go.Proofs.YtkaabkoadoomjaaW.PrintMore
/-- a window behind some bytes more -/
def pushed (L : List Nat) (bs : List Nat) : List Nat := bs.foldl (fun L b => L.tail ++ [b]) L
theorem pushed_snoc (L bs : List Nat) (b : Nat) : pushed L (bs ++ [b]) = (pushed L bs).tail ++ [b] := by unfold pushed; rw [List.foldl_append]; rfl
theorem pushed_drop (L bs : List Nat) (hL : L ≠ []) : pushed L bs = (L ++ bs).drop bs.length := by
  induction bs generalizing L with
  | nil => simp [pushed]
  | cons b bs ih =>
    show pushed (L.tail ++ [b]) bs = _
    rw [ih _ (by simp)]
    cases L with
    | nil => exact absurd rfl hL
    | cons a L =>
      show List.drop bs.length (L ++ [b] ++ bs) = List.drop (bs.length + 1) (a :: (L ++ b :: bs))
      rw [List.drop_succ_cons, List.append_assoc]; rfl
theorem fp_pushed (m : Nat) (bs : List Nat) : fp m (pushed zeroWin bs) = fp m (bs.drop (bs.length - 16)) := by
  rw [pushed_drop _ _ (by decide)]
  unfold zeroWin fp
  rw [List.drop_append, List.drop_replicate, poly_zeros]
  simp
def nat (l : List Int) : List Nat := l.map Int.toNat
def Bytes (l : List Int) : Prop := ∀ x ∈ l, 0 ≤ x ∧ x < 256
theorem nat_len (l : List Int) : (nat l).length = l.length := by simp [nat]
theorem nat_drop (l : List Int) (n : Nat) : (nat l).drop n = nat (l.drop n) := by simp [nat]
theorem nat_take (l : List Int) (n : Nat) : (nat l).take n = nat (l.take n) := by simp [nat]
theorem Bytes.nat {l : List Int} (h : Bytes l) : ∀ b ∈ nat l, b < 256 := fun b hb => by
  obtain ⟨x, hx, rfl⟩ := List.mem_map.mp hb
  have := h x hx; omega
theorem rd_push {l : List Int} (h : Bytes l) {L : List Nat} {i : Nat} (hi : i < l.length) : (0 ≤ rd l (i : Int) ∧ rd l (i : Int) < 256) ∧
    pushed L ((nat l).take (i + 1)) = (pushed L ((nat l).take i)).tail ++ [(rd l (i : Int)).toNat] := by
  have e : rd l (i : Int) = l[i] := by
    unfold rd
    rw [show (i : Int).toNat = i from rfl, List.getD_eq_getElem?_getD, List.getElem?_eq_getElem hi]; rfl
  refine ⟨by rw [e]; exact h _ (List.getElem_mem hi), ?_⟩
  rw [List.take_succ_eq_append_getElem (by rw [nat_len]; exact hi), pushed_snoc, e]
  congr 2
  simp [nat]
instance (m : Nat) : Decidable (U m) := by unfold U; infer_instance
instance (m : Nat) : Decidable (May m) := decidable_of_iff (U m ∧ 9 ≤ m.log2 ∧ m.log2 ≤ 53) ⟨fun h => ⟨h.1, h.2.1, h.2.2⟩, fun h => ⟨h.u, h.lo, h.hi⟩⟩
instance (l : List Int) : Decidable (Bytes l) := by unfold Bytes; infer_instance
end Go.Proofs.Ytkaabkoadoomjaa.Law
