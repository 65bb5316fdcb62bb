/- node.Right and the document's Right of any tree are one. -/
import Derived.Test.YthpgbhpnlnpfnaaDoorTa
import Derived.Test.YthpgbhpnlnpfnaaDoorEx6
import Derived.Test.YthpgbhpnlnpfnaaDoorEy7
namespace Go.Proofs.YthpgbhpnlnpfnaaDoor.Law
open Go.RowKit Go.Proofs.YthpgbhpnlnpfnaaDoor Go.Proofs.YthpgbhpnlnpfnaaDoorW.PrintWords Go.Proofs.YthpgbhpnlnpfnaaDoorW.PrintLast Go.Proofs.YthpgbhpnlnpfnaaDoorW.PrintMore Go.Proofs.YthpgbhpnlnpfnaaDoor.E
set_option linter.unusedSimpArgs false
set_option linter.unusedVariables false
theorem own_l0 (nm : ByteArray) (dir : Bool) (bytes : List Int) (kids : List S28) (hk : kids.length ≤ 32) : ∀ (m i k : Nat), kids.length - i = m → 0 < i → i ≤ kids.length ∨ i = 1 → m < k → (∀ j, j < i → j < kids.length → 0 < j → Op.bytesLess (kn kids (j - 1)) (kn kids j) = true) →
    hypogeumref21_own.l0 k (i : Int) nm dir bytes kids = some (kidsE kids)
  | m, i, 0, _, _, _, hf, _ => by omega
  | m, i, k + 1, hm, h0, hi, hf, hp => by
    unfold hypogeumref21_own.l0
    by_cases hlt : i < kids.length
    · rw [if_pos (by omega), if_pos (by omega), wm h0 (by omega), if_pos (by omega), if_pos (by omega)]
      by_cases c : Op.bytesLess (kn kids (i - 1)) (kn kids i) = true
      · rw [if_pos c, wp1 (by omega)]
        match m, hm with
        | 0, hm => omega
        | m + 1, hm =>
          exact own_l0 nm dir bytes kids hk m (i + 1) k (by omega) (by omega) (by omega) (by omega) (fun j hj h1 h2 => by
            by_cases e : j = i
            · subst e; exact c
            · exact hp j (by omega) h1 h2)
      · rw [if_neg c, rises_no h0 hlt c]
    · rw [if_neg (by omega)]
      rw [show kidsE kids = 0 from if_pos fun j h1 h2 => hp j (by omega) h1 h2]
theorem own_j1 (k : Nat) (hk : 36 ≤ k) (b : Bool) (nm : ByteArray) (dir : Bool) (bytes : List Int) (kids : List S28) : hypogeumref21_own.j1 k b nm dir bytes kids = some (restE b bytes kids) := by
  obtain ⟨k, rfl⟩ : ∃ n, k = n + 1 := ⟨k - 1, by omega⟩
  rw [hypogeumref21_own.j1]; unfold restE
  by_cases h1 : b = true
  · rw [if_pos h1, if_pos h1]
  · rw [if_neg h1, if_neg h1]
    by_cases h2 : (bytes.length : Int) > 8192
    · rw [if_pos h2, if_pos h2]
    · rw [if_neg h2, if_neg h2]
      by_cases h3 : (kids.length : Int) > 32
      · rw [if_pos h3, if_pos h3]
      · rw [if_neg h3, if_neg h3]
        exact own_l0 nm dir bytes kids (by omega) (kids.length - 1) 1 k rfl (by omega) (.inr rfl) (by omega) (fun j hj _ h2 => by omega)
theorem own_j0 (k : Nat) (hk : 37 ≤ k) (d : Int) (b : Bool) (nm : ByteArray) (dir : Bool) (bytes : List Int) (kids : List S28) : hypogeumref21_own.j0 k d b nm dir bytes kids = some (if b = true then 16 else restE (kindE d dir bytes kids) bytes kids) := by
  obtain ⟨k, rfl⟩ : ∃ n, k = n + 1 := ⟨k - 1, by omega⟩
  rw [hypogeumref21_own.j0]; unfold kindE
  simp only [own_j1 k (by omega)]
  cases b <;> cases dir <;> by_cases h2 : d = 0 <;> by_cases h4 : (kids.length : Int) > 0 <;> simp only [h2, h4, ↓reduceIte, Bool.false_eq_true, decide_true, decide_false]
theorem own_f (k : Nat) (nm : ByteArray) (dir : Bool) (bytes : List Int) (kids : List S28) (d : Int) (hs : nm.size ≤ 140737488355328) (hk : nm.size + 40 ≤ k) : hypogeumref21_own.f k nm dir bytes kids d = some (ownE nm dir bytes kids d) := by
  have hn : hypogeumref21_Name.f k nm = some (nameB nm) := rname_l0 nm hs k 0 (by omega) (by omega) (fun j hj => by omega)
  unfold hypogeumref21_own.f ownE badN
  rw [hn]
  simp only [own_j0 k (by omega), Option.bind_some]
  by_cases h1 : d > 6
  · rw [if_pos h1, if_pos h1]
  · rw [if_neg h1, if_neg h1]
    by_cases h2 : d = 0
    · by_cases h3 : nm.toList = []
      · rw [if_pos h2, if_pos h3, if_neg (by omega), if_pos h2]; simp [h3]
      · rw [if_pos h2, if_neg h3, if_pos h2]; simp [h3]
    · rw [if_neg h2, if_neg h2]
      by_cases h3 : d > 0
      · rw [if_pos h3, if_pos h3]
      · rw [if_neg h3, if_neg h3]
set_option maxHeartbeats 1000000 in
/-- node.walk and the document's first: one answer -/
theorem walk_first : ∀ (n : Nat) (nm : ByteArray) (dir : Bool) (by_ : List Int) (ks : List S28) (d c : Int), wtN ⟨nm, dir, by_, ks⟩ ≤ n → wtN ⟨nm, dir, by_, ks⟩ ≤ 140737488355328 →
    ∃ r K, ∀ k, K ≤ k → node_walk.f k nm dir by_ ks d c = some r ∧ hypogeumref21_first.f k nm dir by_ ks d c = some r
  | 0, nm, dir, by_, ks, d, c, hn, _ => by simp only [wtN] at hn; omega
  | n + 1, nm, dir, by_, ks, d, c, hn, hb => by
    simp only [wtN] at hn hb
    have hlen := wtL_len ks
    by_cases hc : wrap64 (c + 1) > 64
    · have HC := Aside0.mk hc
      clear hc
      refine ⟨(21, wrap64 (c + 1)), 41, fun k hk => ?_⟩
      obtain ⟨k, rfl⟩ : ∃ m, k = m + 1 := ⟨k - 1, by omega⟩
      constructor
      · rw [node_walk.f, fault_f k _ _ _ _ _ _ (by omega), if_pos HC.out]
        rfl
      · rw [hypogeumref21_first.f, if_pos HC.out]
    · have HC := Aside0.mk hc
      clear hc
      have hw : ∀ k, 40 ≤ k → node_walk.f (k + 1) nm dir by_ ks d c = (if ownE nm dir by_ ks d = 0 then node_walk.l0 k d (wrap64 (c + 1)) 0 ks else some (ownE nm dir by_ ks d, wrap64 (c + 1))) := fun k hk => by
        rw [node_walk.f, fault_f k _ _ _ _ _ _ hk, if_neg HC.out]; rfl
      have hf : ∀ k, nm.size + 40 ≤ k → hypogeumref21_first.f (k + 1) nm dir by_ ks d c = hypogeumref21_first.l0 k d (wrap64 (c + 1)) (ownE nm dir by_ ks d) 0 nm dir by_ ks := fun k hk => by
        rw [hypogeumref21_first.f, if_neg HC.out, own_f k _ _ _ _ _ (by omega) hk]; rfl
      by_cases he : ownE nm dir by_ ks d = 0
      · have loop : ∀ (m i : Nat) (cc : Int), ks.length - i = m → i ≤ ks.length → ∃ r K, ∀ k, K ≤ k → node_walk.l0 k d cc (i : Int) ks = some r ∧ hypogeumref21_first.l0 k d cc 0 (i : Int) nm dir by_ ks = some r := by
          intro m
          induction m with
          | zero =>
            intro i cc hm hi
            refine ⟨(0, cc), 1, fun k hk => ?_⟩
            obtain ⟨k, rfl⟩ : ∃ m, k = m + 1 := ⟨k - 1, by omega⟩
            constructor
            · rw [node_walk.l0, if_neg (by omega)]
            · rw [hypogeumref21_first.l0, if_neg (by omega)]
          | succ m ih =>
            intro i cc hm hi
            have hlt : i < ks.length := by omega
            have hk := wt_kid ks i hlt
            obtain ⟨r1, K1, h1⟩ := walk_first n (rd_T28 ks (i : Int)).f0 (rd_T28 ks (i : Int)).f1 (rd_T28 ks (i : Int)).f2 (rd_T28 ks (i : Int)).f3 (wrap64 (d + 1)) cc (by rw [eta28]; omega) (by rw [eta28]; omega)
            have hw1 : Aside0 (wrap64 ((i : Int) + 1) = ((i + 1 : Nat) : Int)) := ⟨by rw [n64 (by omega) (by omega)]; omega⟩
            obtain ⟨e1, c1⟩ := r1
            obtain ⟨r2, K2, h2⟩ := ih (i + 1) c1 (by omega) (by omega)
            by_cases h0 : e1 = 0
            · refine ⟨r2, K1 + K2 + 1, fun k hk => ?_⟩
              obtain ⟨k, rfl⟩ : ∃ m, k = m + 1 := ⟨k - 1, by omega⟩
              obtain ⟨a1, a2⟩ := h1 k (by omega)
              obtain ⟨b1, b2⟩ := h2 k (by omega)
              constructor
              · rw [node_walk.l0, if_pos (by omega), if_pos (by omega), a1, Option.bind_some, if_pos h0, hw1.out]; exact b1
              · rw [hypogeumref21_first.l0, if_pos (by omega), if_pos rfl, if_pos (by omega), a2, Option.bind_some, hw1.out]
                show hypogeumref21_first.l0 k d c1 e1 _ _ _ _ _ = _
                rw [h0]; exact b2
            · refine ⟨(e1, c1), K1 + 2, fun k hk => ?_⟩
              obtain ⟨k, rfl⟩ : ∃ m, k = m + 1 := ⟨k - 1, by omega⟩
              obtain ⟨a1, a2⟩ := h1 k (by omega)
              constructor
              · rw [node_walk.l0, if_pos (by omega), if_pos (by omega), a1, Option.bind_some, if_neg h0]
              · rw [hypogeumref21_first.l0, if_pos (by omega), if_pos rfl, if_pos (by omega), a2, Option.bind_some, hw1.out]
                show hypogeumref21_first.l0 k d c1 e1 _ _ _ _ _ = _
                obtain ⟨k, rfl⟩ : ∃ m, k = m + 1 := ⟨k - 1, by omega⟩
                rw [hypogeumref21_first.l0]
                by_cases hl : ((i + 1 : Nat) : Int) < (ks.length : Int)
                · rw [if_pos hl, if_neg h0]
                · rw [if_neg hl]
        obtain ⟨r, K, h⟩ := loop ks.length 0 (wrap64 (c + 1)) rfl (by omega)
        refine ⟨r, nm.size + 41 + K, fun k hk => ?_⟩
        obtain ⟨k, rfl⟩ : ∃ m, k = m + 1 := ⟨k - 1, by omega⟩
        obtain ⟨a1, a2⟩ := h k (by omega)
        rw [hw k (by omega), hf k (by omega), he, if_pos rfl]
        exact ⟨a1, a2⟩
      · refine ⟨(ownE nm dir by_ ks d, wrap64 (c + 1)), nm.size + 42, fun k hk => ?_⟩
        obtain ⟨k, rfl⟩ : ∃ m, k = m + 1 := ⟨k - 1, by omega⟩
        rw [hw k (by omega), hf k (by omega), if_neg he]
        refine ⟨rfl, ?_⟩
        obtain ⟨k, rfl⟩ : ∃ m, k = m + 1 := ⟨k - 1, by omega⟩
        rw [hypogeumref21_first.l0]
        by_cases hl : (0 : Int) < (ks.length : Int)
        · rw [if_pos hl, if_neg he]
        · rw [if_neg hl]
theorem right_both (nm : ByteArray) (dir : Bool) (by_ : List Int) (ks : List S28) (hb : wtN ⟨nm, dir, by_, ks⟩ ≤ 140737488355328) :
    ∃ r K, ∀ k, K ≤ k → node_Right.f k nm dir by_ ks = some r ∧ hypogeumref21_Right.f k nm dir by_ ks = some r := by
  obtain ⟨r, K, h⟩ := walk_first _ nm dir by_ ks 0 0 (Nat.le_refl _) hb
  refine ⟨r.1, K, fun k hk => ?_⟩
  obtain ⟨a1, a2⟩ := h k hk
  unfold node_Right.f hypogeumref21_Right.f
  rw [a1, a2]
  exact ⟨rfl, rfl⟩
end Go.Proofs.YthpgbhpnlnpfnaaDoor.Law
