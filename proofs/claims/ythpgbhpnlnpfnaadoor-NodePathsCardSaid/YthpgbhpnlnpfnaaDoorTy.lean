/- A tree's text: what the function comes to. -/
import Derived.Test.YthpgbhpnlnpfnaaDoorTx
namespace Go.Proofs.YthpgbhpnlnpfnaaDoor.Law
open Go.RowKit Go.Proofs.YthpgbhpnlnpfnaaDoor Go.Proofs.YthpgbhpnlnpfnaaDoorW.PrintWords Go.Proofs.YthpgbhpnlnpfnaaDoorW.PrintLast Go.Proofs.YthpgbhpnlnpfnaaDoorW.PrintMore Go.Proofs.YthpgbhpnlnpfnaaDoor.E
set_option linter.unusedSimpArgs false
set_option linter.unusedVariables false
theorem kd_len (b : Bool) : (numI (kdN b)).length ≤ 2 := by cases b <;> decide
theorem hdr_len (nm : ByteArray) (dir : Bool) (by_ : List Int) (n : Nat) : (hdr nm dir by_ n).length ≤ nm.size + by_.length + 26 := by
  have h1 := numI_len nm.size; have h2 := kd_len dir; have h3 := numI_len by_.length; have h4 := numI_len n
  simp only [hdr, List.length_append, bytesOf_length]; omega
theorem enc_len : ∀ (n : Nat), (∀ (x : S28), wtN x ≤ n → (encN x).length ≤ wtN x) ∧ (∀ (xs : List S28), wtL xs ≤ n → (encL xs).length ≤ wtL xs)
  | 0 => ⟨fun x h => by have := wtN_pos x; omega, fun xs h => by
      have := wtL_len xs
      obtain rfl := List.eq_nil_of_length_eq_zero (show xs.length = 0 by omega)
      exact Nat.zero_le _⟩
  | n + 1 => by
    obtain ⟨ihN, ihL⟩ := enc_len n
    have hN : ∀ (x : S28), wtN x ≤ n + 1 → (encN x).length ≤ wtN x := by
      rintro ⟨a, b, c, ks⟩ hn
      simp only [wtN] at hn ⊢
      have := ihL ks (by omega)
      have h := hdr_len a b c ks.length
      simp only [encN, List.length_append, List.length_map]; omega
    refine ⟨hN, ?_⟩
    intro xs hn
    match xs with
    | [] => exact Nat.zero_le _
    | x :: xs =>
      simp only [wtL] at hn ⊢
      have px := wtN_pos x
      have h1 := hN x (by omega)
      have h2 := ihL xs (by omega)
      simp only [encL, List.length_append]; omega
theorem drop_rd (ks : List S28) (i : Nat) (h : i < ks.length) : ks.drop i = rd_T28 ks (i : Int) :: ks.drop (i + 1) := by
  rw [rd_mem ks i h, List.drop_eq_getElem_cons h]
theorem wt_drop (ks : List S28) (i : Nat) : wtL (ks.drop i) ≤ wtL ks := by
  have := wtL_app (ks.take i) (ks.drop i)
  rw [List.take_append_drop] at this; omega
set_option maxHeartbeats 1000000 in
theorem text_run : ∀ (n : Nat) (x : S28), wtN x ≤ n → wtN x ≤ 140737488355000 → ∃ K, ∀ k, K ≤ k → hypogeumref21_Text.f k x.f0 x.f1 x.f2 x.f3 = some (bl (encN x))
  | 0, x, hn, _ => by have := wtN_pos x; omega
  | n + 1, ⟨nm, dir, by_, ks⟩, hn, hb => by
    simp only [wtN] at hn hb
    have hkl := wtL_len ks
    have loop : ∀ (m i : Nat) (s : List UInt8), ks.length - i = m → i ≤ ks.length → s.length + wtL (ks.drop i) ≤ 4611686018427387904 → ∃ K, ∀ k, K ≤ k → hypogeumref21_Text.l0 k (bl s) (i : Int) ks = some (bl (s ++ encL (ks.drop i))) := by
      intro m
      induction m with
      | zero =>
        intro i s hm hi hs
        obtain rfl : i = ks.length := by omega
        refine ⟨1, fun k hk => ?_⟩
        obtain ⟨k, rfl⟩ : ∃ j, k = j + 1 := ⟨k - 1, by omega⟩
        rw [hypogeumref21_Text.l0, if_neg (by omega), List.drop_length]
        simp [encL]
      | succ m ih =>
        intro i s hm hi hs
        have hlt : i < ks.length := by omega
        have hk := wt_kid ks i hlt
        have hd := drop_rd ks i hlt
        rw [hd] at hs ⊢
        simp only [wtL, encL] at hs ⊢
        have he := (enc_len _).1 (rd_T28 ks (i : Int)) (Nat.le_refl _)
        obtain ⟨K1, h1⟩ := text_run n (rd_T28 ks (i : Int)) (by omega) (by omega)
        obtain ⟨K2, h2⟩ := ih (i + 1) (s ++ encN (rd_T28 ks (i : Int))) (by omega) (by omega) (by rw [List.length_append]; omega)
        have hw1 : Aside0 (wrap64 ((i : Int) + 1) = ((i + 1 : Nat) : Int)) := ⟨by rw [n64 (by omega) (by omega)]; omega⟩
        refine ⟨K1 + K2 + 1, fun k hk => ?_⟩
        obtain ⟨k, rfl⟩ : ∃ j, k = j + 1 := ⟨k - 1, by omega⟩
        rw [hypogeumref21_Text.l0, if_pos (by omega), if_pos (by omega), h1 k (by omega), Option.bind_some, if_pos (by rw [bl_size, bl_size]; omega), hw1.out, bl_app, h2 k (by omega), List.append_assoc]
    have l1 := numI_len nm.size; have l2 := kd_len dir; have l3 := numI_len by_.length; have l4 := numI_len ks.length
    have hh := hdr_len nm dir by_ ks.length
    obtain ⟨K, h⟩ := loop ks.length 0 ((hdr nm dir by_ ks.length).map u8) rfl (by omega) (by rw [List.length_map, List.drop_zero]; omega)
    refine ⟨K + 10, fun k hk => ?_⟩
    obtain ⟨k, rfl⟩ : ∃ j, k = j + 1 := ⟨k - 1, by omega⟩
    show hypogeumref21_Text.f (k + 1) nm dir by_ ks = _
    have ek : (if dir = true then (1 : Int) else 0) = ((kdN dir : Nat) : Int) := by cases dir <;> rfl
    have kd1 : kdN dir ≤ 1 := by cases dir <;> decide
    rw [hypogeumref21_Text.f, if_pos (by omega), text_f [] (bytesOf nm) k (by rw [bytesOf_length]; simp; omega) (by rw [bytesOf_length]; omega) (by omega), Option.bind_some, ek,
      number_f _ (kdN dir) k (by simp only [List.length_append, bytesOf_length, List.length_nil]; omega) (by omega) (by omega), Option.bind_some,
      text_f _ by_ k (by simp only [List.length_append, bytesOf_length, List.length_nil]; omega) (by omega) (by omega), Option.bind_some,
      number_f _ ks.length k (by simp only [List.length_append, bytesOf_length, List.length_nil]; omega) (by omega) (by omega), Option.bind_some]
    have e := h k (by omega)
    rw [List.drop_zero] at e
    refine Eq.trans ?_ e
    congr 1
    simp only [hdr, bytesOf_length, List.nil_append]
    rfl
end Go.Proofs.YthpgbhpnlnpfnaaDoor.Law
