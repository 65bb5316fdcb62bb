/- NodePaths, plain: in a tree that is Right every node's path leads to it. -/
import Derived.Test.YthpgbhpnlnpfnaaDoorAv
import Derived.Test.YthpgbhpnlnpfnaaDoorTr
namespace Go.Proofs.YthpgbhpnlnpfnaaDoor.Law
open Go Go.RowKit Go.Proofs.YthpgbhpnlnpfnaaDoor Go.Proofs.YthpgbhpnlnpfnaaDoorW.PrintWords Go.Proofs.YthpgbhpnlnpfnaaDoorW.PrintLast Go.Proofs.YthpgbhpnlnpfnaaDoorW.PrintMore Go.Proofs.YthpgbhpnlnpfnaaDoor.E
set_option linter.unusedSimpArgs false
set_option linter.unusedVariables false
theorem less_irr : ∀ a : List UInt8, Op.bytesLess a a = false
  | [] => rfl
  | a :: x => by
    have h : ¬ a < a := fun e => absurd (show a.toNat < a.toNat from e) (by omega)
    simp [Op.bytesLess, h, less_irr x]
theorem less_trans : ∀ a b c : List UInt8, Op.bytesLess a b = true → Op.bytesLess b c = true → Op.bytesLess a c = true
  | _, [], [], _, h => by simp [Op.bytesLess] at h
  | [], [], _ :: _, h, _ => by simp [Op.bytesLess] at h
  | _ :: _, [], _, h, _ => by simp [Op.bytesLess] at h
  | [], _ :: _, [], _, h => by simp [Op.bytesLess] at h
  | [], _ :: _, _ :: _, _, _ => rfl
  | _ :: _, _ :: _, [], _, h => by simp [Op.bytesLess] at h
  | a :: x, b :: y, c :: z, h1, h2 => by
    have ih := less_trans x y z
    simp only [Op.bytesLess] at h1 h2 ⊢
    rcases Nat.lt_trichotomy a.toNat b.toNat with h | h | h
    · rcases Nat.lt_trichotomy b.toNat c.toNat with g | g | g
      · have : a < c := show a.toNat < c.toNat by omega
        simp [this]
      · have : a < c := show a.toNat < c.toNat by omega
        simp [this]
      · have g1 : ¬ b < c := fun e => absurd (show b.toNat < c.toNat from e) (by omega)
        have g2 : c < b := g
        simp [g1, g2] at h2
        obtain ⟨e, _⟩ := h2
        subst e
        omega
    · obtain rfl := UInt8.toNat_inj.mp h
      have n1 : ¬ a < a := fun e => absurd (show a.toNat < a.toNat from e) (by omega)
      simp [n1] at h1
      rcases Nat.lt_trichotomy a.toNat c.toNat with g | g | g
      · have : a < c := g
        simp [this]
      · obtain rfl := UInt8.toNat_inj.mp g
        simp [n1] at h2 ⊢
        exact ih h1 h2
      · have g1 : ¬ a < c := fun e => absurd (show a.toNat < c.toNat from e) (by omega)
        have g2 : c < a := g
        simp [g1, g2] at h2
        obtain ⟨e, _⟩ := h2
        subst e
        omega
    · have h3 : ¬ a < b := fun e => absurd (show a.toNat < b.toNat from e) (by omega)
      have h4 : b < a := h
      simp [h3, h4] at h1
      obtain ⟨e, _⟩ := h1
      subst e
      omega
theorem rises_lt {ks : List S28} (h : RisesK ks) : ∀ (m i : Nat), i + m + 1 < ks.length → Op.bytesLess (kn ks i) (kn ks (i + m + 1)) = true
  | 0, i, hl => by have := h (i + 1) (by omega) (by omega); simpa using this
  | m + 1, i, hl => by
    have h1 := rises_lt h m i (by omega)
    have h2 := h (i + (m + 1) + 1) hl (by omega)
    have e : i + (m + 1) + 1 - 1 = i + m + 1 := by omega
    rw [e] at h2
    exact less_trans _ _ _ h1 h2
theorem rises_ne {ks : List S28} (h : RisesK ks) {i j : Nat} (hij : i < j) (hj : j < ks.length) : kn ks i ≠ kn ks j := fun e => by
  have := rises_lt h (j - i - 1) i (by omega)
  rw [show i + (j - i - 1) + 1 = j by omega, e, less_irr] at this
  cases this
theorem own_good {nm : ByteArray} {dir : Bool} {by_ : List Int} {ks : List S28} {d : Nat} (h : ownE nm dir by_ ks (d : Int) = 0) : d ≤ 6 ∧ (0 < d → nameB nm = true) ∧ ks.length ≤ 32 ∧ RisesK ks := by
  unfold ownE at h
  by_cases h1 : (d : Int) > 6
  · rw [if_pos h1] at h; cases h
  rw [if_neg h1] at h
  by_cases h2 : badN (d : Int) nm = true
  · rw [if_pos h2] at h; cases h
  rw [if_neg h2] at h
  unfold restE at h
  by_cases h3 : kindE (d : Int) dir by_ ks = true
  · rw [if_pos h3] at h; cases h
  rw [if_neg h3] at h
  by_cases h4 : (by_.length : Int) > 8192
  · rw [if_pos h4] at h; cases h
  rw [if_neg h4] at h
  by_cases h5 : (ks.length : Int) > 32
  · rw [if_pos h5] at h; cases h
  rw [if_neg h5] at h
  unfold kidsE at h
  by_cases h6 : RisesK ks
  · refine ⟨by omega, fun hd => ?_, by omega, h6⟩
    unfold badN at h2
    rw [if_neg (by omega), if_pos (by omega)] at h2
    cases hb : nameB nm with
    | true => rfl
    | false => rw [hb] at h2; exact absurd rfl h2
  · rw [if_neg h6] at h; cases h
mutual
/-- no fault from here on -/
def goodN : Nat → S28 → Prop
  | d, ⟨nm, dir, by_, ks⟩ => ownE nm dir by_ ks (d : Int) = 0 ∧ goodL (d + 1) ks
def goodL : Nat → List S28 → Prop
  | _, [] => True
  | d, x :: xs => goodN d x ∧ goodL d xs
end
theorem goodL_mem : ∀ (d : Nat) (l : List S28) (x : S28), goodL d l → x ∈ l → goodN d x
  | d, y :: l, x, h, hx => by
    simp only [goodL] at h
    rcases List.mem_cons.mp hx with rfl | hx
    · exact h.1
    · exact goodL_mem d l x h.2 hx
theorem walk_good : ∀ k, (∀ (nm : ByteArray) (dir : Bool) (by_ : List Int) (ks : List S28) (d : Nat) (c c' : Int), node_walk.f k nm dir by_ ks (d : Int) c = some (0, c') → goodN d ⟨nm, dir, by_, ks⟩) ∧
    (∀ (ks : List S28) (d : Nat) (c c' : Int) (i : Nat), d ≤ 6 → ks.length ≤ 32 → i ≤ ks.length → node_walk.l0 k (d : Int) c (i : Int) ks = some (0, c') → goodL (d + 1) (ks.drop i))
  | 0 => ⟨fun _ _ _ _ _ _ _ h => by simp [node_walk.f] at h, fun _ _ _ _ _ _ _ _ h => by simp [node_walk.l0] at h⟩
  | k + 1 => by
    obtain ⟨ih1, ih2⟩ := walk_good k
    refine ⟨?_, ?_⟩
    · intro nm dir by_ ks d c c' h
      rw [node_walk.f] at h
      obtain ⟨e, h1, h2⟩ := Option.bind_eq_some_iff.mp h
      have h3 : node_fault.f (k + 40) nm dir by_ ks (d : Int) (wrap64 (c + 1)) = some e := at_rounds (node_fault.mono _ _ _ _ _ _) (by omega) h1
      rw [fault_f (k + 40) _ _ _ _ _ _ (by omega)] at h3
      by_cases he : e = 0
      · subst he
        rw [if_pos rfl] at h2
        have h4 : ownE nm dir by_ ks (d : Int) = 0 := by
          have := Option.some.inj h3
          split at this
          · cases this
          · exact this
        obtain ⟨g1, _, g3, _⟩ := own_good h4
        have := ih2 ks d _ c' 0 g1 g3 (Nat.zero_le _) h2
        rw [List.drop_zero] at this
        exact ⟨h4, this⟩
      · rw [if_neg he] at h2
        have := Option.some.inj h2
        injection this with e1 _
        exact absurd e1 he
    · intro ks d c c' i hd hk hi h
      rw [node_walk.l0] at h
      by_cases hlt : i < ks.length
      · rw [if_pos (by omega), if_pos (by omega)] at h
        obtain ⟨⟨e, c1⟩, h1, h2⟩ := Option.bind_eq_some_iff.mp h
        have w1 : wrap64 ((d : Int) + 1) = ((d + 1 : Nat) : Int) := by rw [n64 (by omega) (by omega)]; omega
        have w2 : wrap64 ((i : Int) + 1) = ((i + 1 : Nat) : Int) := by rw [n64 (by omega) (by omega)]; omega
        rw [w1] at h1
        rw [w2] at h2
        by_cases he : e = 0
        · subst he
          have h2' : node_walk.l0 k (d : Int) c1 ((i + 1 : Nat) : Int) ks = some (0, c') := (if_pos (rfl : ((0 : Int), c1).1 = 0)).symm.trans h2
          have g1 := ih1 _ _ _ _ (d + 1) _ _ h1
          rw [eta28] at g1
          rw [drop_rd ks i hlt]
          exact ⟨g1, ih2 ks d c1 c' (i + 1) hd hk (by clear w1 w2; omega) h2'⟩
        · have h2' : some (e, c1) = some (0, c') := (if_neg (show ¬ ((e, c1) : Int × Int).1 = 0 from he)).symm.trans h2
          have := Option.some.inj h2'
          injection this with e1 _
          exact absurd e1 he
      · obtain rfl : i = ks.length := by omega
        rw [List.drop_length]
        exact trivial
theorem right_good {x : S28} {K : Nat} {r : Int} (h : ∀ k, K ≤ k → node_Right.f k x.f0 x.f1 x.f2 x.f3 = some r ∧ hypogeumref21_Right.f k x.f0 x.f1 x.f2 x.f3 = some r) (hr : r = 0) : goodN 0 x := by
  obtain ⟨h1, _⟩ := h K (Nat.le_refl _)
  unfold node_Right.f at h1
  obtain ⟨⟨e, c⟩, h2, h3⟩ := Option.bind_eq_some_iff.mp h1
  have e1 : e = 0 := by have := Option.some.inj h3; rw [hr] at this; exact this
  subst e1
  have := (walk_good K).1 _ _ _ _ 0 _ _ h2
  rwa [eta28] at this
/-! paths -/
theorem glue_app (c : List UInt8) (A B : List (List UInt8)) (h : A ≠ []) : glue c (A ++ B) = glue c A ++ B := by
  cases A with
  | nil => exact absurd rfl h
  | cons a t => rfl
theorem cutS_app (r : List UInt8) : ∀ l : List UInt8, cutS (l ++ 47 :: r) = cutS l ++ cutS r
  | [] => by simp [cutS]
  | b :: l => by
    rw [List.cons_append, cutS, cutS, cutS_app r l]
    split
    · rfl
    · exact glue_app _ _ _ (cutS_ne l)
theorem cutS_one : ∀ r : List UInt8, (∀ b ∈ r, b ≠ 47) → cutS r = [r]
  | [], _ => rfl
  | b :: r, h => by
    rw [cutS, if_neg (h b (List.mem_cons_self ..)), cutS_one r (fun c hc => h c (List.mem_cons_of_mem _ hc))]
    rfl
theorem name_no {s : ByteArray} (h : nameB s = true) : (∀ b ∈ s.data.toList, b ≠ 47) ∧ s.data.toList ≠ [] ∧ s.size ≤ 32 := by
  obtain ⟨h1, h2, _, _, h5⟩ := of_decide_eq_true h
  refine ⟨fun b hb e => ?_, fun e => ?_, h2⟩
  · obtain ⟨i, hi, hx⟩ := List.getElem_of_mem hb
    have hi' : i < s.size := by rw [Lib.size_eq]; exact hi
    refine (h5 i hi').2 ?_
    have e1 : s[i]'hi' = b := hx
    have := bt_at s (i : Int) (by rw [Int.toNat_natCast]; exact hi')
    rw [← this]
    simp only [Int.toNat_natCast, e1, e]
    rfl
  · rw [Lib.size_eq, e] at h1; simp at h1
/-- the path p has the names L -/
def PathOK (p : ByteArray) (L : List ByteArray) : Prop := (p.toList = [] ∧ L = []) ∨ (p.toList ≠ [] ∧ L ≠ [] ∧ pieces p = L)
def joinP (p s : ByteArray) : ByteArray := if p.toList = [] then s else p ++ ⟨#[47]⟩ ++ s
theorem path_step {p s : ByteArray} {L : List ByteArray} (h : PathOK p L) (hs : nameB s = true) : PathOK (joinP p s) (L ++ [s]) := by
  obtain ⟨n1, n2, _⟩ := name_no hs
  have one : pieces s = [s] := by rw [pieces_cut, cutB, cutS_one _ n1]; rfl
  rcases h with ⟨h1, rfl⟩ | ⟨h1, h2, h3⟩
  · unfold joinP
    rw [if_pos h1]
    exact .inr ⟨by rw [Lib.toList_data]; exact n2, by simp, one⟩
  · unfold joinP
    rw [if_neg h1]
    refine .inr ⟨?_, by simp, ?_⟩
    · rw [Lib.toList_data]; simp
    · rw [pieces_cut, cutB]
      have e : (p ++ ⟨#[47]⟩ ++ s).data.toList = p.data.toList ++ 47 :: s.data.toList := by simp
      rw [e, cutS_app, cutS_one _ n1, List.map_append, ← cutB, ← pieces_cut, h3]
      rfl
theorem path_split {p : ByteArray} {L : List ByteArray} (h : PathOK p L) (hn : ∀ s ∈ L, nameB s = true) (hl : L.length ≤ 6) (hz : p.size < 4294967281) : node_Split.f p = some (L, 0) := by
  unfold node_Split.f
  rcases h with ⟨h1, rfl⟩ | ⟨h1, h2, h3⟩
  · rw [if_pos h1]
  · rw [if_neg h1, if_pos hz]
    have ha : (pieces p).all nameB = true := by rw [h3]; exact List.all_eq_true.mpr hn
    unfold splitL splitE
    rw [if_pos ha, if_pos ha, h3, if_neg (by omega), if_neg (by omega)]
theorem findP_step : ∀ (L : List ByteArray) (x n : S28) (s : ByteArray), findP x L = some n → findP x (L ++ [s]) = (if ixOf n.f3 s < 0 then none else some (rd_T28 n.f3 (ixOf n.f3 s)))
  | [], x, n, s, h => by
    rw [findP] at h
    injection h with h
    subst h
    rw [List.nil_append, findP]
    split
    · rfl
    · rw [findP]
  | t :: L, x, n, s, h => by
    rw [findP] at h
    rw [List.cons_append, findP]
    split at h
    · cases h
    · rename_i hh
      rw [if_neg hh]
      exact findP_step L _ n s h
theorem ixFrom_at (ks : List S28) (hr : RisesK ks) (i : Nat) (hi : i < ks.length) : ∀ (m j : Nat), i - j = m → j ≤ i → ixFrom (rd_T28 ks (i : Int)).f0 (ks.drop j) j = (i : Int)
  | 0, j, hm, hj => by
    obtain rfl : j = i := by omega
    rw [drop_rd ks j hi, ixFrom, if_pos rfl]
  | m + 1, j, hm, hj => by
    have hlt : j < i := by omega
    rw [drop_rd ks j (by omega), ixFrom, if_neg (rises_ne hr hlt hi)]
    exact ixFrom_at ks hr i hi m (j + 1) (by omega) (by omega)
theorem ixOf_at {ks : List S28} (hr : RisesK ks) {i : Nat} (hi : i < ks.length) : ixOf ks (rd_T28 ks (i : Int)).f0 = (i : Int) := by
  have := ixFrom_at ks hr i hi i 0 rfl (Nat.zero_le _)
  rwa [List.drop_zero] at this
/-- where a node of a tree stands: all that found needs -/
structure Spot (x n : S28) (p : ByteArray) (L : List ByteArray) : Prop where
  path : PathOK p L
  names : ∀ s ∈ L, nameB s = true
  len : p.size ≤ 33 * L.length
  find : findP x L = some n
  good : goodN L.length n
theorem Spot.own {x n : S28} {p : ByteArray} {L : List ByteArray} (h : Spot x n p L) : L.length ≤ 6 ∧ n.f3.length ≤ 32 ∧ RisesK n.f3 ∧ goodL (L.length + 1) n.f3 := by
  have hg := h.good
  obtain ⟨a, b, c, ks⟩ := n
  simp only [goodN] at hg
  obtain ⟨g1, _, g3, g4⟩ := own_good hg.1
  exact ⟨g1, g3, g4, hg.2⟩
theorem Spot.split {x n : S28} {p : ByteArray} {L : List ByteArray} (h : Spot x n p L) : node_Split.f p = some (L, 0) ∧ atR x L 0 = (n, 0) := by
  obtain ⟨g1, _⟩ := h.own
  have := h.len
  refine ⟨path_split h.path h.names g1 (by omega), ?_⟩
  unfold atR
  rw [if_pos rfl, h.find]
theorem join_size (p s : ByteArray) : (joinP p s).size ≤ p.size + 1 + s.size := by
  unfold joinP
  split
  · omega
  · rw [ByteArray.size_append, ByteArray.size_append]
    have : (⟨#[47]⟩ : ByteArray).size = 1 := rfl
    omega
theorem Spot.kid {x n : S28} {p : ByteArray} {L : List ByteArray} (h : Spot x n p L) {i : Nat} (hi : i < n.f3.length) : Spot x (rd_T28 n.f3 (i : Int)) (joinP p (rd_T28 n.f3 (i : Int)).f0) (L ++ [(rd_T28 n.f3 (i : Int)).f0]) := by
  obtain ⟨g1, g2, g3, g4⟩ := h.own
  have hk : goodN (L.length + 1) (rd_T28 n.f3 (i : Int)) := by rw [rd_mem n.f3 i hi]; exact goodL_mem _ _ _ g4 (List.getElem_mem hi)
  have hn : nameB (rd_T28 n.f3 (i : Int)).f0 = true := by
    have hk' := hk
    generalize rd_T28 n.f3 (i : Int) = kx at *
    obtain ⟨a, b, c, ks⟩ := kx
    simp only [goodN] at hk'
    exact (own_good hk'.1).2.1 (by omega)
  refine ⟨path_step h.path hn, fun s hs => ?_, ?_, ?_, by rw [List.length_append, List.length_singleton]; exact hk⟩
  · rcases List.mem_append.mp hs with hs | hs
    · exact h.names s hs
    · rw [List.mem_singleton.mp hs]; exact hn
  · have h1 := join_size p (rd_T28 n.f3 (i : Int)).f0
    have h2 := (name_no hn).2.2
    have h3 := h.len
    rw [List.length_append, List.length_singleton]
    omega
  · rw [findP_step L x n _ h.find, ixOf_at g3 hi, if_neg (by omega)]
end Go.Proofs.YthpgbhpnlnpfnaaDoor.Law
