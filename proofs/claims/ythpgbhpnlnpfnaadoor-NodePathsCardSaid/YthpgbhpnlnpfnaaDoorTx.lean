/- A tree's text, plain: what it is, and that it is alike just for the same trees; a copy, a count. -/
import Derived.Test.YthpgbhpnlnpfnaaDoorTb
import Derived.Lib.Replace
import Derived.Test.YthpgbhpnlnpfnaaDoorEx9
namespace Go.Proofs.YthpgbhpnlnpfnaaDoor.Law
open Go.RowKit Go.Proofs.YthpgbhpnlnpfnaaDoor Go.Proofs.YthpgbhpnlnpfnaaDoorW.PrintWords Go.Proofs.YthpgbhpnlnpfnaaDoorW.PrintLast Go.Proofs.YthpgbhpnlnpfnaaDoorW.PrintMore Go.Proofs.YthpgbhpnlnpfnaaDoor.E
set_option linter.unusedSimpArgs false
set_option linter.unusedVariables false
/-! digits -/
def dgF : Nat → Nat → List Int
  | 0, _ => []
  | m + 1, n => if n = 0 then [] else dgF m (n / 256) ++ [((n % 256 : Nat) : Int)]
theorem dgF_len : ∀ m n, (dgF m n).length ≤ m
  | 0, n => Nat.le_refl _
  | m + 1, n => by
    unfold dgF; split
    · exact Nat.zero_le _
    · have := dgF_len m (n / 256); simp; omega
theorem dgF_bd : ∀ m n, ∀ d ∈ dgF m n, 0 ≤ d ∧ d < 256
  | 0, n, d, h => by cases h
  | m + 1, n, d, h => by
    unfold dgF at h; split at h
    · cases h
    · rcases List.mem_append.mp h with h | h
      · exact dgF_bd m (n / 256) d h
      · rw [List.mem_singleton.mp h]; omega
def dval (l : List Int) : Int := l.foldl (fun a d => a * 256 + d) 0
theorem dgF_val : ∀ m n, n < 256 ^ m → dval (dgF m n) = (n : Int)
  | 0, n, h => by simp at h; subst h; rfl
  | m + 1, n, h => by
    unfold dgF; split
    · rename_i h0; subst h0; rfl
    · have hq : n / 256 < 256 ^ m := by rw [Nat.pow_succ] at h; omega
      have ih := dgF_val m (n / 256) hq
      unfold dval at ih ⊢
      rw [List.foldl_append, ih]
      simp only [List.foldl_cons, List.foldl_nil]
      omega
theorem digits_f : ∀ (m n k : Nat), n < 256 ^ m → m < k → m ≤ 7 → hypogeumref17_digits.f k (n : Int) = some (dgF m n)
  | 0, n, 0, _, hk, _ => by omega
  | m + 1, n, 0, _, hk, _ => by omega
  | 0, n, k + 1, h, hk, _ => by
    simp at h; subst h
    rw [hypogeumref17_digits.f, if_pos (by omega)]; rfl
  | m + 1, n, k + 1, h, hk, hm => by
    rw [hypogeumref17_digits.f]
    by_cases h0 : n = 0
    · subst h0; rw [if_pos (by omega)]; simp [dgF]
    · have hq : n / 256 < 256 ^ m := by rw [Nat.pow_succ] at h; omega
      have hb : n < 72057594037927936 := by
        have h2 : 256 ^ (m + 1) ≤ 256 ^ 7 := Nat.pow_le_pow_right (by omega) hm
        have h3 : (256 : Nat) ^ 7 = 72057594037927936 := by decide
        omega
      have e1 : Int.tdiv (n : Int) 256 = ((n / 256 : Nat) : Int) := by rw [Int.tdiv_eq_ediv_of_nonneg (by omega)]; omega
      have e2 : Int.tmod (n : Int) 256 % 256 = ((n % 256 : Nat) : Int) := by rw [Int.tmod_eq_emod_of_nonneg (by omega)]; omega
      rw [if_neg (by omega), e1, e2, n64 (by omega) (by omega), digits_f m (n / 256) k hq (by omega) (by omega)]
      simp only [Option.bind_some]
      have := dgF_len m (n / 256)
      rw [if_pos (by omega)]
      conv => rhs; unfold dgF
      rw [if_neg h0]
def numI (n : Nat) : List Int := ((dgF 7 n).length : Int) :: dgF 7 n
theorem numI_len (n : Nat) : (numI n).length ≤ 8 := by have := dgF_len 7 n; unfold numI; simp; omega
def M53 : Nat := 9007199254740992
theorem number_f (b : List Int) (n k : Nat) (hb : b.length + 8 < 140737488355328) (hn : n ≤ 9007199254740992) (hk : 9 ≤ k) : hypogeumref17_Number.f k b (n : Int) = some (b ++ numI n) := by
  have e : mn (mx (n : Int) 0) 9007199254740992 = (n : Int) := by unfold mn mx; split <;> split <;> omega
  have hl := dgF_len 7 n
  have h7 : n < 256 ^ 7 := by
    have h3 : (256 : Nat) ^ 7 = 72057594037927936 := by decide
    omega
  unfold hypogeumref17_Number.f
  rw [e, digits_f 7 n k h7 (by omega) (by omega)]
  simp only [Option.bind_some, List.nil_append, List.length_nil, Nat.zero_add]
  rw [if_pos (by omega), if_pos (by omega), if_pos (by simp; omega)]
  have e3 : ((dgF 7 n).length : Int) % 256 = ((dgF 7 n).length : Int) := by omega
  rw [e3, List.append_assoc]; rfl
theorem text_f (b s : List Int) (k : Nat) (hb : b.length + s.length + 8 < 140737488355328) (hs : s.length ≤ 9007199254740992) (hk : 9 ≤ k) : hypogeumref17_Text.f k b s = some (b ++ numI s.length ++ s) := by
  have := numI_len s.length
  unfold hypogeumref17_Text.f
  rw [number_f b s.length k (by omega) hs hk, Option.bind_some, if_pos (by simp; omega)]
abbrev u8 (n : Int) : UInt8 := UInt8.ofNat n.toNat
theorem u8_inj {a b : Int} (ha : 0 ≤ a ∧ a < 256) (hb : 0 ≤ b ∧ b < 256) (h : u8 a = u8 b) : a = b := by
  have e := congrArg UInt8.toNat h
  unfold u8 at e
  rw [UInt8.toNat_ofNat_of_lt' (by simp [UInt8.size]; omega), UInt8.toNat_ofNat_of_lt' (by simp [UInt8.size]; omega)] at e
  omega
theorem map_inj : ∀ (x y : List Int), (∀ d ∈ x, 0 ≤ d ∧ d < 256) → (∀ d ∈ y, 0 ≤ d ∧ d < 256) → x.map u8 = y.map u8 → x = y
  | [], [], _, _, _ => rfl
  | [], _ :: _, _, _, h => by simp at h
  | _ :: _, [], _, _, h => by simp at h
  | a :: x, b :: y, hx, hy, h => by
    simp only [List.map_cons, List.cons.injEq] at h
    rw [u8_inj (hx a (List.mem_cons_self ..)) (hy b (List.mem_cons_self ..)) h.1, map_inj x y (fun d hd => hx d (List.mem_cons_of_mem _ hd)) (fun d hd => hy d (List.mem_cons_of_mem _ hd)) h.2]
theorem num_parse {a b : Nat} {R R' : List UInt8} (ha : a < 256 ^ 7) (hb : b < 256 ^ 7) (h : (numI a).map u8 ++ R = (numI b).map u8 ++ R') : a = b ∧ R = R' := by
  have la := dgF_len 7 a; have lb := dgF_len 7 b
  unfold numI at h
  simp only [List.map_cons, List.cons_append, List.cons.injEq] at h
  obtain ⟨h1, h2⟩ := h
  have hl : (dgF 7 a).length = (dgF 7 b).length := by have := u8_inj (by omega) (by omega) h1; omega
  obtain ⟨h3, h4⟩ := List.append_inj h2 (by simp [hl])
  have h5 := map_inj _ _ (dgF_bd 7 a) (dgF_bd 7 b) h3
  have h6 := dgF_val 7 a ha
  rw [h5, dgF_val 7 b hb] at h6
  exact ⟨by omega, h4⟩
def kdN (dir : Bool) : Nat := if dir = true then 1 else 0
def hdr (nm : ByteArray) (dir : Bool) (by_ : List Int) (n : Nat) : List Int := numI nm.size ++ bytesOf nm ++ numI (kdN dir) ++ numI by_.length ++ by_ ++ numI n
mutual
def encN : S28 → List UInt8
  | ⟨nm, dir, by_, ks⟩ => (hdr nm dir by_ ks.length).map u8 ++ encL ks
def encL : List S28 → List UInt8
  | [] => []
  | x :: xs => encN x ++ encL xs
end
mutual
def sameN : S28 → S28 → Bool
  | ⟨a, b, c, ks⟩, ⟨a', b', c', ks'⟩ => decide (a.toList = a'.toList) && (b == b') && decide ((strOfNums c).toList = (strOfNums c').toList) && sameL ks ks'
def sameL : List S28 → List S28 → Bool
  | [], [] => true
  | x :: xs, y :: ys => sameN x y && sameL xs ys
  | [], _ :: _ => false
  | _ :: _, [] => false
end
theorem sameL_len : ∀ xs ys, sameL xs ys = true → xs.length = ys.length
  | [], [], _ => rfl
  | [], _ :: _, h => by simp [sameL] at h
  | _ :: _, [], h => by simp [sameL] at h
  | x :: xs, y :: ys, h => by
    simp only [sameL, Bool.and_eq_true] at h
    simp [sameL_len xs ys h.2]
theorem same_list {a b : ByteArray} : a.toList = b.toList ↔ a = b := ⟨fun h => by
  rw [Lib.toList_data, Lib.toList_data] at h
  exact ba_ext h, fun h => by rw [h]⟩
theorem strOf_iff (c c' : List Int) : (strOfNums c).toList = (strOfNums c').toList ↔ c.map u8 = c'.map u8 := by
  rw [Lib.toList_data, Lib.toList_data, strOfNums_data, strOfNums_data]
theorem bytesOf_map (s : ByteArray) : (bytesOf s).map u8 = s.data.toList := by
  unfold bytesOf
  rw [List.map_map]
  conv => rhs; rw [← List.map_id s.data.toList]
  refine List.map_congr_left fun b _ => ?_
  show UInt8.ofNat ((b.toNat : Int)).toNat = b
  rw [Int.toNat_natCast]
  exact UInt8.ofNat_toNat
theorem pow7 : (256 : Nat) ^ 7 = 72057594037927936 := by decide
set_option maxHeartbeats 1000000 in
/-- a text tells its tree, and where it ends -/
theorem enc_parse : ∀ (n : Nat), (∀ (x y : S28) (u v : List UInt8), wtN x ≤ n → wtN x ≤ 140737488355328 → wtN y ≤ 140737488355328 → encN x ++ u = encN y ++ v → sameN x y = true ∧ u = v) ∧
    (∀ (xs ys : List S28) (u v : List UInt8), wtL xs ≤ n → wtL xs ≤ 140737488355328 → wtL ys ≤ 140737488355328 → xs.length = ys.length → encL xs ++ u = encL ys ++ v → sameL xs ys = true ∧ u = v)
  | 0 => ⟨fun x y u v h _ _ _ => by have := wtN_pos x; omega, fun xs ys u v h _ _ hl he => by
      have := wtL_len xs
      have h0 : xs.length = 0 := by omega
      obtain rfl := List.eq_nil_of_length_eq_zero h0
      obtain rfl : ys = [] := List.eq_nil_of_length_eq_zero (by omega)
      simpa [encL, sameL] using he⟩
  | n + 1 => by
    obtain ⟨ihN, ihL⟩ := enc_parse n
    have hN : ∀ (x y : S28) (u v : List UInt8), wtN x ≤ n + 1 → wtN x ≤ 140737488355328 → wtN y ≤ 140737488355328 → encN x ++ u = encN y ++ v → sameN x y = true ∧ u = v := by
      rintro ⟨a, b, c, ks⟩ ⟨a', b', c', ks'⟩ u v hn hx hy he
      simp only [wtN] at hn hx hy
      have l1 := wtL_len ks
      have l2 := wtL_len ks'
      have p7 := pow7
      simp only [encN, hdr, List.map_append, List.append_assoc] at he
      obtain ⟨e1, he⟩ := num_parse (by omega) (by omega) he
      rw [bytesOf_map, bytesOf_map] at he
      obtain ⟨e2, he⟩ := List.append_inj he (by rw [← Lib.size_eq, ← Lib.size_eq]; exact e1)
      obtain ⟨e3, he⟩ := num_parse (by unfold kdN; split <;> omega) (by unfold kdN; split <;> omega) he
      obtain ⟨e4, he⟩ := num_parse (by omega) (by omega) he
      obtain ⟨e5, he⟩ := List.append_inj he (by simp [e4])
      obtain ⟨e6, he⟩ := num_parse (by omega) (by omega) he
      obtain ⟨e7, he⟩ := ihL ks ks' u v (by omega) (by omega) (by omega) e6 he
      refine ⟨?_, he⟩
      have h1 : a.toList = a'.toList := by rw [Lib.toList_data, Lib.toList_data]; exact e2
      have h2 : b = b' := by cases b <;> cases b' <;> simp [kdN] at e3 <;> rfl
      have h3 := (strOf_iff c c').2 e5
      simp [sameN, h1, h2, h3, e7]
    refine ⟨hN, ?_⟩
    intro xs ys u v hn hx hy hl he
    match xs, ys, hl with
    | [], [], _ => simpa [encL, sameL] using he
    | x :: xs, y :: ys, hl =>
      simp only [wtL] at hn hx hy
      have px := wtN_pos x
      simp only [encL, List.append_assoc] at he
      obtain ⟨s1, he⟩ := hN x y _ _ (by omega) (by omega) (by omega) he
      obtain ⟨s2, he⟩ := ihL xs ys u v (by omega) (by omega) (by omega) (by simpa using hl) he
      exact ⟨by simp [sameL, s1, s2], he⟩
theorem same_enc : ∀ (n : Nat), (∀ (x y : S28), wtN x ≤ n → sameN x y = true → encN x = encN y) ∧ (∀ (xs ys : List S28), wtL xs ≤ n → sameL xs ys = true → encL xs = encL ys)
  | 0 => ⟨fun x y h _ => by have := wtN_pos x; omega, fun xs ys h hs => by
      have := wtL_len xs
      have h0 : xs.length = 0 := by omega
      have h1 := sameL_len xs ys hs
      obtain rfl := List.eq_nil_of_length_eq_zero h0
      obtain rfl : ys = [] := List.eq_nil_of_length_eq_zero (by omega)
      rfl⟩
  | n + 1 => by
    obtain ⟨ihN, ihL⟩ := same_enc n
    have hN : ∀ (x y : S28), wtN x ≤ n + 1 → sameN x y = true → encN x = encN y := by
      rintro ⟨a, b, c, ks⟩ ⟨a', b', c', ks'⟩ hn hs
      simp only [wtN] at hn
      simp only [sameN, Bool.and_eq_true, decide_eq_true_eq, beq_iff_eq] at hs
      obtain ⟨⟨⟨h1, h2⟩, h3⟩, h4⟩ := hs
      obtain rfl := same_list.1 h1
      subst h2
      have h5 := (strOf_iff c c').1 h3
      have h6 : c.length = c'.length := by have := congrArg List.length h5; simpa using this
      have h7 := sameL_len _ _ h4
      have h8 := ihL ks ks' (by omega) h4
      simp only [encN, hdr, List.map_append, h5, h6, h7, h8]
    refine ⟨hN, ?_⟩
    intro xs ys hn hs
    match xs, ys with
    | [], [] => rfl
    | [], _ :: _ => simp [sameL] at hs
    | _ :: _, [] => simp [sameL] at hs
    | x :: xs, y :: ys =>
      simp only [wtL] at hn
      have px := wtN_pos x
      simp only [sameL, Bool.and_eq_true] at hs
      simp only [encL]
      rw [hN x y (by omega) hs.1, ihL xs ys (by omega) hs.2]
theorem enc_iff {x y : S28} (hx : wtN x ≤ 140737488355328) (hy : wtN y ≤ 140737488355328) : encN x = encN y ↔ sameN x y = true :=
  ⟨fun h => ((enc_parse _).1 x y [] [] (Nat.le_refl _) hx hy (by rw [h])).1, fun h => (same_enc _).1 x y (Nat.le_refl _) h⟩
theorem same_refl : ∀ (n : Nat), (∀ (x : S28), wtN x ≤ n → sameN x x = true) ∧ (∀ (xs : List S28), wtL xs ≤ n → sameL xs xs = true)
  | 0 => ⟨fun x h => by have := wtN_pos x; omega, fun xs h => by
      have := wtL_len xs
      obtain rfl := List.eq_nil_of_length_eq_zero (show xs.length = 0 by omega)
      rfl⟩
  | n + 1 => by
    obtain ⟨ihN, ihL⟩ := same_refl n
    have hN : ∀ (x : S28), wtN x ≤ n + 1 → sameN x x = true := by
      rintro ⟨a, b, c, ks⟩ hn
      simp only [wtN] at hn
      simp [sameN, ihL ks (by omega)]
    refine ⟨hN, ?_⟩
    intro xs hn
    match xs with
    | [] => rfl
    | x :: xs =>
      simp only [wtL] at hn
      have px := wtN_pos x
      simp [sameL, hN x (by omega), ihL xs (by omega)]
end Go.Proofs.YthpgbhpnlnpfnaaDoor.Law
