/- What Get tells of bytes; Get of what Put wrote. Plain. -/
import Derived.Test.YthpgbhpnlnpfnaaDoorQA
import Derived.Test.YthpgbhpnlnpfnaaDoorQ7
import Derived.Test.YthpgbhpnlnpfnaaDoorQ9

namespace Go.Proofs.YthpgbhpnlnpfnaaDoor.Law
open Go.RowKit Go.Proofs.YthpgbhpnlnpfnaaDoor Go.Proofs.YthpgbhpnlnpfnaaDoorW.PrintWords Go.Proofs.YthpgbhpnlnpfnaaDoor.E
set_option linter.unusedVariables false
/-- a piece; pieces, as far as they go; an entry; entries; a folder -/
def pcG (l : List Int) : Pc × List Int × Int :=
  let f := fixP l 0 32
  let m := numP (l.drop f.2.1) f.2.2 1 4096
  (⟨ids f.1, m.1⟩, (l.drop f.2.1).drop m.2.1, m.2.2)
def pcsG : Nat → List Int → List Pc × List Int × Int
  | 0, l => ([], l, 0)
  | n + 1, l => if (pcG l).2.2 ≠ 0 then ([], (pcG l).2.1, (pcG l).2.2) else ((pcG l).1 :: (pcsG n (pcG l).2.1).1, (pcsG n (pcG l).2.1).2)
def enG (l : List Int) : En × List Int × Int :=
  let t := textP l 0 32
  let l1 := l.drop t.2.1
  let m := numP l1 t.2.2 0 1
  let l2 := l1.drop m.2.1
  if m.1 = 1 then (⟨strOfNums t.1, true, ids (fixP l2 m.2.2 32).1, []⟩, l2.drop (fixP l2 m.2.2 32).2.1, (fixP l2 m.2.2 32).2.2)
  else
    let c := numP l2 m.2.2 0 256
    if c.2.2 ≠ 0 then (⟨strOfNums t.1, false, zeros32, []⟩, l2.drop c.2.1, c.2.2)
    else (⟨strOfNums t.1, false, zeros32, (pcsG c.1.toNat (l2.drop c.2.1)).1⟩, (pcsG c.1.toNat (l2.drop c.2.1)).2)
def ensG : Nat → List Int → List En × List Int × Int
  | 0, l => ([], l, 0)
  | n + 1, l => if (enG l).2.2 ≠ 0 then ([], (enG l).2.1, (enG l).2.2) else ((enG l).1 :: (ensG n (enG l).2.1).1, (ensG n (enG l).2.1).2)
def getP (l : List Int) : List En × Int :=
  let c := numP l 0 0 32
  if c.2.2 ≠ 0 then ([], c.2.2)
  else
    let r := ensG c.1.toNat (l.drop c.2.1)
    if r.2.2 ≠ 0 then ([], r.2.2) else if endP r.2.1 0 ≠ 0 then ([], endP r.2.1 0) else if risingP r.1 ≠ 0 then ([], 5) else (r.1, 0)
theorem numB_app (l : List Int) (n : Int) : numB l n = l ++ numB [] n := by unfold numB; rfl
theorem textB_app (l s : List Int) : textB l s = l ++ textB [] s := by unfold textB; rw [numB_app l, List.append_assoc]
theorem pcsB_app : ∀ (ps : List Pc) (b : List Int), pcsB b ps = b ++ pcsB [] ps
  | [], b => by simp [pcsB]
  | p :: ps, b => by
    show pcsB (pcB b p) ps = b ++ pcsB (pcB [] p) ps
    rw [pcsB_app ps (pcB b p), pcsB_app ps (pcB [] p), ← List.append_assoc]
    congr 1
    unfold pcB
    rw [numB_app (b ++ p.id), numB_app ([] ++ p.id), List.nil_append, List.append_assoc]
theorem pcsB_cons (p : Pc) (ps : List Pc) : pcsB [] (p :: ps) = p.id ++ numB [] p.n ++ pcsB [] ps := by
  show pcsB (pcB [] p) ps = _
  rw [pcsB_app]
  unfold pcB
  rw [numB_app, List.nil_append]
theorem entB_app (b : List Int) (x : En) : entB b x = b ++ entB [] x := by
  cases hd : x.dir with
  | true => rw [entB_dir hd, entB_dir hd, textB_app, numB_app, numB_app (textB [] _)]; simp [List.append_assoc]
  | false =>
    rw [entB_file hd, entB_file hd, pcsB_app, pcsB_app x.ps (numB (numB (textB [] _) 0) _), textB_app, numB_app, numB_app (b ++ textB [] _), numB_app (numB (textB [] _) 0), numB_app (textB [] _)]
    simp [List.append_assoc]
theorem entsB_app : ∀ (xs : List En) (b : List Int), xs.foldl entB b = b ++ xs.foldl entB []
  | [], b => by simp
  | x :: xs, b => by
    rw [List.foldl_cons, List.foldl_cons, entsB_app xs (entB b x), entsB_app xs (entB [] x), entB_app b x, List.append_assoc]
theorem num_put2 (n a b : Int) (r : List Int) (h1 : a ≤ (clamp n : Int)) (h2 : (clamp n : Int) ≤ b) : numP (numB [] n ++ r) 0 a b = ((clamp n : Int), 1 + (dg (clamp n)).length, 0) := by
  have hc := clamp_le n
  have e : numB [] n ++ r = ((dg (clamp n)).length : Int) :: dg (clamp n) ++ r := rfl
  unfold numP
  rw [if_neg (by decide), e, nx_put _ hc, if_neg (by simp), if_neg (by dsimp only; omega)]
  dsimp only
  rw [show (1 + ((dg (clamp n)).length : Int)).toNat = 1 + (dg (clamp n)).length by omega]
theorem text_put2 (s r : List Int) (most : Int) (h : s.length ≤ 9007199254740992) (hm : (s.length : Int) ≤ most) : ∃ k, textP (textB [] s ++ r) 0 most = (s, k, 0) ∧ (textB [] s ++ r).drop k = r := by
  have e : textB [] s ++ r = numB [] (s.length : Int) ++ (s ++ r) := by unfold textB; rw [List.append_assoc]
  have hc := clamp_len h
  unfold textP
  rw [e, num_put, drop_put, hc]
  dsimp only
  rw [if_neg (by simp), if_neg (by omega), if_neg (by rw [List.length_append]; omega)]
  unfold fixP
  rcases Nat.eq_zero_or_pos s.length with h0 | hp
  · obtain rfl : s = [] := List.eq_nil_of_length_eq_zero h0
    rw [if_pos (.inr (by decide))]
    refine ⟨_, rfl, ?_⟩
    have := drop_put (([] : List Int).length : Int) ([] ++ r)
    rw [clamp_len (s := []) (by decide)] at this
    exact this
  · rw [if_neg (by omega), if_neg (by rw [List.length_append]; omega), Int.toNat_natCast, List.take_left]
    refine ⟨_, rfl, ?_⟩
    dsimp only
    rw [← List.drop_drop]
    have := drop_put (s.length : Int) (s ++ r)
    rw [hc] at this
    rw [this, List.drop_left]
theorem fix_put (m r : List Int) (h : m.length = 32) : fixP (m ++ r) 0 32 = (m, 32, 0) := by
  unfold fixP
  rw [if_neg (by decide), if_neg (by rw [List.length_append]; omega)]
  rw [show (32 : Int).toNat = m.length by omega, List.take_left, h]
theorem ids_32 {m : List Int} (h : m.length = 32) : ids m = m := by unfold ids; rw [if_pos h]
theorem drop_32 (m r : List Int) (h : m.length = 32) : (m ++ r).drop 32 = r := by rw [← h, List.drop_left]
theorem pcG_put (p : Pc) (r : List Int) (h : p.id.length = 32) (hn : okN p.n) : pcG (p.id ++ numB [] p.n ++ r) = (p, r, 0) := by
  have hc : (clamp p.n : Int) = p.n := by rw [clamp_val (by unfold okN at hn; omega) (by unfold okN at hn; omega)]; unfold okN at hn; omega
  unfold pcG
  rw [List.append_assoc, fix_put _ _ h]
  dsimp only
  rw [drop_32 _ _ h, num_put2 _ _ _ _ (by unfold okN at hn; omega) (by unfold okN at hn; omega)]
  dsimp only
  rw [drop_put, ids_32 h, hc]
theorem pcsG_put : ∀ (ps : List Pc) (r : List Int), (∀ p ∈ ps, p.id.length = 32 ∧ okN p.n) → pcsG ps.length (pcsB [] ps ++ r) = (ps, r, 0)
  | [], r, _ => rfl
  | p :: ps, r, h => by
    have h1 := pcG_put p (pcsB [] ps ++ r) (h p List.mem_cons_self).1 (h p List.mem_cons_self).2
    have h2 := pcsG_put ps r (fun q hq => h q (List.mem_cons_of_mem _ hq))
    rw [pcsB_cons, List.append_assoc, List.length_cons]
    unfold pcsG
    rw [h1]
    dsimp only
    rw [if_neg (by decide), h2]
theorem str_bytes (s : ByteArray) : strOfNums (bytesOf s) = s := by
  unfold strOfNums bytesOf
  rw [List.map_map]
  have : (s.data.toList.map ((fun n : Int => UInt8.ofNat n.toNat) ∘ fun b : UInt8 => (b.toNat : Int))) = s.data.toList := by
    conv => rhs; rw [← List.map_id s.data.toList]
    apply List.map_congr_left
    intro b _
    simp
  rw [this]
theorem enG_put (x : En) (r : List Int) (hm : mayB x = true) (ht : x.tree.length = 32) (hp : ∀ p ∈ x.ps, p.id.length = 32) : enG (entB [] x ++ r) = (x, r, 0) := by
  have hn := may_name hm
  have hl : (bytesOf x.nm).length ≤ 32 := by rw [bytesOf_len]; exact hn
  have c0 : clamp 0 = 0 := by decide
  have c1 : clamp 1 = 1 := by decide
  obtain ⟨nm, dir, tree, ps⟩ := x
  dsimp only at *
  cases dir with
  | true =>
    rw [entB_dir rfl]
    dsimp only
    rw [numB_app, List.append_assoc, List.append_assoc]
    obtain ⟨k, h1, h2⟩ := text_put2 (bytesOf nm) (numB [] 1 ++ (tree ++ r)) 32 (by omega) (by omega)
    unfold enG
    rw [h1]
    dsimp only
    rw [h2, num_put2 1 0 1 _ (by rw [c1]; decide) (by rw [c1]; decide)]
    dsimp only
    have h3 := drop_put 1 (tree ++ r)
    rw [h3, if_pos (by rw [c1]; rfl), fix_put _ _ ht]
    dsimp only
    rw [drop_32 _ _ ht, ids_32 ht, str_bytes]
    have hz : ps.length = 0 := by
      unfold mayB at hm
      rw [Bool.and_eq_true] at hm
      exact of_decide_eq_true hm.2
    rw [List.eq_nil_of_length_eq_zero hz]
  | false =>
    have hf := may_file hm rfl
    rw [entB_file rfl]
    dsimp only
    rw [pcsB_app, numB_app, numB_app (textB [] _), List.append_assoc, List.append_assoc, List.append_assoc]
    obtain ⟨k, h1, h2⟩ := text_put2 (bytesOf nm) (numB [] 0 ++ (numB [] (ps.length : Int) ++ (pcsB [] ps ++ r))) 32 (by omega) (by omega)
    unfold enG
    rw [h1]
    dsimp only
    have hcl : (clamp (ps.length : Int) : Int) = ps.length := by rw [clamp_val (by omega) (by have := hf.2.1; dsimp only at this; omega)]; omega
    rw [h2, num_put2 0 0 1 _ (by rw [c0]; decide) (by rw [c0]; decide)]
    dsimp only
    have h3 := drop_put 0 (numB [] (ps.length : Int) ++ (pcsB [] ps ++ r))
    have h4 := drop_put (ps.length : Int) (pcsB [] ps ++ r)
    rw [h3, if_neg (by rw [c0]; decide), num_put2 _ 0 256 _ (by omega) (by rw [hcl]; have := hf.2.1; dsimp only at this; omega)]
    dsimp only
    rw [if_neg (by decide), h4, hcl, Int.toNat_natCast, pcsG_put ps r (fun p hq => ⟨hp p hq, hf.2.2.1 p hq⟩), str_bytes]
    dsimp only
    have hz : tree = zeros32 := hf.1
    rw [hz]
theorem ensG_put : ∀ (xs : List En) (r : List Int), (∀ x ∈ xs, mayB x = true ∧ x.tree.length = 32 ∧ ∀ p ∈ x.ps, p.id.length = 32) → ensG xs.length (xs.foldl entB [] ++ r) = (xs, r, 0)
  | [], r, _ => rfl
  | x :: xs, r, h => by
    obtain ⟨a, b, c⟩ := h x List.mem_cons_self
    have h1 := enG_put x (xs.foldl entB [] ++ r) a b c
    have h2 := ensG_put xs r (fun y hy => h y (List.mem_cons_of_mem _ hy))
    rw [List.foldl_cons, entsB_app, List.append_assoc, List.length_cons]
    unfold ensG
    rw [h1]
    dsimp only
    rw [if_neg (by decide), h2]
/-- Get of what Put wrote -/
theorem get_put {xs : List En} (hp : (putP xs).2 = 0) (hx : ∀ x ∈ xs, x.tree.length = 32 ∧ ∀ p ∈ x.ps, p.id.length = 32) : getP (putP xs).1 = (xs, 0) := by
  have h32 : ¬ 32 < xs.length := fun h => by unfold putP at hp; rw [if_pos h] at hp; exact absurd hp (by decide)
  have hr : risingP xs = 0 := by
    unfold putP at hp
    rw [if_neg h32] at hp
    by_cases c : risingP xs = 0
    · exact c
    · rw [if_pos c] at hp; exact absurd hp c
  have hm := rising_all hr
  have e : (putP xs).1 = numB [] (xs.length : Int) ++ (xs.foldl entB [] ++ []) := by
    unfold putP
    rw [if_neg h32, if_neg (by omega)]
    unfold putB
    rw [entsB_app, List.append_nil]
  have hcl : (clamp (xs.length : Int) : Int) = xs.length := by rw [clamp_val (by omega) (by omega)]; omega
  have h4 := drop_put (xs.length : Int) (xs.foldl entB [] ++ [])
  unfold getP
  rw [e, num_put2 _ 0 32 _ (by omega) (by omega)]
  dsimp only
  rw [if_neg (by decide), h4, hcl, Int.toNat_natCast, ensG_put xs [] (fun x h => ⟨hm x h, hx x h⟩)]
  dsimp only
  rw [if_neg (by decide), if_neg (by decide), if_neg (by omega)]
end Go.Proofs.YthpgbhpnlnpfnaaDoor.Law

namespace Go.Proofs.YthpgbhpnlnpfnaaDoor.Law
open Go.RowKit Go.Proofs.YthpgbhpnlnpfnaaDoor Go.Proofs.YthpgbhpnlnpfnaaDoorW.PrintWords Go.Proofs.YthpgbhpnlnpfnaaDoor.E
set_option linter.unusedVariables false
theorem num_bd {l : List Int} {er a b : Int} (h : (numP l er a b).2.2 = 0) : a ≤ (numP l er a b).1 ∧ (numP l er a b).1 ≤ b := by
  obtain rfl := num_er h
  revert h; unfold numP
  rw [if_neg (by omega)]
  split
  · intro h; rename_i h1; exact absurd h h1
  · split
    · intro h; exact absurd h (by decide)
    · intro _; dsimp only; omega
/-- a number that was read: the bytes are its form and what is left -/
theorem num_split {l : List Int} {er a b : Int} (hb : Bytes l) (h : (numP l er a b).2.2 = 0) : l = numB [] (numP l er a b).1 ++ l.drop (numP l er a b).2.1 := by
  obtain rfl := num_er h
  have := (num_form hb h).2.2.2
  rw [this, List.take_append_drop]
theorem text_split {l : List Int} {most : Int} (hb : Bytes l) (h : (textP l 0 most).2.2 = 0) : l = textB [] (textP l 0 most).1 ++ l.drop (textP l 0 most).2.1 := by
  have := (text_form hb h).2.1
  rw [this, List.take_append_drop]
theorem fix_split {l : List Int} {er : Int} (h : (fixP l er 32).2.2 = 0) : er = 0 ∧ (fixP l er 32).1.length = 32 ∧ l = (fixP l er 32).1 ++ l.drop (fixP l er 32).2.1 := by
  revert h; unfold fixP
  split
  · intro h; rename_i h1; dsimp only at h; rcases h1 with h1 | h1
    · exact absurd h h1
    · exact absurd h1 (by decide)
  · rename_i h1
    split
    · intro h; exact absurd h (by decide)
    · rename_i h2
      intro _
      refine ⟨by omega, ?_, (List.take_append_drop _ _).symm⟩
      dsimp only
      rw [List.length_take]
      have : (32 : Int).toNat = 32 := rfl
      rw [this]; omega
theorem bytes_right {a b : List Int} (h : Bytes (a ++ b)) : Bytes b := fun x hx => h x (List.mem_append_right _ hx)
theorem bytes_left {a b : List Int} (h : Bytes (a ++ b)) : Bytes a := fun x hx => h x (List.mem_append_left _ hx)
theorem bytes_str {l : List Int} (h : Bytes l) : bytesOf (strOfNums l) = l := by
  unfold bytesOf strOfNums
  simp only [List.map_map]
  conv => rhs; rw [← List.map_id l]
  apply List.map_congr_left
  intro x hx
  obtain ⟨h0, h1⟩ := h x hx
  show ((UInt8.ofNat x.toNat).toNat : Int) = x
  have h2 : x.toNat < 256 := by omega
  rw [UInt8.toNat_ofNat_of_lt' h2]
  omega
theorem pcG_form {l : List Int} (hb : Bytes l) (h : (pcG l).2.2 = 0) : l = (pcG l).1.id ++ numB [] (pcG l).1.n ++ (pcG l).2.1 := by
  unfold pcG at h ⊢
  dsimp only at h ⊢
  have h1 := num_er h
  obtain ⟨_, h2, h3⟩ := fix_split h1
  have hb2 : Bytes (l.drop (fixP l 0 32).2.1) := bytes_drop hb _
  have h4 := num_split hb2 h
  rw [ids_32 h2, List.append_assoc, ← h4, ← h3]
theorem pcsG_form : ∀ (n : Nat) (l : List Int), Bytes l → (pcsG n l).2.2 = 0 → (pcsG n l).1.length = n ∧ l = pcsB [] (pcsG n l).1 ++ (pcsG n l).2.1
  | 0, l, hb, h => ⟨rfl, rfl⟩
  | n + 1, l, hb, h => by
    unfold pcsG at h ⊢
    by_cases he : (pcG l).2.2 ≠ 0
    · rw [if_pos he] at h; exact absurd h he
    · rw [if_neg he] at h ⊢
      have h1 := pcG_form hb (by omega)
      have hb2 : Bytes (pcG l).2.1 := by rw [h1] at hb; exact bytes_right hb
      obtain ⟨h2, h3⟩ := pcsG_form n _ hb2 h
      dsimp only
      refine ⟨by rw [List.length_cons, h2], ?_⟩
      rw [pcsB_cons, List.append_assoc, ← h3, ← h1]
theorem enG_form {l : List Int} (hb : Bytes l) (h : (enG l).2.2 = 0) : l = entB [] (enG l).1 ++ (enG l).2.1 := by
  have key : ∀ (q : En × List Int × Int), enG l = q → q.2.2 = 0 → l = entB [] q.1 ++ q.2.1 := by
    intro q hq h
    unfold enG at hq
    dsimp only at hq
    generalize ht : textP l 0 32 = t at hq
    generalize hm : numP (l.drop t.2.1) t.2.2 0 1 = m at hq
    have base : m.2.2 = 0 → Bytes t.1 ∧ l = textB [] t.1 ++ (numB [] m.1 ++ (l.drop t.2.1).drop m.2.1) ∧ 0 ≤ m.1 ∧ m.1 ≤ 1 ∧ Bytes ((l.drop t.2.1).drop m.2.1) := by
      intro h0
      have e1 : t.2.2 = 0 := num_er (by rw [hm]; exact h0)
      have s1 := text_split (most := 32) hb (by rw [ht]; exact e1)
      rw [ht] at s1
      have s2 := num_split (er := t.2.2) (a := 0) (b := 1) (bytes_drop hb t.2.1) (by rw [hm]; exact h0)
      rw [hm] at s2
      have s3 := num_bd (l := l.drop t.2.1) (er := t.2.2) (a := 0) (b := 1) (by rw [hm]; exact h0)
      rw [hm] at s3
      have hbt : Bytes (textB [] t.1) := by rw [s1] at hb; exact bytes_left hb
      exact ⟨by unfold textB at hbt; exact bytes_right hbt, by rw [← s2]; exact s1, s3.1, s3.2, bytes_drop (bytes_drop hb _) _⟩
    by_cases h1 : m.1 = 1
    · rw [if_pos h1] at hq
      subst hq
      dsimp only at h ⊢
      obtain ⟨e0, e1, e2⟩ := fix_split h
      obtain ⟨b1, b2, _⟩ := base e0
      rw [entB_dir rfl]
      dsimp only
      rw [bytes_str b1, ids_32 e1, numB_app, List.append_assoc, List.append_assoc, ← e2, ← h1]
      exact b2
    · rw [if_neg h1] at hq
      generalize hc : numP ((l.drop t.2.1).drop m.2.1) m.2.2 0 256 = c at hq
      by_cases h2 : c.2.2 ≠ 0
      · rw [if_pos h2] at hq
        subst hq
        exact absurd h h2
      · rw [if_neg h2] at hq
        subst hq
        dsimp only at h ⊢
        have e0 : m.2.2 = 0 := num_er (by rw [hc]; omega)
        obtain ⟨b1, b2, b3, b4, b5⟩ := base e0
        have hm0 : m.1 = 0 := by omega
        have s1 := num_split (er := m.2.2) (a := 0) (b := 256) b5 (by rw [hc]; omega)
        rw [hc] at s1
        have s2 := num_bd (l := (l.drop t.2.1).drop m.2.1) (er := m.2.2) (a := 0) (b := 256) (by rw [hc]; omega)
        rw [hc] at s2
        obtain ⟨p1, p2⟩ := pcsG_form c.1.toNat _ (bytes_drop b5 c.2.1) h
        rw [entB_file rfl]
        dsimp only
        rw [bytes_str b1, pcsB_app, numB_app, numB_app (textB [] t.1), p1, Int.toNat_of_nonneg s2.1, List.append_assoc, List.append_assoc, List.append_assoc, ← p2, ← s1, ← hm0]
        exact b2
  exact key _ rfl h
theorem ensG_form : ∀ (n : Nat) (l : List Int), Bytes l → (ensG n l).2.2 = 0 → (ensG n l).1.length = n ∧ l = (ensG n l).1.foldl entB [] ++ (ensG n l).2.1
  | 0, l, hb, h => ⟨rfl, rfl⟩
  | n + 1, l, hb, h => by
    unfold ensG at h ⊢
    by_cases he : (enG l).2.2 ≠ 0
    · rw [if_pos he] at h; exact absurd h he
    · rw [if_neg he] at h ⊢
      have h1 := enG_form hb (by omega)
      have hb2 : Bytes (enG l).2.1 := by rw [h1] at hb; exact bytes_right hb
      obtain ⟨h2, h3⟩ := ensG_form n _ hb2 h
      dsimp only
      refine ⟨by rw [List.length_cons, h2], ?_⟩
      rw [List.foldl_cons, entsB_app, List.append_assoc, ← h3, ← h1]
/-- Put of what Get read -/
theorem put_get {l : List Int} (hb : Bytes l) (h : (getP l).2 = 0) : putP (getP l).1 = (l, 0) := by
  unfold getP at h ⊢
  dsimp only at h ⊢
  by_cases h1 : (numP l 0 0 32).2.2 ≠ 0
  · rw [if_pos h1] at h; exact absurd h h1
  · rw [if_neg h1] at h ⊢
    have s1 := num_split hb (show (numP l 0 0 32).2.2 = 0 by omega)
    have s2 := num_bd (show (numP l 0 0 32).2.2 = 0 by omega)
    generalize numP l 0 0 32 = c at *
    by_cases h2 : (ensG c.1.toNat (l.drop c.2.1)).2.2 ≠ 0
    · rw [if_pos h2] at h; exact absurd h h2
    · rw [if_neg h2] at h ⊢
      obtain ⟨p1, p2⟩ := ensG_form c.1.toNat _ (bytes_drop hb c.2.1) (by omega)
      generalize ensG c.1.toNat (l.drop c.2.1) = r at *
      by_cases h3 : endP r.2.1 0 ≠ 0
      · rw [if_pos h3] at h; exact absurd h h3
      · rw [if_neg h3] at h ⊢
        by_cases h4 : risingP r.1 ≠ 0
        · rw [if_pos h4] at h; exact absurd h (by decide)
        · rw [if_neg h4]
          have e : r.2.1 = [] := by
            unfold endP at h3
            rw [if_pos rfl] at h3
            by_cases h5 : (r.2.1.length : Int) > 0
            · rw [if_pos h5] at h3; exact absurd (by decide) h3
            · exact List.eq_nil_of_length_eq_zero (by omega)
          rw [e, List.append_nil] at p2
          dsimp only
          unfold putP
          rw [if_neg (by rw [p1]; omega), if_neg h4]
          unfold putB
          rw [entsB_app, p1, Int.toNat_of_nonneg s2.1, ← p2, ← s1]
end Go.Proofs.YthpgbhpnlnpfnaaDoor.Law

namespace Go.Proofs.YthpgbhpnlnpfnaaDoor.Law
open Go.RowKit Go.Proofs.YthpgbhpnlnpfnaaDoor Go.Proofs.YthpgbhpnlnpfnaaDoorW.PrintWords Go.Proofs.YthpgbhpnlnpfnaaDoor.E
set_option linter.unusedVariables false
theorem setRow_at {g t off : Nat} (vs : List Value) : ∀ (i : Nat) (w : World) (C : List Value), w.heap[g]? = some (.cells C.toArray t (0, 0)) → off + i + vs.length ≤ C.length →
    (setRow w g off vs i).heap[g]? = some (.cells (C.take (off + i) ++ vs ++ C.drop (off + i + vs.length)).toArray t (0, 0)) := by
  induction vs with
  | nil => intro i w C h _; simpa [setRow] using h
  | cons v vs ih =>
    intro i w C h hle
    have h1 : (w.setCell ⟨g, off + i, none⟩ v).heap[g]? = some (.cells (C.set (off + i) v).toArray t (0, 0)) := blk_put h (off + i) v (by simp)
    have h2 := ih (i + 1) _ _ h1 (by rw [List.length_set]; rw [List.length_cons] at hle; omega)
    show (setRow (w.setCell ⟨g, off + i, none⟩ v) g off vs (i + 1)).heap[g]? = _
    rw [h2, List.length_cons]
    rw [List.length_cons] at hle
    have e0 : off + (i + 1) = off + i + 1 := by omega
    have e1 : (C.set (off + i) v).take (off + (i + 1)) = C.take (off + i) ++ [v] := by
      rw [e0, List.take_succ_eq_append_getElem (by rw [List.length_set]; omega), List.getElem_set_self, List.take_set_of_le (Nat.le_refl _)]
    have e2 : (C.set (off + i) v).drop (off + (i + 1) + vs.length) = C.drop (off + i + (vs.length + 1)) := by
      rw [List.drop_set_of_lt (by omega)]; congr 1; omega
    rw [e1, e2, List.append_assoc, List.append_assoc, List.append_assoc]; rfl
section
variable {P : Program} {ops : Array Oper} {rest : List Oper} {o : Oper} {a : Act} {w : World} {Q : Exit → Act → World → Prop}
/-- a store, of a cell or of a row, into a block that is told as a list -/
theorem wpList_store_blk (hgd : o.guard = none) (ty : TypeId) (x y : Operand) (ho : o.op = .store ty x y) (g off : Nat) (hx : a.eval x = .pointer (some ⟨g, off, none⟩)) (v : Value) (vs : List Value)
    (hy : a.eval y = v) (hv : v.cells = vs.toArray) (hi : (P.info? ty).map (·.size) = some vs.length) (h1 : ∀ v ∈ vs, v.oneCell' = true) (C : List Value) (t : TypeId) (hb : w.heap[g]? = some (.cells C.toArray t (0, 0))) (hle : off + vs.length ≤ C.length)
    (h : ∀ w1 : World, w1.heap[g]? = some (.cells (C.take off ++ vs ++ C.drop (off + vs.length)).toArray t (0, 0)) → Only g w w1 → wpList P ops Q rest (a.put o.dst undef) w1) : wpList P ops Q (o :: rest) a w := by
  refine wpList_plain hgd fun K hK => ?_
  have hs : (storeVar ty ⟨g, off, none⟩ v).run P w = .ok () (setRow w g off vs 0) := by
    cases hq : P.info? ty with
    | none => simp [hq] at hi
    | some i =>
      have hsz : i.size = vs.length := by simpa [hq] using hi
      have hr := run_storeCells_row (P := P) g off vs 0 w h1 (fun j hj => ⟨C[off + (0 + j)]'(by omega), by rw [blk_cell hb, List.getElem?_toArray, List.getElem?_eq_getElem]⟩) (fun j => blk_frozen hb j)
      simp [storeVar, sizeOf, typeInfo, hq, hsz, hv, hr]
  unfold Oper.wp execOp
  simp only [ho, hx, hy, Instr.storeAt, Instr.sureAddr, Sem.run_bind, Sem.run_pure, Result.andThen_ok, hs]
  exact hK _ _ (h _ (setRow_at vs 0 w C hb (by omega)) (Only.setRow vs 0 w (Only.refl g w)))
end
theorem enV_put_tree (x : En) (A : Option Addr) (c : Nat) (m : List Int) (hx : x.tree.length = 32) (hm : m.length = 32) : (enV x A c).take 2 ++ u8s m ++ (enV x A c).drop (2 + (u8s m).length) = enV { x with tree := m } A c := by
  unfold enV
  have e : (u8s x.tree ++ [Value.slice A x.ps.length c]).drop 32 = [.slice A x.ps.length c] := by
    rw [List.drop_append_of_le_length (by rw [u8s_len, hx]; exact Nat.le_refl _), List.drop_of_length_le (by rw [u8s_len, hx]; exact Nat.le_refl _)]; rfl
  rw [u8s_len, hm, show 2 + 32 = 32 + 1 + 1 by rfl, List.drop_succ_cons, List.drop_succ_cons, e]; rfl
theorem enV_put_ps (x : En) (A A' : Option Addr) (c c' : Nat) (ps : List Pc) (hx : x.tree.length = 32) : (enV x A c).take 34 ++ [.slice A' ps.length c'] ++ (enV x A c).drop (34 + [Value.slice A' ps.length c'].length) = enV { x with ps := ps } A' c' := by
  have hl := enV_len x A c hx
  rw [List.drop_of_length_le (by rw [hl]; exact Nat.le_refl _), List.append_nil]
  unfold enV
  rw [show 34 = 32 + 1 + 1 by rfl, List.take_succ_cons, List.take_succ_cons, List.take_append_of_le_length (by rw [u8s_len, hx]; exact Nat.le_refl _), List.take_of_length_le (by rw [u8s_len, hx]; exact Nat.le_refl _)]
  rfl
theorem pcV_put_id (p : Pc) (m : List Int) (hp : p.id.length = 32) (hm : m.length = 32) : (pcV p).take 0 ++ u8s m ++ (pcV p).drop (0 + (u8s m).length) = pcV { p with id := m } := by
  unfold pcV
  rw [u8s_len, hm, Nat.zero_add, List.drop_append_of_le_length (by rw [u8s_len, hp]; exact Nat.le_refl _), List.drop_of_length_le (by rw [u8s_len, hp]; exact Nat.le_refl _)]; rfl
theorem pcV_put_n (p : Pc) (n : Int) (hp : p.id.length = 32) : (pcV p).take 32 ++ [.int .i64 n] ++ (pcV p).drop (32 + [Value.int .i64 n].length) = pcV { p with n := n } := by
  have hl := pcV_len hp
  rw [List.drop_of_length_le (by rw [hl]; exact Nat.le_refl _), List.append_nil]
  unfold pcV
  rw [List.take_append_of_le_length (by rw [u8s_len, hp]; exact Nat.le_refl _), List.take_of_length_le (by rw [u8s_len, hp]; exact Nat.le_refl _)]
end Go.Proofs.YthpgbhpnlnpfnaaDoor.Law

namespace Go.Proofs.YthpgbhpnlnpfnaaDoor.Law
open Go.RowKit Go.Proofs.YthpgbhpnlnpfnaaDoor Go.Proofs.YthpgbhpnlnpfnaaDoorW.PrintWords Go.Proofs.YthpgbhpnlnpfnaaDoor.E
set_option linter.unusedVariables false
/-- Scan's two cells -/
abbrev scV (A : Option Addr) (n c : Nat) (e : Int) : List Value := [.slice A n c, .int .i64 e]
/-- w0: where the bytes lie; w: at the call; wr: now. Blocks: Scan, the result entry, the result Scan, the entry. -/
structure Ent (w0 w wr : World) (l : List Int) (e : Int) (S : Option Addr) (cs : Nat) (x : En) (A : Option Addr) (c : Nat) : Prop where
  k1 : wr.heap[w.heap.size]? = some (.cells (scV S l.length cs e).toArray 82 (0, 0))
  k2 : wr.heap[w.heap.size + 1]? = some (.cells (enV zEn none 0).toArray 75 (0, 0))
  k3 : wr.heap[w.heap.size + 2]? = some (.cells (scV none 0 0 0).toArray 82 (0, 0))
  k4 : wr.heap[w.heap.size + 3]? = some (.cells (enV x A c).toArray 75 (0, 0))
  sc : Scn w0 (.agg (scV S l.length cs e).toArray) l e
  tl : x.tree.length = 32
  b0 : Below w0.heap.size w0 w
  bl : Below w.heap.size w wr
theorem Ent.below {w0 w wr w' : World} {l : List Int} {e : Int} {S : Option Addr} {cs : Nat} {x : En} {A : Option Addr} {c : Nat} (h : Ent w0 w wr l e S cs x A c) (hb : Below wr.heap.size wr w') : Ent w0 w w' l e S cs x A c :=
  ⟨blk_below h.k1 hb, blk_below h.k2 hb, blk_below h.k3 hb, blk_below h.k4 hb, h.sc, h.tl, h.b0, below_step h.bl hb⟩
/-- Scan's variable anew -/
theorem Ent.scan {w0 w wr w' : World} {l l' : List Int} {e e' : Int} {S S' : Option Addr} {cs cs' : Nat} {x : En} {A : Option Addr} {c : Nat} (h : Ent w0 w wr l e S cs x A c) (ho : Only w.heap.size wr w')
    (hk : w'.heap[w.heap.size]? = some (.cells (scV S' l'.length cs' e').toArray 82 (0, 0))) (hs : Scn w0 (.agg (scV S' l'.length cs' e').toArray) l' e') : Ent w0 w w' l' e' S' cs' x A c :=
  ⟨hk, (ho.block _ (by omega)).trans h.k2, (ho.block _ (by omega)).trans h.k3, (ho.block _ (by omega)).trans h.k4, hs, h.tl, h.b0, h.bl.trans (ho.below (Nat.le_refl _))⟩
/-- the entry anew -/
theorem Ent.entry {w0 w wr w' : World} {l : List Int} {e : Int} {S : Option Addr} {cs : Nat} {x x' : En} {A A' : Option Addr} {c c' : Nat} (h : Ent w0 w wr l e S cs x A c) (ho : Only (w.heap.size + 3) wr w')
    (hk : w'.heap[w.heap.size + 3]? = some (.cells (enV x' A' c').toArray 75 (0, 0))) (ht : x'.tree.length = 32) : Ent w0 w w' l e S cs x' A' c' :=
  ⟨(ho.block _ (by omega)).trans h.k1, (ho.block _ (by omega)).trans h.k2, (ho.block _ (by omega)).trans h.k3, hk, h.sc, ht, h.b0, h.bl.trans (ho.below (by omega))⟩
theorem Ent.size {w0 w wr : World} {l : List Int} {e : Int} {S : Option Addr} {cs : Nat} {x : En} {A : Option Addr} {c : Nat} (h : Ent w0 w wr l e S cs x A c) : w.heap.size + 4 ≤ wr.heap.size := by
  have := blk_lt h.k4; omega
theorem Ent.new {w0 w : World} {l : List Int} {e : Int} {S : Option Addr} {cs : Nat} (hs : Scn w0 (.agg (scV S l.length cs e).toArray) l e) (hb : Below w0.heap.size w0 w) :
    Ent w0 w ((((w.alloc (.cells (scV S l.length cs e).toArray 82)).alloc (.cells (enV zEn none 0).toArray 75)).alloc (.cells (scV none 0 0 0).toArray 82)).alloc (.cells (enV zEn none 0).toArray 75)) l e S cs zEn none 0 := by
  have hn : ∀ (u : World) (o : Obj), Below u.heap.size u (u.alloc o) := fun u o => below_alloc (Below.refl _ _) o
  refine ⟨?_, ?_, ?_, ?_, hs, rfl, hb, ?_⟩
  · exact blk_below (blk_below (blk_below (heap_alloc_new w _) (hn _ _)) (hn _ _)) (hn _ _)
  · have := blk_below (blk_below (heap_alloc_new (w.alloc (.cells (scV S l.length cs e).toArray 82)) (.cells (enV zEn none 0).toArray 75)) (hn _ (.cells (scV none 0 0 0).toArray 82))) (hn _ (.cells (enV zEn none 0).toArray 75))
    rwa [World.size_alloc] at this
  · have := blk_below (heap_alloc_new ((w.alloc (.cells (scV S l.length cs e).toArray 82)).alloc (.cells (enV zEn none 0).toArray 75)) (.cells (scV none 0 0 0).toArray 82)) (hn _ (.cells (enV zEn none 0).toArray 75))
    rwa [World.size_alloc, World.size_alloc] at this
  · have := heap_alloc_new (((w.alloc (.cells (scV S l.length cs e).toArray 82)).alloc (.cells (enV zEn none 0).toArray 75)).alloc (.cells (scV none 0 0 0).toArray 82)) (.cells (enV zEn none 0).toArray 75)
    rwa [World.size_alloc, World.size_alloc, World.size_alloc] at this
  · exact below_alloc (below_alloc (below_alloc (hn _ _) _) _) _
/-- Scan's variable told -/
theorem Scn.open {w : World} {v : Value} {l : List Int} {e : Int} (h : Scn w v l e) : ∃ S cs, v = .agg (scV S l.length cs e).toArray := by
  obtain ⟨S, cs, rfl, _⟩ := h; exact ⟨S, cs, rfl⟩
section
variable {ops : Array Oper} {rest : List Oper} {o : Oper} {a : Act} {w : World} {Q : Exit → Act → World → Prop}
theorem info82 : (Tryd.prog.info? 82).map (·.size) = some 2 := by kernel_rfl
/-- Scan's variable read; written -/
theorem load_scan {w0 w wr : World} {l : List Int} {e : Int} {S : Option Addr} {cs : Nat} {x : En} {A : Option Addr} {c : Nat} (h : Ent w0 w wr l e S cs x A c) (hgd : o.guard = none) (y : Operand) (ho : o.op = .load 82 y) (hx : a.eval y = .pointer (some ⟨w.heap.size, 0, none⟩))
    (hk : wpList Tryd.prog ops Q rest (a.put o.dst (.agg (scV S l.length cs e).toArray)) wr) : wpList Tryd.prog ops Q (o :: rest) a wr :=
  wpList_load_part hgd 82 y ho w.heap.size 0 hx (scV S l.length cs e) _ (fun j v hv => by rw [Nat.zero_add, blk_cell h.k1, List.getElem?_toArray, hv]) Tryd.underlying82 rfl (by exact info82) hk
/-- a field of the entry written -/
theorem store_fld {w0 w wr : World} {l : List Int} {e : Int} {S : Option Addr} {cs : Nat} {x : En} {A : Option Addr} {c : Nat} (h : Ent w0 w wr l e S cs x A c) (x' : En) (A' : Option Addr) (c' : Nat) (hgd : o.guard = none) (ty : TypeId) (y z : Operand) (ho : o.op = .store ty y z) (off : Nat) (hx : a.eval y = .pointer (some ⟨w.heap.size + 3, off, none⟩))
    (v : Value) (vs : List Value) (hz : a.eval z = v) (hv : v.cells = vs.toArray) (hi : (Tryd.prog.info? ty).map (·.size) = some vs.length) (h1 : ∀ v ∈ vs, v.oneCell' = true) (hle : off + vs.length ≤ 35) (hp : (enV x A c).take off ++ vs ++ (enV x A c).drop (off + vs.length) = enV x' A' c') (ht : x'.tree.length = 32)
    (hk : ∀ w1 : World, Ent w0 w w1 l e S cs x' A' c' → Only (w.heap.size + 3) wr w1 → wpList Tryd.prog ops Q rest (a.put o.dst undef) w1) : wpList Tryd.prog ops Q (o :: rest) a wr :=
  wpList_store_blk hgd ty y z ho (w.heap.size + 3) off hx v vs hz hv hi h1 _ 75 h.k4 (by rw [enV_len _ _ _ h.tl]; exact hle)
    (fun w1 hw ho => hk w1 (h.entry ho (by rw [← hp]; exact hw) ht) ho)
theorem Ent.cell {w0 w wr : World} {l : List Int} {e : Int} {S : Option Addr} {cs : Nat} {x : En} {A : Option Addr} {c : Nat} (h : Ent w0 w wr l e S cs x A c) {j : Nat} {v : Value} (hv : (enV x A c)[j]? = some v) : wr.cell? ⟨w.heap.size + 3, j, none⟩ = some v := by
  rw [blk_cell h.k4 j, List.getElem?_toArray, hv]
end
end Go.Proofs.YthpgbhpnlnpfnaaDoor.Law

namespace Go.Proofs.YthpgbhpnlnpfnaaDoor.Law
open Go.RowKit Go.Proofs.YthpgbhpnlnpfnaaDoor Go.Proofs.YthpgbhpnlnpfnaaDoorW.PrintWords Go.Proofs.YthpgbhpnlnpfnaaDoorW.PrintLast Go.Proofs.YthpgbhpnlnpfnaaDoorW.PrintMore Go.Proofs.YthpgbhpnlnpfnaaDoor.E
set_option linter.unusedVariables false
/-- a row that lies above the local blocks stays under stores into one of these -/
theorem R_only {α : Type} {d : Kd α} {e base g : Nat} {w w' : World} {v : Value} {xs : List α} (h : d.R e w base (fun _ => True) v xs) (ho : Only g w w') (hg : g < base) : d.R e w' base (fun _ => True) v xs :=
  Kd.R_mono (Kd.R_step (Kd.R_bound h) (fun k hk _ => ho.block k (by have := hk.2.1; omega))) (fun _ _ => trivial)
theorem Ent.drew {w0 w wr : World} {l : List Int} {e : Int} {S : Option Addr} {cs : Nat} {x : En} {A : Option Addr} {c : Nat} (h : Ent w0 w wr l e S cs x A c) : Ent w0 w wr.drew l e S cs x A c :=
  ⟨h.k1, h.k2, h.k3, h.k4, h.sc, h.tl, h.b0, h.bl.drew⟩
/-- the result entry is written -/
theorem Ent.out1 {w0 w wr : World} {l : List Int} {e : Int} {S : Option Addr} {cs : Nat} {x : En} {A : Option Addr} {c : Nat} (h : Ent w0 w wr l e S cs x A c) :
    (setRow wr (w.heap.size + 1) 0 (enV x A c) 0).heap[w.heap.size + 1]? = some (.cells (enV x A c).toArray 75 (0, 0)) := by
  have h1 := setRow_heap (enV x A c) 0 wr (enV zEn none 0) h.k2 (by rw [enV_len _ _ _ h.tl]; exact Nat.le_refl _)
  rw [h1, List.take_zero, List.nil_append, Nat.zero_add, List.drop_eq_nil_of_le (by rw [enV_len _ _ _ h.tl]; exact Nat.le_refl _), List.append_nil]
/-- the two results are written: W -/
structure Out (w wr wz : World) (l : List Int) (e : Int) (S : Option Addr) (cs : Nat) (x : En) (A : Option Addr) (c : Nat) : Prop where
  r1 : (loadVar 75 ⟨w.heap.size + 1, 0, none⟩).run Tryd.prog wz = .ok (.agg (enV x A c).toArray) wz
  r2 : (loadVar 82 ⟨w.heap.size + 1 + 1, 0, none⟩).run Tryd.prog wz = .ok (.agg (scV S l.length cs e).toArray) wz
  bl : Below w.heap.size w wz
  kp : ∀ (v : Value) (ps : List Pc), kPc.R 78 wr (w.heap.size + 4) (fun _ => True) v ps → kPc.R 78 wz (w.heap.size + 4) (fun _ => True) v ps
theorem Ent.out {w0 w wr w1 wz : World} {l : List Int} {e : Int} {S : Option Addr} {cs : Nat} {x : En} {A : Option Addr} {c : Nat} (h : Ent w0 w wr l e S cs x A c)
    (h1 : setRow wr.drew (w.heap.size + 1) 0 (enV x A c) 0 = w1) (hz : (w1.setCell ⟨w.heap.size + 1 + 1, 0, none⟩ (.slice S l.length cs)).setCell ⟨w.heap.size + 1 + 1, 1, none⟩ (.int .i64 e) = wz) : Out w wr wz l e S cs x A c := by
  subst h1 hz
  have hd := h.drew
  have k2 := hd.out1
  have o1 := Only.setRow (g := w.heap.size + 1) (off := 0) (enV x A c) 0 _ (Only.refl (w.heap.size + 1) wr.drew)
  have o2 := ((Only.refl (w.heap.size + 1 + 1) (setRow wr.drew (w.heap.size + 1) 0 (enV x A c) 0)).set 0 (.slice S l.length cs)).set 1 (.int .i64 e)
  refine ⟨run_loadVar_row _ _ 75 75 _ (0, 0) _ ((o2.block _ (by omega)).trans k2) Tryd.underlying75 rfl ?_, run_loadVar_row _ _ 82 82 _ (0, 0) _ (blk_put (blk_put ((o1.block _ (by omega)).trans hd.k3) 0 _ rfl) 1 _ rfl) Tryd.underlying82 rfl info82, ?_, ?_⟩
  · have := info26
    rw [List.size_toArray, enV_len _ _ _ h.tl]; exact this
  · exact (hd.bl.trans (o1.below (by omega))).trans (o2.below (by omega))
  · intro v ps hr
    have a0 : w.heap.size + 1 < w.heap.size + 4 := by omega
    have a1 : w.heap.size + 1 + 1 < w.heap.size + 4 := by omega
    have h0 : kPc.R 78 wr.drew (w.heap.size + 4) (fun _ => True) v ps := Kd.R_step hr (fun _ _ _ => rfl)
    exact R_only (R_only h0 o1 a0) o2 a1
/-- an entry's own rows -/
theorem kEn_M {w : World} {base : Nat} {ok : Nat → Prop} {x : En} {A : Option Addr} {c : Nat} (ht : x.tree.length = 32) (hr : kPc.R 78 w base ok (.slice A x.ps.length c) x.ps) : kEn.M w base ok x (enV x A c) :=
  ⟨[.string x.nm], .bool x.dir :: (u8s x.tree ++ [.slice A x.ps.length c]), rfl, rfl, [.bool x.dir], _, rfl, rfl, u8s x.tree, _, rfl, ⟨rfl, ht⟩, _, rfl, hr⟩
/-- what entry answers -/
def EntOut (w0 w : World) (l : List Int) (e : Ending) (w' : World) : Prop :=
  ∃ (x : En) (A : Option Addr) (c : Nat) (v' : Value), e = .returned (.tuple #[.agg (enV x A c).toArray, v']) ∧ x.tree.length = 32 ∧ Scn w0 v' (enG l).2.1 (enG l).2.2 ∧ Below w.heap.size w w' ∧ ((enG l).2.2 = 0 → x = (enG l).1 ∧ kEn.M w' w.heap.size (fun _ => True) x (enV x A c))
theorem EntOut.mk {w0 w wr wz : World} {l l' : List Int} {e : Int} {S : Option Addr} {cs : Nat} {x : En} {A : Option Addr} {c : Nat} (h : Ent w0 w wr l' e S cs x A c) (ho : Out w wr wz l' e S cs x A c) (hg : (enG l).2 = (l', e)) (hx : e = 0 → (enG l).1 = x ∧ kPc.R 78 wr (w.heap.size + 4) (fun _ => True) (.slice A x.ps.length c) x.ps) :
    EntOut w0 w l (.returned (.tuple #[.agg (enV x A c).toArray, .agg (scV S l'.length cs e).toArray])) wz := by
  refine ⟨x, A, c, _, rfl, h.tl, ?_, ho.bl, ?_⟩
  · rw [hg]; exact h.sc
  · rw [hg]
    intro h0
    exact ⟨(hx h0).1.symm, kEn_M h.tl (Kd.R_lower (ho.kp _ _ (hx h0).2) (Nat.le_add_right _ 4))⟩
end Go.Proofs.YthpgbhpnlnpfnaaDoor.Law
