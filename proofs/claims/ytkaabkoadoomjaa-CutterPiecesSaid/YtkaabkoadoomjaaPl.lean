/- The plain law: the lengths that a Cutter tells are the document's. -/
import Derived.Test.YtkaabkoadoomjaaAw
namespace Go.Proofs.Ytkaabkoadoomjaa.Law
open Go.RowKit Go.Proofs.Ytkaabkoadoomjaa Go.Proofs.Ytkaabkoadoomjaa.D Go.Proofs.Ytkaabkoadoomjaa.Roll Go.Proofs.YtkaabkoadoomjaaW.PrintWords Go.Proofs.YtkaabkoadoomjaaW.PrintLast Go.Proofs.YtkaabkoadoomjaaW.PrintMore
set_option linter.unusedSimpArgs false
set_option linter.unusedVariables false
theorem and_half {x k : Nat} : (x &&& k = k) ↔ (k % 2 = 1 → x % 2 = 1) ∧ (x / 2 &&& k / 2 = k / 2) := by
  constructor
  · intro h
    refine ⟨fun hk => ?_, ?_⟩
    · have := congrArg (fun n => n.testBit 0) h
      simp only [Nat.testBit_and, Nat.testBit_zero] at this
      by_cases hx : x % 2 = 1
      · exact hx
      · simp [hx, hk] at this
    · rw [← Nat.and_div_two, h]
  · rintro ⟨h1, h2⟩
    apply Nat.eq_of_testBit_eq
    intro i
    cases i with
    | zero =>
      simp only [Nat.testBit_and, Nat.testBit_zero]
      by_cases hk : k % 2 = 1
      · simp [hk, h1 hk]
      · simp [hk]
    | succ i =>
      have := congrArg (fun n => n.testBit i) h2
      simp only [Nat.testBit_and] at this
      rw [Nat.testBit_and, Nat.testBit_succ, Nat.testBit_succ]
      exact this
theorem ev_all : ∀ (k x : Nat), U x → U k → Ev (fun n => hypogeumref14_all.l0 n (x : Int) (k : Int)) (decide (x &&& k = k)) := fun k => by
  induction k using Nat.strongRecOn with
  | ind k ih =>
    intro x hx hk
    by_cases h0 : k = 0
    · subst h0
      refine Ev.step (f := fun _ => some true) (fun n => ?_) (by rw [Nat.and_zero, decide_eq_true rfl]; exact Ev.now _)
      unfold hypogeumref14_all.l0
      rw [if_neg (by decide)]
    · have hu : U (x / 2) := u_le hx (Nat.div_le_self _ _)
      have hu2 : U (k / 2) := u_le hk (Nat.div_le_self _ _)
      have ih' := ih (k / 2) (by omega) (x / 2) hu hu2
      have ex : IntKind.u64.wrap (Int.tdiv (x : Int) 2) = ((x / 2 : Nat) : Int) := by
        rw [show Int.tdiv (x : Int) 2 = ((x / 2 : Nat) : Int) from rfl, wrapU]
        have : (x / 2 : Nat) < 18446744073709551616 := hu
        omega
      have ek : IntKind.u64.wrap (Int.tdiv (k : Int) 2) = ((k / 2 : Nat) : Int) := by
        rw [show Int.tdiv (k : Int) 2 = ((k / 2 : Nat) : Int) from rfl, wrapU]
        have : (k / 2 : Nat) < 18446744073709551616 := hu2
        omega
      have e1 : Int.tmod (k : Int) 2 = ((k % 2 : Nat) : Int) := rfl
      have e2 : Int.tmod (x : Int) 2 = ((x % 2 : Nat) : Int) := rfl
      by_cases h1 : k % 2 = 1 ∧ x % 2 = 0
      · have hf : decide (x &&& k = k) = false := decide_eq_false (fun h => by have := (and_half.mp h).1 h1.1; omega)
        rw [hf]
        refine Ev.step (f := fun _ => some false) (fun n => ?_) (Ev.now _)
        unfold hypogeumref14_all.l0
        rw [if_pos (by omega), e1, e2, if_pos (by omega), if_pos (by omega)]
      · have hd : decide (x &&& k = k) = decide (x / 2 &&& k / 2 = k / 2) := by
          rw [decide_eq_decide, and_half]
          exact ⟨fun h => h.2, fun h => ⟨fun hk1 => by omega, h⟩⟩
        rw [hd]
        refine Ev.step (fun n => ?_) ih'
        rw [hypogeumref14_all.l0, if_pos (by omega), e1, e2, ex, ek]
        by_cases h2 : k % 2 = 1
        · rw [if_pos (by omega), if_neg (by omega)]
        · rw [if_neg (by omega)]
/-- where the first chunk ends, from a place on -/
def firstN (m k : Nat) (mn mx : Int) (b : List Int) : Nat → Nat → Nat
  | 0, _ => b.length
  | j + 1, n => if n < b.length then (if ends m k mn mx (b.take n) then n else firstN m k mn mx b j (n + 1)) else b.length
theorem firstN_le (m k : Nat) (mn mx : Int) (b : List Int) : ∀ j n, n ≤ b.length → n ≤ firstN m k mn mx b j n ∧ firstN m k mn mx b j n ≤ b.length
  | 0, n, h => ⟨h, Nat.le_refl _⟩
  | j + 1, n, h => by
    unfold firstN
    by_cases h1 : n < b.length
    · rw [if_pos h1]
      split
      · exact ⟨Nat.le_refl _, h⟩
      · have := firstN_le m k mn mx b j (n + 1) h1
        exact ⟨by omega, this.2⟩
    · rw [if_neg h1]; exact ⟨h, Nat.le_refl _⟩
theorem bytes_take {l : List Int} (h : Bytes l) (n : Nat) : Bytes (l.take n) := fun x hx => h x (List.mem_of_mem_take hx)
theorem bytes_drop {l : List Int} (h : Bytes l) (n : Nat) : Bytes (l.drop n) := fun x hx => h x (List.mem_of_mem_drop hx)
theorem ev_first {m k : Nat} {mn mx : Int} (ok : OkC m mn mx) (hk : U k) (b : List Int) (hb : Bytes b) (hl : b.length ≤ 1000000000000000) : ∀ (j n : Nat), 1 ≤ n → b.length ≤ j + n →
    Ev (fun r => hypogeumref14_First.l0 r b (n : Int) (m : Int) (k : Int) mn mx) (firstN m k mn mx b j n : Int)
  | j, n, h1, h2 => by
    by_cases hn : n < b.length
    · obtain ⟨j, rfl⟩ : ∃ i, j = i + 1 := ⟨j - 1, by omega⟩
      have hlen : (b.take n).length = n := by rw [List.length_take]; omega
      have hw : wrap64 ((n : Int) + 1) = ((n + 1 : Nat) : Int) := w64 (by omega) (by omega)
      have ih := ev_first ok hk b hb hl j (n + 1) (by omega) (by omega)
      unfold firstN
      rw [if_pos hn]
      have he : ends m k mn mx (b.take n) = (decide ((n : Int) = mx) || (decide (mn ≤ (n : Int)) && decide (fp m ((nat (b.take n)).drop ((b.take n).length - 16)) &&& k = k))) := by
        unfold ends endsAt
        rw [fp_pushed, nat_len, hlen]
      by_cases hx : (n : Int) = mx
      · rw [he, decide_eq_true hx, Bool.true_or, if_pos rfl]
        refine Ev.step (f := fun _ => some (n : Int)) (fun r => ?_) (Ev.now _)
        rw [hypogeumref14_First.l0, if_pos (by omega), if_pos hx]
      · rw [he, decide_eq_false hx, Bool.false_or]
        by_cases hm : mn ≤ (n : Int)
        · rw [decide_eq_true hm, Bool.true_and]
          have h3 := ev_rof ok.may (b.take n) (bytes_take hb n) (by rw [hlen]; omega)
          have hfu : U (fp m ((nat (b.take n)).drop ((b.take n).length - 16))) := u_rem _ ok.may.u ok.may.ne
          have h4 := ev_all k _ hfu hk
          refine Ev.step (fun r => ?_) (Ev.bind (f := fun r t => (hypogeumref14_all.f r t (k : Int)).bind fun t152 => (if t152 = true then (some (n : Int)) else (hypogeumref14_First.l0 r b (wrap64 ((n : Int) + 1)) (m : Int) (k : Int) mn mx))) h3 (Ev.bind (f := fun r t152 => (if t152 = true then (some (n : Int)) else (hypogeumref14_First.l0 r b (wrap64 ((n : Int) + 1)) (m : Int) (k : Int) mn mx))) h4 ?_))
          · rw [hypogeumref14_First.l0, if_pos (by omega), if_neg hx, if_pos hm, if_pos (by omega), if_pos (by omega), Int.toNat_natCast]
          · by_cases hd : fp m ((nat (b.take n)).drop ((b.take n).length - 16)) &&& k = k
            · rw [decide_eq_true hd, if_pos rfl]
              exact Ev.congr (fun _ => if_pos rfl) (Ev.now _)
            · rw [decide_eq_false hd, if_neg (by decide)]
              refine Ev.congr (fun r => ?_) ih
              rw [if_neg (by decide), hw]
        · rw [decide_eq_false hm, Bool.false_and, if_neg (by decide)]
          refine Ev.step (fun r => ?_) ih
          rw [hypogeumref14_First.l0, if_pos (by omega), if_neg hx, if_neg hm, hw]
    · have e : firstN m k mn mx b j n = b.length := by
        cases j with
        | zero => rfl
        | succ j => unfold firstN; rw [if_neg hn]
      rw [e]
      refine Ev.step (f := fun _ => some (b.length : Int)) (fun r => ?_) (Ev.now _)
      rw [hypogeumref14_First.l0, if_neg (by omega)]
theorem lens_first (m k : Nat) (mn mx : Int) (b : List Int) : ∀ (j n : Nat), n < b.length → b.length ≤ j + (n + 1) →
    lens m k mn mx (b.take n) (b.drop n) = (firstN m k mn mx b j (n + 1) : Int) :: lens m k mn mx [] (b.drop (firstN m k mn mx b j (n + 1)))
  | j, n, hn, hj => by
    have htk : b.take n ++ [rd b (n : Int)] = b.take (n + 1) := by
      have := grow (b := b) (fr := 0) (Nat.zero_le n) hn
      simpa using this.symm
    have hlen : (b.take n).length = n := by rw [List.length_take]; omega
    rw [drop_rd hn, lens, htk, hlen]
    by_cases he : ends m k mn mx (b.take (n + 1)) = true
    · rw [if_pos he]
      have e : firstN m k mn mx b j (n + 1) = n + 1 := by
        cases j with
        | zero => show b.length = n + 1; omega
        | succ j =>
          unfold firstN
          by_cases h : n + 1 < b.length
          · rw [if_pos h, if_pos he]
          · rw [if_neg h]; omega
      rw [e]
    · rw [if_neg he]
      by_cases h : n + 1 < b.length
      · obtain ⟨j, rfl⟩ : ∃ i, j = i + 1 := ⟨j - 1, by omega⟩
        have ih := lens_first m k mn mx b j (n + 1) h (by omega)
        rw [ih]
        have e : firstN m k mn mx b (j + 1) (n + 1) = firstN m k mn mx b j (n + 1 + 1) := by
          conv => lhs; unfold firstN
          rw [if_pos h, if_neg he]
        rw [e]
      · have e : firstN m k mn mx b j (n + 1) = n + 1 := by
          cases j with
          | zero => show b.length = n + 1; omega
          | succ j => unfold firstN; rw [if_neg h]; omega
        have hnil : b.drop (n + 1) = [] := List.drop_eq_nil_of_le (by omega)
        have hne : b.take (n + 1) ≠ [] := fun e => by have := congrArg List.length e; rw [List.length_take, List.length_nil] at this; omega
        rw [e, hnil, lens, if_neg hne, lens, if_pos rfl, List.length_take, Nat.min_eq_left (by omega)]
/-- where the first chunk ends -/
def first (m k : Nat) (mn mx : Int) (b : List Int) : Nat := firstN m k mn mx b b.length 1
theorem lens_cons (m k : Nat) (mn mx : Int) (b : List Int) (h : 0 < b.length) : lens m k mn mx [] b = (first m k mn mx b : Int) :: lens m k mn mx [] (b.drop (first m k mn mx b)) := by
  have := lens_first m k mn mx b b.length 0 h (by omega)
  rwa [List.take_zero, List.drop_zero] at this
theorem first_le (m k : Nat) (mn mx : Int) (b : List Int) (h : 0 < b.length) : 1 ≤ first m k mn mx b ∧ first m k mn mx b ≤ b.length := firstN_le m k mn mx b b.length 1 h
theorem ev_lengths {m k : Nat} {mn mx : Int} (ok : OkC m mn mx) (hk : U k) : ∀ (n : Nat) (b acc : List Int), b.length ≤ n → Bytes b → acc.length + b.length ≤ 17592186044415 → b.length ≤ 1000000000000000 →
    Ev (fun r => hypogeumref14_Lengths.l0 r b acc (m : Int) (k : Int) mn mx) (acc ++ lens m k mn mx [] b)
  | n, b, acc, hn, hb, ha, hl => by
    by_cases h0 : 0 < b.length
    · obtain ⟨n, rfl⟩ : ∃ i, n = i + 1 := ⟨n - 1, by omega⟩
      obtain ⟨f1, f2⟩ := first_le m k mn mx b h0
      have h1 := ev_first ok hk b hb hl b.length 1 (Nat.le_refl _) (by omega)
      have hd : (b.drop (first m k mn mx b)).length = b.length - first m k mn mx b := List.length_drop
      have ih := ev_lengths ok hk n (b.drop (first m k mn mx b)) (acc ++ [(first m k mn mx b : Int)]) (by omega) (bytes_drop hb _) (by rw [List.length_append, List.length_singleton, hd]; omega) (by omega)
      rw [lens_cons m k mn mx b h0]
      rw [List.append_assoc, List.singleton_append] at ih
      refine Ev.step (fun r => ?_) (Ev.bind (f := fun r t154 => (if acc.length < 17592186044416 then (if 0 ≤ t154 then (if t154 ≤ (b.length : Int) then (hypogeumref14_Lengths.l0 r (b.drop (t154 : Int).toNat) (acc ++ [t154]) (m : Int) (k : Int) mn mx) else (none)) else (none)) else (none))) h1 (Ev.congr (fun r => ?_) ih))
      · rw [hypogeumref14_Lengths.l0, if_pos (by omega)]; rfl
      · show (if acc.length < 17592186044416 then _ else _) = _
        have f3 : firstN m k mn mx b b.length 1 = first m k mn mx b := rfl
        rw [f3, if_pos (by omega), if_pos (by omega), if_pos (by omega), Int.toNat_natCast]
    · have e : b = [] := List.eq_nil_of_length_eq_zero (by omega)
      subst e
      refine Ev.step (f := fun _ => some acc) (fun r => ?_) (by rw [lens, if_pos rfl, List.append_nil]; exact Ev.now _)
      rw [hypogeumref14_Lengths.l0, if_neg (by decide)]
theorem lens_len (m k : Nat) (mn mx : Int) : ∀ (n : Nat) (b : List Int), b.length ≤ n → (lens m k mn mx [] b).length ≤ b.length
  | n, b, hn => by
    by_cases h0 : 0 < b.length
    · obtain ⟨n, rfl⟩ : ∃ i, n = i + 1 := ⟨n - 1, by omega⟩
      obtain ⟨f1, f2⟩ := first_le m k mn mx b h0
      have hd : (b.drop (first m k mn mx b)).length = b.length - first m k mn mx b := List.length_drop
      have ih := lens_len m k mn mx n (b.drop (first m k mn mx b)) (by omega)
      rw [lens_cons m k mn mx b h0, List.length_cons]
      omega
    · have e : b = [] := List.eq_nil_of_length_eq_zero (by omega)
      subst e
      rw [lens, if_pos rfl]; exact Nat.le_refl _
end Go.Proofs.Ytkaabkoadoomjaa.Law
