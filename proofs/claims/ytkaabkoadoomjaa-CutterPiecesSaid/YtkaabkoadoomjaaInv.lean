/- What a Roll holds, and what each of its functions does to it: a window of sixteen bytes and its fingerprint. -/
import Derived.Test.YtkaabkoadoomjaaFp
namespace Go.Proofs.Ytkaabkoadoomjaa.Law
open Go.RowKit Go.Proofs.Ytkaabkoadoomjaa Go.Proofs.Ytkaabkoadoomjaa.D Go.Proofs.Ytkaabkoadoomjaa.Roll Go.Proofs.YtkaabkoadoomjaaW.PrintWords Go.Proofs.YtkaabkoadoomjaaW.PrintLast Go.Proofs.YtkaabkoadoomjaaW.PrintMore
/-- block g holds a Roll by m whose window is L (the oldest byte first) -/
structure Holds (C : Nat → Value) (m : Nat) (L : List Nat) (p : Nat) : Prop where
  c0 : C 0 = .int .u64 (m : Int)
  c1 : C 1 = .int .i64 (m.log2 : Int)
  c2 : C 2 = .int .u64 (fp m L : Int)
  hp : p < 16
  cp : C 19 = .int .i64 (p : Int)
  cw : ∀ i, i < 16 → C (3 + (p + i) % 16) = .int .u8 ((L.getD i 0 : Nat) : Int)
  cg : ∀ b, b < 256 → C (20 + b) = .int .u64 ((Gf.rem (b * 2 ^ 120) m : Nat) : Int)
  len : L.length = 16
  byte : ∀ b ∈ L, b < 256
def Inv (w : World) (g m : Nat) (L : List Nat) : Prop := ∃ C p, Blk w g 276 C ∧ Holds C m L p
/-- m may be a Roll's -/
structure May (m : Nat) : Prop where
  u : U m
  lo : 9 ≤ m.log2
  hi : m.log2 ≤ 53
theorem May.ne {m : Nat} (h : May m) : m ≠ 0 := by
  intro e; have := h.lo; rw [e] at this; have : (0 : Nat).log2 = 0 := by decide
  omega
theorem Inv.only {w w' : World} {g g' m : Nat} {L : List Nat} (h : Inv w g' m L) (ho : Only g w w') (hg : g' ≠ g) : Inv w' g' m L := by
  obtain ⟨C, p, hb, hh⟩ := h; exact ⟨C, p, ho.blk hb hg, hh⟩
theorem Inv.below {w w' : World} {g m B : Nat} {L : List Nat} (h : Inv w g m L) (ho : Below B w w') (hg : g < B) : Inv w' g m L := by
  obtain ⟨C, p, hb, hh⟩ := h; exact ⟨C, p, hb.below ho hg, hh⟩
theorem Inv.drewN {w : World} {g m : Nat} {L : List Nat} (h : Inv w g m L) (n : Nat) : Inv (w.drewN n) g m L := by
  obtain ⟨C, p, hb, hh⟩ := h; exact ⟨C, p, hb.drewN n, hh⟩
theorem getD_byte {L : List Nat} (h : ∀ b ∈ L, b < 256) (i : Nat) : L.getD i 0 < 256 := by
  rw [List.getD_eq_getElem?_getD]
  cases hj : L[i]? with
  | none => simp
  | some b => exact h b (List.mem_of_getElem? hj)
theorem holds_push {C : Nat → Value} {m : Nat} {L : List Nat} {p : Nat} (h : Holds C m L p) {b : Nat} (hb : b < 256) :
    Holds (upd (upd (upd C (3 + p) (.int .u8 (b : Int))) 19 (.int .i64 (((p + 1) % 16 : Nat) : Int))) 2 (.int .u64 (fp m (L.tail ++ [b]) : Int))) m (L.tail ++ [b]) ((p + 1) % 16) := by
  have hp := h.hp
  refine ⟨?_, ?_, upd_eq _ _ _, by omega, ?_, fun i hi => ?_, fun c hc => ?_, by simp [h.len], fun x hx => ?_⟩
  · rw [upd_ne _ _ (by omega), upd_ne _ _ (by omega), upd_ne _ _ (by omega)]; exact h.c0
  · rw [upd_ne _ _ (by omega), upd_ne _ _ (by omega), upd_ne _ _ (by omega)]; exact h.c1
  · rw [upd_ne _ _ (by omega), upd_eq]
  · rw [upd_ne _ _ (by omega), upd_ne _ _ (by omega)]
    have e : ((p + 1) % 16 + i) % 16 = (p + (i + 1)) % 16 := by omega
    rw [e]
    by_cases hl : i = 15
    · subst hl
      rw [show (p + (15 + 1)) % 16 = p by omega, upd_eq]
      congr 2
      rw [List.getD_eq_getElem?_getD, List.getElem?_append_right (by simp [h.len]), List.length_tail, h.len]; rfl
    · rw [upd_ne _ _ (by omega), h.cw (i + 1) (by omega)]
      have e2 : (L.tail ++ [b]).getD i 0 = L.getD (i + 1) 0 := by
        rw [List.getD_eq_getElem?_getD, List.getD_eq_getElem?_getD, List.getElem?_append_left (by simp [h.len]; omega), List.getElem?_tail]
      rw [e2]
  · rw [upd_ne _ _ (by omega), upd_ne _ _ (by omega), upd_ne _ _ (by omega)]; exact h.cg c hc
  · rcases List.mem_append.mp hx with e | e
    · exact h.byte x (List.mem_of_mem_tail e)
    · rw [List.mem_singleton.mp e]; exact hb
theorem inv_push {w : World} {g m : Nat} {L : List Nat} (hm : May m) (h : Inv w g m L) {b : Nat} (hb : b < 256) :
    Calls Try.prog 25 #[.pointer (some ⟨g, 0, none⟩), .int .u8 (b : Int)] w fun e w' => e = .returned (.int .u64 (fp m (L.tail ++ [b]) : Int)) ∧ Inv w' g m (L.tail ++ [b]) ∧ Only g w w' := by
  obtain ⟨C, p, hB, hh⟩ := h
  have h0 := hm.ne
  have ho := getD_byte hh.byte 0
  have hw0 := hh.cw 0 (by omega)
  rw [Nat.add_zero, Nat.mod_eq_of_lt hh.hp] at hw0
  obtain ⟨o, t, hL⟩ : ∃ o t, L = o :: t := List.exists_cons_of_length_pos (by rw [hh.len]; omega)
  have ht : t.length = 15 := by have := hh.len; rw [hL] at this; simpa using this
  have hv : Go.bits .xor .u64 (shN (m : Int) (m.log2 : Int) 8 (Go.bits .xor .u64 (fp m L : Int) ((Gf.rem (L.getD 0 0 * 2 ^ 120) m : Nat) : Int))) (b : Int) = (fp m (L.tail ++ [b]) : Int) := by
    have hub : U b := by unfold U; omega
    have hlt : fp m L ^^^ Gf.rem (L.getD 0 0 * 2 ^ 120) m < 2 ^ m.log2 := Nat.xor_lt_two_pow (Gf.rem_lt _ h0) (Gf.rem_lt _ h0)
    have hfu : U (fp m L) := u_rem _ hm.u h0
    rw [xor64 hfu (u_rem _ hm.u h0), shN_rem hm.u h0 hlt, xor64 (u_rem _ hm.u h0) hub]
    congr 1
    rw [hL]
    exact fp_push h0 hm.lo o t ht b hb
  refine (push_calls g C (m : Int) (m.log2 : Int) (fp m L : Int) ((L.getD 0 0 : Nat) : Int) ((Gf.rem (L.getD 0 0 * 2 ^ 120) m : Nat) : Int) (b : Int) p w hB hh.c0 hh.c1 (by omega) (by have := hm.hi; omega)
    hh.c2 hh.cp (by have := hh.hp; omega) hw0 (by omega) (by omega) (hh.cg _ ho) (by omega) (by omega)).mono ?_
  rw [hv]
  rintro e w' ⟨he, hb', hon⟩
  exact ⟨he, ⟨_, _, hb', holds_push hh hb⟩, hon⟩
def zeroWin : List Nat := List.replicate 16 0
theorem zeroWin_getD (i : Nat) : zeroWin.getD i 0 = 0 := by
  unfold zeroWin
  rw [List.getD_eq_getElem?_getD, List.getElem?_replicate]; split <;> rfl
theorem fp_zero {m : Nat} : fp m zeroWin = 0 := by
  unfold fp zeroWin
  have := poly_zeros 16 []
  rw [List.append_nil] at this
  rw [this]; exact Gf.rem_small (Nat.two_pow_pos _)
theorem inv_reset {w : World} {g m : Nat} {L : List Nat} (h : Inv w g m L) :
    Calls Try.prog 26 #[.pointer (some ⟨g, 0, none⟩)] w fun e w' => e = .returned (.tuple #[]) ∧ Inv w' g m zeroWin ∧ Only g w w' := by
  obtain ⟨C, p, hB, hh⟩ := h
  refine (reset_calls g C w hB).mono ?_
  rintro e w' ⟨he, hb', hon⟩
  refine ⟨he, ⟨_, 0, hb', ?_⟩, hon⟩
  have hz : ∀ j, 3 ≤ j → j < 19 → updRow C 3 zeros16 0 j = .int .u8 0 := fun j h1 h2 => by
    unfold updRow zeros16
    rw [if_pos (by simp; omega), List.getD_eq_getElem?_getD, List.getElem?_replicate, if_pos (by omega)]; rfl
  have hn : ∀ j, (j < 3 ∨ 19 ≤ j) → updRow C 3 zeros16 0 j = C j := fun j h => by
    unfold updRow zeros16
    rw [if_neg (by simp; omega)]
  refine ⟨?_, ?_, ?_, by omega, upd_eq _ _ _, fun i hi => ?_, fun c hc => ?_, rfl, fun x hx => ?_⟩
  · rw [upd_ne _ _ (by omega), upd_ne _ _ (by omega), hn 0 (by omega)]; exact hh.c0
  · rw [upd_ne _ _ (by omega), upd_ne _ _ (by omega), hn 1 (by omega)]; exact hh.c1
  · rw [upd_ne _ _ (by omega), upd_eq, fp_zero]; rfl
  · rw [upd_ne _ _ (by omega), upd_ne _ _ (by omega), hz _ (by omega) (by omega), zeroWin_getD]; rfl
  · rw [upd_ne _ _ (by omega), upd_ne _ _ (by omega), hn _ (by omega)]; exact hh.cg c hc
  · rw [(List.mem_replicate.mp hx).2]; omega
theorem Holds.one {C : Nat → Value} {m : Nat} {L : List Nat} {p : Nat} (h : Holds C m L p) (i : Nat) (hi : i < 276) : (C i).oneCell' = true := by
  by_cases h0 : i = 0
  · rw [h0, h.c0]; rfl
  · by_cases h1 : i = 1
    · rw [h1, h.c1]; rfl
    · by_cases h2 : i = 2
      · rw [h2, h.c2]; rfl
      · by_cases h3 : i = 19
        · rw [h3, h.cp]; rfl
        · by_cases h4 : i < 19
          · have := h.cw ((i - 3 + 16 - p) % 16) (by omega)
            have hp := h.hp
            rw [show 3 + (p + (i - 3 + 16 - p) % 16) % 16 = i by omega] at this
            rw [this]; rfl
          · have := h.cg (i - 20) (by omega)
            rw [show 20 + (i - 20) = i by omega] at this
            rw [this]; rfl
theorem inv_new {m : Nat} (hm : May m) (w : World) :
    Calls Try.prog 24 #[.int .u64 (m : Int)] w fun e w' => ∃ g', w.heap.size ≤ g' ∧ e = .returned (.tuple #[.pointer (some ⟨g', 0, none⟩), .int .i64 0]) ∧ Inv w' g' m zeroWin ∧ Below w.heap.size w w' := by
  have h0 := hm.ne
  have hlo := hm.lo
  have hhi := hm.hi
  have hd := degree 0 m hm.u
  rw [deg_ne h0] at hd
  refine (new_calls 1 (m : Int) (m.log2 : Int) w hd (by omega) (by omega)).mono ?_
  rintro e w' ⟨g', h1, he, hb', hbe⟩
  refine ⟨g', h1, he, ⟨_, 0, hb', ?_⟩, hbe⟩
  have hz : ∀ j, j < 20 → newC (m : Int) (m.log2 : Int) 256 j = ((zeroCells.set 0 (.int .u64 (m : Int))).set 1 (.int .i64 (m.log2 : Int))).getD j undef := fun j hj => by
    simp only [newC]; rw [if_neg (by omega)]
  refine ⟨(newC_01 _ _ _).1, (newC_01 _ _ _).2, ?_, by omega, ?_, fun i hi => ?_, fun c hc => ?_, rfl, fun x hx => ?_⟩
  · rw [hz 2 (by omega), fp_zero]; rfl
  · rw [hz 19 (by omega)]; rfl
  · rw [hz _ (by omega), zeroWin_getD, Nat.zero_add, Nat.mod_eq_of_lt hi]
    have : i = 0 ∨ i = 1 ∨ i = 2 ∨ i = 3 ∨ i = 4 ∨ i = 5 ∨ i = 6 ∨ i = 7 ∨ i = 8 ∨ i = 9 ∨ i = 10 ∨ i = 11 ∨ i = 12 ∨ i = 13 ∨ i = 14 ∨ i = 15 := by omega
    rcases this with rfl | rfl | rfl | rfl | rfl | rfl | rfl | rfl | rfl | rfl | rfl | rfl | rfl | rfl | rfl | rfl <;> rfl
  · have hcm : c < 2 ^ m.log2 := by
      have := Nat.pow_le_pow_right (n := 2) (by omega) hlo
      have : (2 : Nat) ^ 9 = 512 := by decide
      omega
    simp only [newC]
    rw [if_pos (by omega), Nat.add_sub_cancel_left, shN_rem hm.u h0 hcm]
  · rw [(List.mem_replicate.mp hx).2]; omega
theorem inv_bad {m : Nat} (hu : U m) (hm : ¬ May m) (w : World) : Calls Try.prog 24 #[.int .u64 (m : Int)] w fun e w' => e = .returned (.tuple #[.pointer none, .int .i64 6]) ∧ Drawn0 w w' := by
  refine new_bad 1 (m : Int) (deg m) w (degree 0 m hu) ?_
  by_cases h0 : m = 0
  · left; rw [h0, deg_zero]; omega
  · rw [deg_ne h0]
    refine Classical.byContradiction fun hn => hm ⟨hu, by omega, by omega⟩
end Go.Proofs.Ytkaabkoadoomjaa.Law
