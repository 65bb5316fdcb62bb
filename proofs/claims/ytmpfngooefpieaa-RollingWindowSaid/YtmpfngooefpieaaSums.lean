/- RollingSums: the walk. -/
import Derived.Test.YtmpfngooefpieaaArr
import Derived.Deep.RegionHeld3
import Derived.BigRegion
namespace Go.Proofs.Ytmpfngooefpieaa.Law
open Go.RowKit Go.Proofs.Ytmpfngooefpieaa Go.Proofs.Ytmpfngooefpieaa.A Go.Proofs.Ytmpfngooefpieaa.Roll Go.Proofs.YtmpfngooefpieaaW.PrintWords Go.Proofs.YtmpfngooefpieaaW.PrintLast Go.Proofs.YtmpfngooefpieaaW.PrintMore
theorem zero16_run (w : World) : Sem.run Try.prog (zeroValue 31) w = .ok (.agg zeros16.toArray) w := by kernel_rfl
def arr (z : List Int) : List Value := z.map (Value.int .u8)
def xs (z1 z2 : List Int) : List Int := (List.range 16).map fun j => Go.bits .xor .u8 (z1.getD j 0) (z2.getD j 0)
theorem xs_len (z1 z2 : List Int) : (xs z1 z2).length = 16 := by simp [xs]
theorem xs_getD (z1 z2 : List Int) {j : Nat} (hj : j < 16) : (xs z1 z2).getD j 0 = Go.bits .xor .u8 (z1.getD j 0) (z2.getD j 0) := by
  unfold xs
  rw [List.getD_eq_getElem?_getD, List.getElem?_map, List.getElem?_range hj]; rfl
theorem arr_getD {z : List Int} {j : Nat} (hj : j < z.length) : (arr z).getD j undef = .int .u8 (z.getD j 0) := by
  unfold arr
  rw [List.getD_eq_getElem?_getD, List.getElem?_map, List.getElem?_eq_getElem hj, List.getD_eq_getElem?_getD, List.getElem?_eq_getElem hj]; rfl
theorem blk_C {w : World} {g : Nat} {C : Nat → Value} (hB : Blk w g 16 C) {z : List Int} (hz : z.length = 16) (h : ∀ j, j < 16 → C j = .int .u8 (z.getD j 0)) : Kd.C (Kd.int .u8) w (some ⟨g, 0, none⟩) z.length z := by
  refine Kd.C_of_reads (enc := Value.int .u8) (d := (0 : Int)) (h1 := fun _ => rfl) ⟨rfl, by omega, fun _ => ⟨_, rfl, fun j hj => ?_⟩⟩
  rw [addr_add, Nat.zero_add, hB.cell j (by omega), h j (by omega)]
/-- the third array behind i rounds -/
def C3 (z1 z2 : List Int) (i : Nat) : Nat → Value := fun j => if j < i then .int .u8 (Go.bits .xor .u8 (z1.getD j 0) (z2.getD j 0)) else .int .u8 0
theorem C3_succ (z1 z2 : List Int) (i : Nat) : C3 z1 z2 (i + 1) = upd (C3 z1 z2 i) i (.int .u8 (Go.bits .xor .u8 (z1.getD i 0) (z2.getD i 0))) := by
  funext j
  by_cases h : j = i
  · subst h; simp only [C3, upd, if_pos (show j < j + 1 by omega)]; rfl
  · by_cases h2 : j < i
    · simp only [C3, upd, if_pos (show j < i + 1 by omega), if_neg h, if_pos h2]
    · simp only [C3, upd, if_neg (show ¬ j < i + 1 by omega), if_neg h, if_neg h2]
theorem C3_zero (z1 z2 : List Int) : C3 z1 z2 0 = fun _ => .int .u8 0 := by
  funext j; simp only [C3, if_neg (show ¬ j < 0 by omega)]
theorem alloc_size (w : World) (o : Obj) : (w.alloc o).heap.size = w.heap.size + 1 := Array.size_push _
theorem three_allocs (w : World) (v1 v2 v3 : List Value) (T : TypeId) :
    Blk (((w.alloc (.cells v1.toArray T)).alloc (.cells v2.toArray T)).alloc (.cells v3.toArray T)) w.heap.size v1.length (fun j => v1.getD j undef) ∧
    Blk (((w.alloc (.cells v1.toArray T)).alloc (.cells v2.toArray T)).alloc (.cells v3.toArray T)) (w.heap.size + 1) v2.length (fun j => v2.getD j undef) ∧
    Blk (((w.alloc (.cells v1.toArray T)).alloc (.cells v2.toArray T)).alloc (.cells v3.toArray T)) (w.heap.size + 1 + 1) v3.length (fun j => v3.getD j undef) ∧
    Below w.heap.size w (((w.alloc (.cells v1.toArray T)).alloc (.cells v2.toArray T)).alloc (.cells v3.toArray T)) := by
  have h1 := Blk.new w v1 T
  have h2 := Blk.new (w.alloc (.cells v1.toArray T)) v2 T
  have h3 := Blk.new ((w.alloc (.cells v1.toArray T)).alloc (.cells v2.toArray T)) v3 T
  have s1 := alloc_size w (.cells v1.toArray T)
  have s2 := alloc_size (w.alloc (.cells v1.toArray T)) (.cells v2.toArray T)
  have b : ∀ (W : World) (o : Obj), Below W.heap.size W (W.alloc o) := fun W o => below_alloc (Below.refl _ _) o
  rw [s1] at h2 s2
  rw [s2] at h3
  refine ⟨(h1.below (b _ _) (by omega)).below (b _ _) (by omega), h2.below (b _ _) (by omega), h3, ?_⟩
  exact below_alloc (below_alloc (below_alloc (Below.refl _ _) _) _) _
set_option maxHeartbeats 1000000 in
set_option maxRecDepth 100000 in
theorem sums_both (m : Nat) (z1 z2 : List Int) (hl1 : z1.length = 16) (hl2 : z2.length = 16) (hb1 : Bytes z1) (hb2 : Bytes z2) (w : World) (f : List Int → Int) (er : Int) (rt : Bool)
    (hof : ∀ (A1 : Option Addr) (c1 : Nat) (l1 : List Int) (W : World), Kd.C (Kd.int .u8) W A1 l1.length l1 → l1.length ≤ c1 → Bytes l1 → Calls Try.prog 10 #[.int .u64 (m : Int), .slice A1 l1.length c1] W fun e w' => e = .returned (.tuple #[.int .u64 (f l1), .int .i64 er]) ∧ Below W.heap.size W w')
    (hrt : ∀ W, Calls Try.prog 11 #[.int .u64 (m : Int)] W fun e w' => e = .returned (.bool rt) ∧ Drawn0 W w') (hre : (er == 0) = rt) (hx : f (xs z1 z2) = Go.bits .xor .u64 (f z1) (f z2)) (hbx : Bytes (xs z1 z2)) :
    Calls Try.prog 5 #[.int .u64 (m : Int), .agg (arr z1).toArray, .agg (arr z2).toArray] w fun e w' => e = .returned (.bool true) ∧ Below w.heap.size w w' := by
  have HOF : Aside0 (∀ (A1 : Option Addr) (l1 : List Int) (W : World), l1.length = 16 → Kd.C (Kd.int .u8) W A1 l1.length l1 → Bytes l1 → Calls Try.prog 10 #[.int .u64 (m : Int), .slice A1 16 16] W fun e w' => e = .returned (.tuple #[.int .u64 (f l1), .int .i64 er]) ∧ Below W.heap.size W w') := ⟨fun A1 l1 W hl hc hb => by
    have := hof A1 16 l1 W hc (by omega) hb
    rw [hl] at this; exact this⟩
  have HRT := Aside0.mk hrt
  have HX1 := Aside0.mk hb1
  have HX2 := Aside0.mk hb2
  have HX3 := Aside0.mk hbx
  have ha1 : (arr z1).length = 16 := by simp [arr, hl1]
  have ha2 : (arr z2).length = 16 := by simp [arr, hl2]
  have kz := zero16_run
  have hz : zeros16.length = 16 := rfl
  have hal := three_allocs w (arr z1) (arr z2) zeros16 31
  rw [ha1, ha2, hz] at hal
  have HAL := Aside0.mk hal
  have HG1 : Aside0 (∀ j, j < 16 → (arr z1).getD j undef = .int .u8 (z1.getD j 0)) := ⟨fun j hj => arr_getD (by omega)⟩
  have HG2 : Aside0 (∀ j, j < 16 → (arr z2).getD j undef = .int .u8 (z2.getD j 0)) := ⟨fun j hj => arr_getD (by omega)⟩
  have HG3 : Aside0 (∀ j, j < 16 → zeros16.getD j undef = .int .u8 0) := ⟨fun j hj => by
    unfold zeros16; rw [List.getD_eq_getElem?_getD, List.getElem?_replicate, if_pos hj]; rfl⟩
  have HL1 := Aside0.mk hl1
  have HL2 := Aside0.mk hl2
  have HXE := Aside0.mk hx
  clear hof hrt hb1 hb2 hl1 hl2 hbx hal hx
  generalize zeros16 = zs at *
  generalize arr z1 = v1 at *
  generalize arr z2 = v2 at *
  go_enter Try.func5, Try.ntmps5
  go_wp2
  obtain ⟨b1, b2, b3, bl⟩ := HAL.out
  have B1 := Aside0.mk b1
  have B2 := Aside0.mk b2
  have B3 := Aside0.mk b3
  have BL := Aside0.mk bl
  clear b1 b2 b3 bl HAL kz
  generalize ((w.alloc (Obj.cells v1.toArray 31)).alloc (Obj.cells v2.toArray 31)).alloc (Obj.cells zs.toArray 31) = w1 at *
  obtain ⟨g1, e1⟩ : ∃ g, g = w.heap.size := ⟨_, rfl⟩
  obtain ⟨g2, e2⟩ : ∃ g, g = w.heap.size + 1 := ⟨_, rfl⟩
  obtain ⟨g3, e3⟩ : ∃ g, g = w.heap.size + 1 + 1 := ⟨_, rfl⟩
  rw [← e3] at B3 ⊢
  rw [← e2] at B2 ⊢
  rw [← e1] at B1 ⊢
  have h12 : g2 ≠ g1 := by omega
  have h13 : g3 ≠ g1 := by omega
  have h23 : g3 ≠ g2 := by omega
  have hg3 : w.heap.size ≤ g3 := by omega
  clear e1 e2 e3
  have B3' : Aside0 (Blk w1 g3 16 (C3 z1 z2 0)) := ⟨B3.out.congr fun i hi => by rw [C3_zero]; exact (HG3.out i hi).symm⟩
  go_loopw [15] (fun v wr => ∃ (i : Nat), i ≤ 16 ∧ v = .int .i64 i ∧ Aside0 (Blk wr g1 16 (fun j => v1.getD j undef)) ∧ Aside0 (Blk wr g2 16 (fun j => v2.getD j undef)) ∧ Aside0 (Blk wr g3 16 (C3 z1 z2 i)) ∧ Aside0 (Below w.heap.size w wr)) (fun v _ => 16 - (intOf v).toNat)
  case atStart => exact ⟨0, by omega, rfl, B1, B2, B3', BL⟩
  case round =>
    obtain ⟨i, hi, rfl, R1, R2, R3, RL⟩ := hrel
    obtain ⟨wo, rfl⟩ : ∃ wo : World, wo = wr := ⟨_, rfl⟩
    clear B1 B2 B3 B3' BL
    by_cases hlt : i < 16
    · have hltb : decide ((i : Int) < 16) = true := decide_eq_true (by omega)
      have k1 := (R1.out.cell i hlt).trans (congrArg some (HG1.out i hlt))
      have k2 := (R2.out.cell i hlt).trans (congrArg some (HG2.out i hlt))
      have k3 := R3.out.cell i hlt
      have kf := R3.out.fz
      have HS := Aside0.mk (C3_succ z1 z2 i)
      generalize z1.getD i 0 = x1 at *
      generalize z2.getD i 0 = x2 at *
      go_wp2
      go_region
      have ho := (((Only.refl g3 wo).set i (Value.int .u8 (Go.bits .xor .u8 x1 x2))).drewN 1)
      have N1 : Aside0 (Blk ((wo.setCell ⟨g3, i, none⟩ (Value.int .u8 (Go.bits .xor .u8 x1 x2))).drewN 1) g1 16 (fun j => v1.getD j undef)) := ⟨ho.blk R1.out (Ne.symm h13)⟩
      have N2 : Aside0 (Blk ((wo.setCell ⟨g3, i, none⟩ (Value.int .u8 (Go.bits .xor .u8 x1 x2))).drewN 1) g2 16 (fun j => v2.getD j undef)) := ⟨ho.blk R2.out (Ne.symm h23)⟩
      have N3 : Aside0 (Blk ((wo.setCell ⟨g3, i, none⟩ (Value.int .u8 (Go.bits .xor .u8 x1 x2))).drewN 1) g3 16 (C3 z1 z2 (i + 1))) := ⟨by rw [HS.out]; exact (R3.out.set (o := i) hlt _).drewN 1⟩
      have NL : Aside0 (Below w.heap.size w ((wo.setCell ⟨g3, i, none⟩ (Value.int .u8 (Go.bits .xor .u8 x1 x2))).drewN 1)) := ⟨RL.out.trans (ho.below hg3)⟩
      clear R1 R2 R3 RL HS ho k1 k2 k3 kf
      go_wp2
      go_roundw
      case rel => exact ⟨i + 1, by omega, by go_num, N1, N2, N3, NL⟩
      case measure => simp [intOf]; omega
    · have : i = 16 := by omega
      subst this
      obtain ⟨wq, rfl⟩ : ∃ wq : World, wq = wo := ⟨_, rfl⟩
      have KC1 := Aside0.mk (blk_C R1.out HL1.out HG1.out)
      have KC2 := Aside0.mk (blk_C R2.out HL2.out HG2.out)
      have KC3 := Aside0.mk (blk_C R3.out (xs_len z1 z2) (fun j hj => by rw [xs_getD _ _ hj]; simp only [C3, if_pos hj]))
      have HL3 := Aside0.mk (xs_len z1 z2)
      have HB := Aside0.mk (Below.refl wq.heap.size wq)
      clear R1 R2 R3
      have HO1 : Aside0 (∀ W, Below wq.heap.size wq W → Calls Try.prog 10 #[.int .u64 (m : Int), .slice (some ⟨g1, 0, none⟩) 16 16] W fun e w' => e = .returned (.tuple #[.int .u64 (f z1), .int .i64 er]) ∧ Below W.heap.size W w') := ⟨fun W hW => HOF.out _ z1 W HL1.out (Kd.C_below KC1.out hW) HX1.out⟩
      have HO2 : Aside0 (∀ W, Below wq.heap.size wq W → Calls Try.prog 10 #[.int .u64 (m : Int), .slice (some ⟨g2, 0, none⟩) 16 16] W fun e w' => e = .returned (.tuple #[.int .u64 (f z2), .int .i64 er]) ∧ Below W.heap.size W w') := ⟨fun W hW => HOF.out _ z2 W HL2.out (Kd.C_below KC2.out hW) HX2.out⟩
      have HO3 : Aside0 (∀ W, Below wq.heap.size wq W → Calls Try.prog 10 #[.int .u64 (m : Int), .slice (some ⟨g3, 0, none⟩) 16 16] W fun e w' => e = .returned (.tuple #[.int .u64 (f (xs z1 z2)), .int .i64 er]) ∧ Below W.heap.size W w') := ⟨fun W hW => HOF.out _ (xs z1 z2) W HL3.out (Kd.C_below KC3.out hW) HX3.out⟩
      have hxe := HXE.out
      clear HXE HOF KC1 KC2 KC3
      generalize f (xs z1 z2) = r3 at *
      generalize f z1 = r1 at *
      generalize f z2 = r2 at *
      subst hxe
      go_wp2_with (first | (go_at_call 10; (with_reducible refine (HO1.out _ ?hbw).mono ?_); (case hbw => exact (by repeat (first | (with_reducible first | exact HB.out | apply below_alloc | apply pw_below_drewN | apply below_drew1) | exact HB.out))); rintro e w' ⟨rfl, hb⟩; have n1_ := Aside0.mk (below_step (by repeat (first | (with_reducible first | exact HB.out | apply below_alloc | apply pw_below_drewN | apply below_drew1) | exact HB.out)) hb); clear HB; have HB := n1_; clear n1_ hb) | (go_at_call 10; (with_reducible refine (HO2.out _ ?hbw).mono ?_); (case hbw => exact (by repeat (first | (with_reducible first | exact HB.out | apply below_alloc | apply pw_below_drewN | apply below_drew1) | exact HB.out))); rintro e w' ⟨rfl, hb⟩; have n1_ := Aside0.mk (below_step (by repeat (first | (with_reducible first | exact HB.out | apply below_alloc | apply pw_below_drewN | apply below_drew1) | exact HB.out)) hb); clear HB; have HB := n1_; clear n1_ hb) | (go_at_call 10; (with_reducible refine (HO3.out _ ?hbw).mono ?_); (case hbw => exact (by repeat (first | (with_reducible first | exact HB.out | apply below_alloc | apply pw_below_drewN | apply below_drew1) | exact HB.out))); rintro e w' ⟨rfl, hb⟩; have n1_ := Aside0.mk (below_step (by repeat (first | (with_reducible first | exact HB.out | apply below_alloc | apply pw_below_drewN | apply below_drew1) | exact HB.out)) hb); clear HB; have HB := n1_; clear n1_ hb) | (go_at_call 11; refine (HRT.out _).mono ?_; rintro e w' ⟨rfl, ⟨nd, rfl⟩⟩) | (go_at_call 9; refine (awake_calls _).mono ?_; rintro e w' ⟨rfl, hb⟩; have n1_ := Aside0.mk (below_step (by repeat (first | (with_reducible first | exact HB.out | apply below_alloc | apply pw_below_drewN | apply below_drew1) | exact HB.out)) hb); clear HB; have HB := n1_; clear n1_ hb))
      go_ret
      exact ⟨rfl, RL.out.trans (HB.out.mono RL.out.size)⟩
theorem poly_zip : ∀ (a b : List Nat), a.length = b.length → poly (List.zipWith (· ^^^ ·) a b) = poly a ^^^ poly b := by
  intro a
  induction a with
  | nil => intro b hb; cases b with
    | nil => rfl
    | cons => cases hb
  | cons x a ih =>
    intro b hb
    cases b with
    | nil => cases hb
    | cons y b =>
      have hl : a.length = b.length := by simpa using hb
      rw [List.zipWith_cons_cons, poly_cons, poly_cons, poly_cons, ih b hl, mul_xor256, List.length_zipWith, ← hl, Nat.min_self]
      ac_rfl
theorem xor8 {x y : Int} (hx : 0 ≤ x ∧ x < 256) (hy : 0 ≤ y ∧ y < 256) : Go.bits .xor .u8 x y = ((x.toNat ^^^ y.toNat : Nat) : Int) := by
  obtain ⟨a, rfl⟩ : ∃ a : Nat, x = a := ⟨_, (Int.toNat_of_nonneg hx.1).symm⟩
  obtain ⟨b, rfl⟩ : ∃ b : Nat, y = b := ⟨_, (Int.toNat_of_nonneg hy.1).symm⟩
  have h1 : (BitVec.ofInt 8 (a : Int)).toNat = a := by
    rw [BitVec.ofInt_natCast, BitVec.toNat_ofNat]; exact Nat.mod_eq_of_lt (by omega)
  have h2 : (BitVec.ofInt 8 (b : Int)).toNat = b := by
    rw [BitVec.ofInt_natCast, BitVec.toNat_ofNat]; exact Nat.mod_eq_of_lt (by omega)
  have hx : a ^^^ b < 2 ^ 8 := Nat.xor_lt_two_pow (by omega) (by omega)
  show IntKind.u8.wrap ((BitVec.ofInt 8 (a : Int) ^^^ BitVec.ofInt 8 (b : Int)).toNat : Int) = ((a ^^^ b : Nat) : Int)
  rw [BitVec.toNat_xor, h1, h2, show IntKind.u8.wrap ((a ^^^ b : Nat) : Int) = ((a ^^^ b : Nat) : Int) % 256 by simp [IntKind.wrap, IntKind.bits, IntKind.signed]]
  omega
theorem getD_bytes {z : List Int} (h : Bytes z) (j : Nat) : 0 ≤ z.getD j 0 ∧ z.getD j 0 < 256 := by
  rw [List.getD_eq_getElem?_getD]
  cases hj : z[j]? with
  | none => simp
  | some b => exact h b (List.mem_of_getElem? hj)
theorem xs_bytes {z1 z2 : List Int} (h1 : Bytes z1) (h2 : Bytes z2) : Bytes (xs z1 z2) := fun x hx => by
  unfold xs at hx
  obtain ⟨j, _, rfl⟩ := List.mem_map.mp hx
  have a := getD_bytes h1 j
  have b := getD_bytes h2 j
  rw [xor8 a b]
  have : (z1.getD j 0).toNat ^^^ (z2.getD j 0).toNat < 2 ^ 8 := Nat.xor_lt_two_pow (by omega) (by omega)
  omega
theorem nat_xs {z1 z2 : List Int} (h1 : Bytes z1) (h2 : Bytes z2) (l1 : z1.length = 16) (l2 : z2.length = 16) : nat (xs z1 z2) = List.zipWith (· ^^^ ·) (nat z1) (nat z2) := by
  apply List.ext_getElem
  · rw [nat_len, xs_len, List.length_zipWith, nat_len, nat_len, l1, l2]; rfl
  · intro i hi hi2
    have hi3 : i < 16 := by rw [nat_len, xs_len] at hi; exact hi
    simp only [nat, xs, List.getElem_map, List.getElem_zipWith, List.getElem_range]
    rw [xor8 (getD_bytes h1 i) (getD_bytes h2 i)]
    have e1 : z1.getD i 0 = z1[i] := by rw [List.getD_eq_getElem?_getD, List.getElem?_eq_getElem (by omega)]; rfl
    have e2 : z2.getD i 0 = z2[i] := by rw [List.getD_eq_getElem?_getD, List.getElem?_eq_getElem (by omega)]; rfl
    rw [e1, e2]; rfl
theorem fpo16 (m : Nat) {z : List Int} (h : z.length = 16) : fpo m z = Gf.rem (poly (nat z)) m := by
  rw [fpo_eq, h]; rfl
theorem sums_walk (a0 : Int) (z1 z2 : List Int) (w : World) (w0 : (Lit.int .u64 a0).wf = true) (hl1 : z1.length = 16) (hb1 : Bytes z1) (hl2 : z2.length = 16) (hb2 : Bytes z2) :
    Calls Try.prog 5 #[.int .u64 a0, .agg (z1.map (Value.int .u8)).toArray, .agg (z2.map (Value.int .u8)).toArray] w fun e w' => e = .returned (.bool true) ∧ Below w.heap.size w w' := by
  obtain ⟨m, rfl, hu⟩ := of_wf w0
  by_cases hm : May m
  · refine sums_both m z1 z2 hl1 hl2 hb1 hb2 w (fun l => (fpo m l : Int)) 0 true (fun A1 c1 l1 W hc hl hb => ?_) (fun W => right_yes hm W) rfl ?_ (xs_bytes hb1 hb2)
    · rw [fpo_eq]; exact of_good m hm A1 c1 l1 W hc hl hb
    · show ((fpo m (xs z1 z2) : Nat) : Int) = _
      rw [fpo16 m (xs_len z1 z2), fpo16 m hl1, fpo16 m hl2, nat_xs hb1 hb2 hl1 hl2, poly_zip _ _ (by rw [nat_len, nat_len, hl1, hl2]), Gf.rem_xor _ _ hm.ne, xor64 (u_rem _ hu hm.ne) (u_rem _ hu hm.ne)]
  · refine sums_both m z1 z2 hl1 hl2 hb1 hb2 w (fun _ => 0) 6 false (fun A1 c1 l1 W hc hl hb => ?_) (fun W => right_no hu hm W) rfl (by decide +kernel) (xs_bytes hb1 hb2)
    refine (of_bad m hu hm A1 c1 l1 W).mono ?_
    rintro e w' ⟨he, hd⟩
    exact ⟨he, hd.below⟩
end Go.Proofs.Ytmpfngooefpieaa.Law
