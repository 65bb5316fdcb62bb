/- The walk of rolling.Of, and what a byte row tells. -/
import Derived.Test.YtmpfngooefpieaaInv
namespace Go.Proofs.Ytmpfngooefpieaa.Law
open Go.RowKit Go.Proofs.Ytmpfngooefpieaa Go.Proofs.Ytmpfngooefpieaa.D Go.Proofs.Ytmpfngooefpieaa.Roll Go.Proofs.YtmpfngooefpieaaW.PrintWords Go.Proofs.YtmpfngooefpieaaW.PrintLast Go.Proofs.YtmpfngooefpieaaW.PrintMore
/-- a window behind some bytes more -/
def pushed (L : List Nat) (bs : List Nat) : List Nat := bs.foldl (fun L b => L.tail ++ [b]) L
theorem pushed_snoc (L bs : List Nat) (b : Nat) : pushed L (bs ++ [b]) = (pushed L bs).tail ++ [b] := by unfold pushed; rw [List.foldl_append]; rfl
theorem pushed_drop (L bs : List Nat) (hL : L ≠ []) : pushed L bs = (L ++ bs).drop bs.length := by
  induction bs generalizing L with
  | nil => simp [pushed]
  | cons b bs ih =>
    show pushed (L.tail ++ [b]) bs = _
    rw [ih _ (by simp)]
    cases L with
    | nil => exact absurd rfl hL
    | cons a L =>
      show List.drop bs.length (L ++ [b] ++ bs) = List.drop (bs.length + 1) (a :: (L ++ b :: bs))
      rw [List.drop_succ_cons, List.append_assoc]; rfl
theorem fp_pushed (m : Nat) (bs : List Nat) : fp m (pushed zeroWin bs) = fp m (bs.drop (bs.length - 16)) := by
  rw [pushed_drop _ _ (by decide)]
  unfold zeroWin fp
  rw [List.drop_append, List.drop_replicate, poly_zeros]
  simp
def nat (l : List Int) : List Nat := l.map Int.toNat
def Bytes (l : List Int) : Prop := ∀ x ∈ l, 0 ≤ x ∧ x < 256
theorem nat_len (l : List Int) : (nat l).length = l.length := by simp [nat]
theorem nat_drop (l : List Int) (n : Nat) : (nat l).drop n = nat (l.drop n) := by simp [nat]
theorem nat_take (l : List Int) (n : Nat) : (nat l).take n = nat (l.take n) := by simp [nat]
theorem Bytes.nat {l : List Int} (h : Bytes l) : ∀ b ∈ nat l, b < 256 := fun b hb => by
  obtain ⟨x, hx, rfl⟩ := List.mem_map.mp hb
  have := h x hx; omega
theorem rd_push {l : List Int} (h : Bytes l) {L : List Nat} {i : Nat} (hi : i < l.length) : (0 ≤ rd l (i : Int) ∧ rd l (i : Int) < 256) ∧
    pushed L ((nat l).take (i + 1)) = (pushed L ((nat l).take i)).tail ++ [(rd l (i : Int)).toNat] := by
  have e : rd l (i : Int) = l[i] := by
    unfold rd
    rw [show (i : Int).toNat = i from rfl, List.getD_eq_getElem?_getD, List.getElem?_eq_getElem hi]; rfl
  refine ⟨by rw [e]; exact h _ (List.getElem_mem hi), ?_⟩
  rw [List.take_succ_eq_append_getElem (by rw [nat_len]; exact hi), pushed_snoc, e]
  congr 2
  simp [nat]
instance (m : Nat) : Decidable (U m) := by unfold U; infer_instance
instance (m : Nat) : Decidable (May m) := decidable_of_iff (U m ∧ 9 ≤ m.log2 ∧ m.log2 ≤ 53) ⟨fun h => ⟨h.1, h.2.1, h.2.2⟩, fun h => ⟨h.u, h.lo, h.hi⟩⟩
instance (l : List Int) : Decidable (Bytes l) := by unfold Bytes; infer_instance
def Of (a0 : Int) (l1 : List Int) : Option (Int × Int) :=
  if U a0.toNat ∧ 0 ≤ a0 ∧ Bytes l1 then (if May a0.toNat then some ((fp a0.toNat ((nat l1).drop (l1.length - 16)) : Int), 0) else some (0, 6)) else none
set_option maxHeartbeats 400000 in
set_option maxRecDepth 100000 in
theorem of_short (m : Nat) (hm : May m) (A1 : Option Addr) (c1 : Nat) (l2 : List Int) (w : World) (hd : Kd.C (Kd.int .u8) w A1 l2.length l2) (hb : Bytes l2) (hs : l2.length ≤ 16) :
    Calls Try.prog 10 #[.int .u64 (m : Int), .slice A1 l2.length c1] w fun e w' => e = .returned (.tuple #[.int .u64 (fp m (pushed zeroWin (nat l2)) : Int), .int .i64 0]) ∧ Below w.heap.size w w' := by
  have HD := Aside0.mk hd
  have HM := Aside0.mk hm
  have HX := Aside0.mk hb
  have hw : wrap64 ((l2.length : Int) - 16) = (l2.length : Int) - 16 := w64 (by omega) (by omega)
  have hs1 : ((l2.length : Int) ≤ 16) := by omega
  clear hd hm hb
  go_enter Try.func10, Try.ntmps10
  go_wp2_with (first | (go_at_call 13; refine (inv_new HM.out _).mono ?_; rintro e w' ⟨g', hg, rfl, hi, hbe⟩))
  have hd := HD.out
  clear HD
  have HW := Aside0.mk (Only.refl g' w')
  have HI := Aside0.mk hi
  have HL := Aside0.mk hbe
  have HD := Aside0.mk hd
  have hn : l2.length ≤ 9223372036854775807 := Kd.C_max hd
  clear hi hbe hd
  go_loopw [25] (fun v25 wr => ∃ (i : Nat), i ≤ l2.length ∧ v25 = .int .i64 i ∧ Aside0 (Inv wr g' m (pushed zeroWin ((nat l2).take i))) ∧ Aside0 (Only g' w' wr)) (fun v25 _ => l2.length - (intOf v25).toNat)
  case atStart => exact ⟨0, by omega, rfl, HI, HW⟩
  case round =>
    obtain ⟨i, hi, rfl, HBr, HWr⟩ := hrel
    obtain ⟨wo, rfl⟩ : ∃ wo : World, wo = wr := ⟨_, rfl⟩
    by_cases hlt : i < l2.length
    · have hltb : decide ((i : Int) < (l2.length : Int)) = true := decide_eq_true (by omega)
      obtain ⟨ad, hA2, hcell⟩ := Kd.at_int (Kd.C_below HD.out (HL.out.trans (HWr.out.below hg))) (i : Int) (by omega) (by omega)
      obtain rfl := hA2
      obtain ⟨hbb, hst⟩ := rd_push HX.out (L := zeroWin) hlt
      obtain ⟨b, hb⟩ : ∃ b : Nat, rd l2 (i : Int) = b := ⟨_, (Int.toNat_of_nonneg hbb.1).symm⟩
      rw [hb] at hbb hst
      replace hcell : wo.cell? (ad.add i) = some (.int .u8 (b : Int)) := by rw [hb] at hcell; exact hcell
      have HS := Aside0.mk hst
      clear hb hst
      go_wp2_with (first | (go_at_call 15; refine (inv_push HM.out HBr.out (b := b) (by omega)).mono ?_; rintro e w'' ⟨rfl, hi2, ho2⟩))
      go_roundw
      case rel =>
        refine ⟨i + 1, by omega, by go_num, ⟨?_⟩, ⟨HWr.out.trans ho2⟩⟩
        rw [HS.out]; exact hi2
      case measure => simp [intOf]; omega
    · have hlt2 : i = l2.length := by omega
      have hltb : decide ((i : Int) < (l2.length : Int)) = false := decide_eq_false (by omega)
      go_wp2_with (first | (go_at_call 14; refine (inv_value HBr.out).mono ?_; rintro e w'' ⟨rfl, rfl⟩))
      go_ret2
      refine ⟨?_, HL.out.trans (HWr.out.below hg)⟩
      show Ending.returned (.tuple #[.int .u64 (fp m (pushed zeroWin ((nat l2).take l2.length)) : Int), .int .i64 0]) = _
      rw [← nat_len l2, List.take_length]
set_option maxHeartbeats 400000 in
set_option maxRecDepth 100000 in
theorem of_long (m : Nat) (hm : May m) (A1 : Option Addr) (c1 : Nat) (l1 : List Int) (w : World) (hr1 : Kd.C (Kd.int .u8) w A1 l1.length l1) (hc1 : l1.length ≤ c1) (hb : Bytes l1) (hs : 16 < l1.length) :
    Calls Try.prog 10 #[.int .u64 (m : Int), .slice A1 l1.length c1] w fun e w' => e = .returned (.tuple #[.int .u64 (fp m (pushed zeroWin (nat (l1.drop (l1.length - 16)))) : Int), .int .i64 0]) ∧ Below w.heap.size w w' := by
  have HR := Aside0.mk hr1
  have HC := Aside0.mk hc1
  have HM := Aside0.mk hm
  have HX := Aside0.mk (show Bytes (l1.drop (l1.length - 16)) from fun x hx => hb x (List.mem_of_mem_drop hx))
  have hw : wrap64 ((l1.length : Int) - 16) = (l1.length : Int) - 16 := w64 (by omega) (by have := Kd.C_max hr1; omega)
  have hs1 : ((16 : Int) < l1.length) := by omega
  have hne : ¬ c1 = ((l1.length : Int) - 16).toNat := by omega
  have hdd : Kd.C (Kd.int .u8) w (Option.map (fun x => x.add (l1.length - 16)) A1) (l1.drop (l1.length - 16)).length (l1.drop (l1.length - 16)) := by
    have hd := Kd.C_drop hr1 (m := l1.length - 16) (c := c1) (by omega) hc1
    rw [if_neg (by omega), show (Kd.int .u8).sz = 1 from rfl, Nat.mul_one] at hd
    exact hd
  have hle : l1.length - (l1.length - 16) = (l1.drop (l1.length - 16)).length := by rw [List.length_drop]
  clear hr1 hc1 hm hb HR
  obtain ⟨l2, hl2⟩ : ∃ l2, l1.drop (l1.length - 16) = l2 := ⟨_, rfl⟩
  rw [hl2] at hdd hle HX ⊢
  have HDD := Aside0.mk hdd
  have HLE := Aside0.mk hle
  clear hdd hle hl2
  go_enter Try.func10, Try.ntmps10
  go_wp2_with (first | (go_at_call 13; refine (inv_new HM.out _).mono ?_; rintro e w' ⟨g', hg, rfl, hi, hbe⟩))
  have hd := HDD.out
  clear HDD
  rw [HLE.out]
  clear HLE
  generalize c1 - (l1.length - 16) = c2
  generalize Option.map (fun x => x.add (l1.length - 16)) A1 = A2 at *
  clear hne hs hs1 HC hw
  have HW := Aside0.mk (Only.refl g' w')
  have HI := Aside0.mk hi
  have HL := Aside0.mk hbe
  have HD := Aside0.mk hd
  have hn : l2.length ≤ 9223372036854775807 := Kd.C_max hd
  clear hi hbe hd
  go_loopw [25] (fun v25 wr => ∃ (i : Nat), i ≤ l2.length ∧ v25 = .int .i64 i ∧ Aside0 (Inv wr g' m (pushed zeroWin ((nat l2).take i))) ∧ Aside0 (Only g' w' wr)) (fun v25 _ => l2.length - (intOf v25).toNat)
  case atStart => exact ⟨0, by omega, rfl, HI, HW⟩
  case round =>
    obtain ⟨i, hi, rfl, HBr, HWr⟩ := hrel
    obtain ⟨wo, rfl⟩ : ∃ wo : World, wo = wr := ⟨_, rfl⟩
    by_cases hlt : i < l2.length
    · have hltb : decide ((i : Int) < (l2.length : Int)) = true := decide_eq_true (by omega)
      obtain ⟨ad, hA2, hcell⟩ := Kd.at_int (Kd.C_below HD.out (HL.out.trans (HWr.out.below hg))) (i : Int) (by omega) (by omega)
      obtain rfl := hA2
      obtain ⟨hbb, hst⟩ := rd_push HX.out (L := zeroWin) hlt
      obtain ⟨b, hb⟩ : ∃ b : Nat, rd l2 (i : Int) = b := ⟨_, (Int.toNat_of_nonneg hbb.1).symm⟩
      rw [hb] at hbb hst
      replace hcell : wo.cell? (ad.add i) = some (.int .u8 (b : Int)) := by rw [hb] at hcell; exact hcell
      have HS := Aside0.mk hst
      clear hb hst
      go_wp2_with (first | (go_at_call 15; refine (inv_push HM.out HBr.out (b := b) (by omega)).mono ?_; rintro e w'' ⟨rfl, hi2, ho2⟩))
      go_roundw
      case rel =>
        refine ⟨i + 1, by omega, by go_num, ⟨?_⟩, ⟨HWr.out.trans ho2⟩⟩
        rw [HS.out]; exact hi2
      case measure => simp [intOf]; omega
    · have hlt2 : i = l2.length := by omega
      have hltb : decide ((i : Int) < (l2.length : Int)) = false := decide_eq_false (by omega)
      go_wp2_with (first | (go_at_call 14; refine (inv_value HBr.out).mono ?_; rintro e w'' ⟨rfl, rfl⟩))
      go_ret2
      refine ⟨?_, HL.out.trans (HWr.out.below hg)⟩
      show Ending.returned (.tuple #[.int .u64 (fp m (pushed zeroWin ((nat l2).take l2.length)) : Int), .int .i64 0]) = _
      rw [← nat_len l2, List.take_length]
theorem of_good (m : Nat) (hm : May m) (A1 : Option Addr) (c1 : Nat) (l1 : List Int) (w : World) (hr1 : Kd.C (Kd.int .u8) w A1 l1.length l1) (hc1 : l1.length ≤ c1) (hb : Bytes l1) :
    Calls Try.prog 10 #[.int .u64 (m : Int), .slice A1 l1.length c1] w fun e w' => e = .returned (.tuple #[.int .u64 (fp m ((nat l1).drop (l1.length - 16)) : Int), .int .i64 0]) ∧ Below w.heap.size w w' := by
  by_cases hs : l1.length ≤ 16
  · have := of_short m hm A1 c1 l1 w hr1 hb hs
    rw [fp_pushed, nat_len] at this; exact this
  · have := of_long m hm A1 c1 l1 w hr1 hc1 hb (by omega)
    rw [fp_pushed, nat_len, ← nat_drop, List.drop_drop, List.length_drop] at this
    rw [show l1.length - 16 + (l1.length - (l1.length - 16) - 16) = l1.length - 16 by omega] at this
    exact this
set_option maxRecDepth 100000 in
theorem of_bad (m : Nat) (hu : U m) (hm : ¬ May m) (A1 : Option Addr) (c1 : Nat) (l1 : List Int) (w : World) :
    Calls Try.prog 10 #[.int .u64 (m : Int), .slice A1 l1.length c1] w fun e w' => e = .returned (.tuple #[.int .u64 0, .int .i64 6]) ∧ Drawn0 w w' := by
  have HM := Aside0.mk hm
  go_enter Try.func10, Try.ntmps10
  go_wp2_with (first | (go_at_call 13; refine (inv_bad hu HM.out _).mono ?_; rintro e w' ⟨rfl, ⟨n, rfl⟩⟩))
  go_ret2
  exact ⟨rfl, by repeat (first | exact Drawn0.refl _ | apply Drawn0.step)⟩
end Go.Proofs.Ytmpfngooefpieaa.Law
namespace Go.Proofs.Ytmpfngooefpieaa.A
open Go.RowKit Go.Proofs.Ytmpfngooefpieaa.Law Go.Proofs.YtmpfngooefpieaaW.PrintWords Go.Proofs.YtmpfngooefpieaaW.PrintLast Go.Proofs.YtmpfngooefpieaaW.PrintMore
def rolling_Of.f (a0 : Int) (l1 : List Int) : Option (Int × Int) := Of a0 l1
theorem rolling_Of.calls (a0 : Int) (A1 : Option Addr) (c1 : Nat) (l1 : List Int) (r1 : Int) (r2 : Int) (w : World) (hr1 : Kd.C (Kd.int .u8) w A1 l1.length l1) (hc1 : l1.length ≤ c1) (h : rolling_Of.f a0 l1 = some (r1, r2)) :
    Calls Try.prog 10 #[.int .u64 a0, .slice A1 l1.length c1] w fun e w' => e = .returned (.tuple #[.int .u64 r1, .int .i64 r2]) ∧ Below w.heap.size w w' := by
  unfold rolling_Of.f Of at h
  by_cases h1 : U a0.toNat ∧ 0 ≤ a0 ∧ Bytes l1
  · rw [if_pos h1] at h
    obtain ⟨m, rfl⟩ : ∃ m : Nat, a0 = m := ⟨a0.toNat, (Int.toNat_of_nonneg h1.2.1).symm⟩
    replace h1 : U m ∧ 0 ≤ (m : Int) ∧ Bytes l1 := h1
    by_cases hm : May m
    · rw [if_pos (show May (m : Int).toNat from hm)] at h
      injection h with h; injection h with h2 h3
      subst h2 h3
      exact of_good m hm A1 c1 l1 w hr1 hc1 h1.2.2
    · rw [if_neg (show ¬ May (m : Int).toNat from hm)] at h
      injection h with h; injection h with h2 h3
      subst h2 h3
      refine (of_bad m h1.1 hm A1 c1 l1 w).mono ?_
      rintro e w' ⟨he, hd⟩
      exact ⟨he, hd.below⟩
  · rw [if_neg h1] at h; cases h
end Go.Proofs.Ytmpfngooefpieaa.A
