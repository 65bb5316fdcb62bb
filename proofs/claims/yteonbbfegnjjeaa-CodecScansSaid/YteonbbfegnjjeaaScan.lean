/- The walks of codec.Scan: next, Number, Fixed, Text, ID; what each tells of bytes. -/
import Derived.Test.YteonbbfegnjjeaaDx0
import Derived.StillTailTactics
import Derived.RegionTactic
import Derived.BigRegion
import Derived.Deep.DeepMust
import Derived.Deep.RegionHeld3
namespace Go.Proofs.Yteonbbfegnjjeaa.Law
open Go.RowKit Go.Proofs.Yteonbbfegnjjeaa Go.Proofs.YteonbbfegnjjeaaW.PrintWords Go.Proofs.YteonbbfegnjjeaaW.PrintLast Go.Proofs.YteonbbfegnjjeaaW.PrintMore
def Bytes (l : List Int) : Prop := ∀ x ∈ l, 0 ≤ x ∧ x < 256
/-- bytes as a number, the highest first -/
def val (l : List Int) : Int := l.foldl (fun n c => n * 256 + c) 0
def far : Int := 9007199254740992
/-- the number that stands next, how many bytes it has, why there is none -/
def nx (l : List Int) : Int × Int × Int :=
  if l.length = 0 then (0, 0, 3) else if 7 < rd l 0 then (0, 0, 5) else if (l.length : Int) < 1 + rd l 0 then (0, 0, 3) else if 0 < rd l 0 ∧ rd l 1 = 0 then (0, 0, 5)
  else if far < val ((l.drop 1).take (rd l 0).toNat) then (0, 0, 6) else (val ((l.drop 1).take (rd l 0).toNat), 1 + rd l 0, 0)
set_option maxHeartbeats 400000 in
set_option maxRecDepth 100000 in
theorem next_0 (A : Option Addr) (c : Nat) (er : Int) (l : List Int) (w : World) (h0 : l.length = 0) :
    Calls Try.prog 26 #[.agg #[.slice A l.length c, .int .i64 er]] w fun e w' => e = .returned (.tuple #[.int .i64 0, .int .i64 0, .int .i64 3]) ∧ Below w.heap.size w w' := by
  have HBL := Aside0.mk (below_alloc (Below.refl w.heap.size w) (.cells #[.slice A l.length c, .int .i64 er] 30))
  rw [h0] at HBL ⊢
  go_enter Try.func26, Try.ntmps26
  go_wp2
  go_ret3
  exact ⟨rfl, HBL.out⟩
theorem add0 (ad : Addr) : ad.add 0 = ad := by unfold Addr.add; split <;> simp_all
set_option maxHeartbeats 400000 in
set_option maxRecDepth 100000 in
theorem next_1 (ad : Addr) (n c : Nat) (er x0 : Int) (w : World) (h0 : 0 < n) (hc : w.cell? ad = some (.int .u8 x0)) (hx0 : 0 ≤ x0) (hx1 : x0 < 256) (h7 : 7 < x0) :
    Calls Try.prog 26 #[.agg #[.slice (some ad) n c, .int .i64 er]] w fun e w' => e = .returned (.tuple #[.int .i64 0, .int .i64 0, .int .i64 5]) ∧ Below w.heap.size w w' := by
  have HBL := Aside0.mk (below_alloc (Below.refl w.heap.size w) (.cells #[.slice (some ad) n c, .int .i64 er] 30))
  have hc1 := (HBL.out.cell (World.block_lt_of_cell? w _ hc)).trans hc
  have b7 := decide_eq_true h7
  have hn0 : ((n : Int) == 0) = false := beq_eq_false_iff_ne.mpr (by omega)
  have hn : (0 < (n : Int)) := by omega
  go_enter Try.func26, Try.ntmps26
  go_wp2
  go_ret3
  exact ⟨rfl, HBL.out⟩
set_option maxHeartbeats 400000 in
set_option maxRecDepth 100000 in
theorem next_2 (ad : Addr) (n c : Nat) (er x0 : Int) (w : World) (h0 : 0 < n) (hc : w.cell? ad = some (.int .u8 x0)) (hx0 : 0 ≤ x0) (hx1 : x0 < 256) (h7 : ¬ 7 < x0) (hs : (n : Int) < 1 + x0) :
    Calls Try.prog 26 #[.agg #[.slice (some ad) n c, .int .i64 er]] w fun e w' => e = .returned (.tuple #[.int .i64 0, .int .i64 0, .int .i64 3]) ∧ Below w.heap.size w w' := by
  have HBL := Aside0.mk (below_alloc (Below.refl w.heap.size w) (.cells #[.slice (some ad) n c, .int .i64 er] 30))
  have hc1 := (HBL.out.cell (World.block_lt_of_cell? w _ hc)).trans hc
  have b7 := decide_eq_false h7
  have bs := decide_eq_true hs
  have hn0 : ((n : Int) == 0) = false := beq_eq_false_iff_ne.mpr (by omega)
  have hn : (0 < (n : Int)) := by omega
  go_enter Try.func26, Try.ntmps26
  go_wp2
  go_ret3
  exact ⟨rfl, HBL.out⟩
set_option maxHeartbeats 400000 in
set_option maxRecDepth 100000 in
theorem next_3 (ad : Addr) (n c : Nat) (er x0 : Int) (w : World) (hc : w.cell? ad = some (.int .u8 x0)) (hc2 : w.cell? ⟨ad.block, ad.off + 1, none⟩ = some (.int .u8 0)) (hx0 : 0 ≤ x0) (hx1 : x0 < 256) (h7 : ¬ 7 < x0) (hs : ¬ (n : Int) < 1 + x0) (hp : 0 < x0) :
    Calls Try.prog 26 #[.agg #[.slice (some ad) n c, .int .i64 er]] w fun e w' => e = .returned (.tuple #[.int .i64 0, .int .i64 0, .int .i64 5]) ∧ Below w.heap.size w w' := by
  have HBL := Aside0.mk (below_alloc (Below.refl w.heap.size w) (.cells #[.slice (some ad) n c, .int .i64 er] 30))
  have hc1 := (HBL.out.cell (World.block_lt_of_cell? w _ hc)).trans hc
  have hc3 := (HBL.out.cell (World.block_lt_of_cell? w _ hc2)).trans hc2
  have b7 := decide_eq_false h7
  have bs := decide_eq_false hs
  have bp := decide_eq_true hp
  have hn0 : ((n : Int) == 0) = false := beq_eq_false_iff_ne.mpr (by omega)
  have hn : (0 < (n : Int)) := by omega
  have hn1 : (1 < (n : Int)) := by omega
  go_enter Try.func26, Try.ntmps26
  go_wp2
  go_ret3
  exact ⟨rfl, HBL.out⟩
theorem w64 {n : Int} (h0 : -9223372036854775808 ≤ n) (h1 : n ≤ 9223372036854775807) : wrap64 n = n := by unfold wrap64; omega
theorem or_join (a b : Nat) (ha : a < 36028797018963968) (hb : b < 256) : Go.bits .or .i64 ((a : Int) * 256) (b : Int) = (a : Int) * 256 + b := by
  have h1 : (BitVec.ofInt 64 (((a * 256 : Nat)) : Int)).toNat = a * 256 := by
    rw [BitVec.ofInt_natCast, BitVec.toNat_ofNat]; exact Nat.mod_eq_of_lt (by omega)
  have h2 : (BitVec.ofInt 64 (b : Int)).toNat = b := by
    rw [BitVec.ofInt_natCast, BitVec.toNat_ofNat]; exact Nat.mod_eq_of_lt (by omega)
  have h3 : a * 256 ||| b = a * 256 + b := by
    rw [Nat.mul_comm, show 256 * a = 2 ^ 8 * a from rfl, ← Nat.two_pow_add_eq_or_of_lt (i := 8) hb]
  rw [show (a : Int) * 256 = ((a * 256 : Nat) : Int) by omega]
  show IntKind.i64.wrap ((BitVec.ofInt 64 (((a * 256 : Nat)) : Int) ||| BitVec.ofInt 64 (b : Int)).toNat : Int) = _
  rw [BitVec.toNat_or, h1, h2, h3, Go.IntWalk.i64_left, w64 (by omega) (by omega)]
  omega
theorem val_snoc (l : List Int) (x : Int) : val (l ++ [x]) = val l * 256 + x := by unfold val; rw [List.foldl_append]; rfl
theorem val_bound {l : List Int} (h : Bytes l) : 0 ≤ val l ∧ val l < 256 ^ l.length := by
  suffices ∀ n : Nat, n ≤ l.length → 0 ≤ val (l.take n) ∧ val (l.take n) < 256 ^ n by
    have := this l.length (Nat.le_refl _); rwa [List.take_length] at this
  intro n
  induction n with
  | zero => intro _; exact ⟨Int.le_refl _, by show (0 : Int) < 256 ^ 0; decide⟩
  | succ n ih =>
    intro hn
    obtain ⟨h0, h1⟩ := ih (by omega)
    rw [List.take_succ_eq_append_getElem (by omega), val_snoc]
    have hx := h _ (List.getElem_mem (show n < l.length by omega))
    rw [Int.pow_succ]
    constructor <;> omega
set_option maxHeartbeats 1000000 in
set_option maxRecDepth 100000 in
theorem next_4 (ad : Addr) (n c : Nat) (er x0 : Int) (w : World) (d : List Int) (hd : (d.length : Int) = x0) (hbd : Bytes d) (hc : w.cell? ad = some (.int .u8 x0)) (hx0 : 0 < x0) (hx1 : x0 < 256) (h7 : ¬ 7 < x0) (hs : ¬ (n : Int) < 1 + x0) (hnc : n ≤ c)
    (hcells : ∀ j, j < d.length → w.cell? ⟨ad.block, ad.off + 1 + j, none⟩ = some (.int .u8 (d.getD j 0))) (hf : d.getD 0 0 ≠ 0) (r : Array Value)
    (r1 : 9007199254740992 < val d → r = #[.int .i64 0, .int .i64 0, .int .i64 6]) (r2 : val d ≤ 9007199254740992 → r = #[.int .i64 (val d), .int .i64 (1 + x0), .int .i64 0]) :
    Calls Try.prog 26 #[.agg #[.slice (some ad) n c, .int .i64 er]] w fun e w' => e = .returned (.tuple r) ∧ Below w.heap.size w w' := by
  have hBL := below_alloc (Below.refl w.heap.size w) (.cells #[.slice (some ad) n c, .int .i64 er] 30)
  have HBL := Aside0.mk hBL
  have hcell : ∀ {p : Addr} {v : Value}, w.cell? p = some v → (w.alloc (.cells #[.slice (some ad) n c, .int .i64 er] 30)).cell? p = some v := fun h => (hBL.cell (World.block_lt_of_cell? w _ h)).trans h
  have hc1 := hcell hc
  have hc3 := hcell (hcells 0 (by omega))
  rw [Nat.add_zero] at hc3
  have HCS : Aside0 (∀ j, j < d.length → (w.alloc (.cells #[.slice (some ad) n c, .int .i64 er] 30)).cell? ⟨ad.block, ad.off + 1 + j, none⟩ = some (.int .u8 (d.getD j 0))) := ⟨fun j hj => hcell (hcells j hj)⟩
  have hf2 : (d.getD 0 0 == 0) = false := beq_eq_false_iff_ne.mpr hf
  have b7 := decide_eq_false h7
  have bs := decide_eq_false hs
  have bp := decide_eq_true hx0
  have hn0 : ((n : Int) == 0) = false := beq_eq_false_iff_ne.mpr (by omega)
  have hn : (0 < (n : Int)) := by omega
  have hn1 : (1 < (n : Int)) := by omega
  have hle : 1 + x0 ≤ (c : Int) := by omega
  have hc1' : ¬ c = 1 := by omega
  have HBD := Aside0.mk hbd
  have HD := Aside0.mk hd
  have HR1 := Aside0.mk r1
  have HR2 := Aside0.mk r2
  clear r1 r2
  clear hcell hBL hcells hf hc hbd hd
  generalize d.getD 0 0 = x1 at *
  go_enter Try.func26, Try.ntmps26
  go_wp2
  have hx := HD.out
  rw [show (1 + x0).toNat - 1 = d.length by omega]
  clear hc3 hf2 b7 bs bp hn0 hle hc1' hc1
  have hdl : d.length ≤ 7 := by omega
  generalize w.alloc (.cells #[.slice (some ad) n c, .int .i64 er] 30) = w1 at *
  go_loop [6, 41] (fun v6 v41 => ∃ (i : Nat), i ≤ d.length ∧ v41 = .int .i64 i ∧ v6 = .int .i64 (val (d.take i))) (fun _ v41 => d.length - (intOf v41).toNat)
  case atStart => exact ⟨0, by omega, rfl, rfl⟩
  case round =>
    obtain ⟨i, hi, rfl, rfl⟩ := hrel
    by_cases hlt : i < d.length
    · have hltb : decide ((i : Int) < (d.length : Int)) = true := decide_eq_true (by omega)
      have hk := HCS.out i hlt
      have hst : val (d.take (i + 1)) = val (d.take i) * 256 + d.getD i 0 := by
        rw [List.take_succ_eq_append_getElem hlt, val_snoc, List.getD_eq_getElem?_getD, List.getElem?_eq_getElem hlt]; rfl
      have hby := HBD.out _ (List.getElem_mem hlt)
      have hge : d.getD i 0 = d[i] := by rw [List.getD_eq_getElem?_getD, List.getElem?_eq_getElem hlt]; rfl
      rw [← hge] at hby
      have hvb := val_bound (l := d.take i) (fun x hx => HBD.out x (List.mem_of_mem_take hx))
      have hp : (256 : Int) ^ (d.take i).length ≤ 256 ^ 6 := by
        rw [List.length_take, show min i d.length = i by omega]
        have := Nat.pow_le_pow_right (n := 256) (by omega) (show i ≤ 6 by omega)
        exact_mod_cast this
      have h6 : (256 : Int) ^ 6 = 281474976710656 := by decide
      obtain ⟨a, ha⟩ : ∃ a : Nat, val (d.take i) = a := ⟨_, (Int.toNat_of_nonneg hvb.1).symm⟩
      obtain ⟨b, hb⟩ : ∃ b : Nat, d.getD i 0 = b := ⟨_, (Int.toNat_of_nonneg hby.1).symm⟩
      have hab : a < 281474976710656 := by omega
      rw [hb] at hk hst hby
      rw [ha] at hst ⊢
      have HS := Aside0.mk hst
      have hor := or_join a b (by omega) (by omega)
      clear hst hvb hp h6 ha hb hge
      go_wp2
      go_round
      case rel => exact ⟨i + 1, by omega, by go_num, by rw [HS.out]⟩
      case measure => simp [intOf]; omega
    · have hie : i = d.length := by omega
      subst hie
      have hltb : decide ((d.length : Int) < (d.length : Int)) = false := decide_eq_false (by omega)
      rw [List.take_length]
      by_cases hfar : (9007199254740992 : Int) < val d
      · have bf := decide_eq_true hfar
        obtain rfl := HR1.out hfar
        clear HR1 HR2

        go_wp2
        go_ret3
        exact ⟨rfl, HBL.out⟩
      · have bf := decide_eq_false hfar
        obtain rfl := HR2.out (by omega)
        clear HR1 HR2

        go_wp2
        go_ret3
        exact ⟨rfl, HBL.out⟩
set_option maxHeartbeats 1000000 in
set_option maxRecDepth 100000 in
theorem next_5 (ad : Addr) (n c : Nat) (er : Int) (w : World) (hc : w.cell? ad = some (.int .u8 0)) (h0 : 0 < n) (hnc : n ≤ c) :
    Calls Try.prog 26 #[.agg #[.slice (some ad) n c, .int .i64 er]] w fun e w' => e = .returned (.tuple #[.int .i64 0, .int .i64 1, .int .i64 0]) ∧ Below w.heap.size w w' := by
  have hBL := below_alloc (Below.refl w.heap.size w) (.cells #[.slice (some ad) n c, .int .i64 er] 30)
  have HBL := Aside0.mk hBL
  have hc1 := (hBL.cell (World.block_lt_of_cell? w _ hc)).trans hc
  have hn0 : ((n : Int) == 0) = false := beq_eq_false_iff_ne.mpr (by omega)
  have hn : (0 < (n : Int)) := by omega
  have bs : decide ((n : Int) < 1) = false := decide_eq_false (by omega)
  have hle : (1 : Int) ≤ (c : Int) := by omega
  clear hBL hc
  go_enter Try.func26, Try.ntmps26
  go_wp2
  all_goals
    go_loop [6, 41] (fun v6 v41 => v6 = .int .i64 0 ∧ v41 = .int .i64 0) (fun _ _ => 0)
    case atStart => exact ⟨rfl, rfl⟩
    case round =>
      obtain ⟨rfl, rfl⟩ := hrel
      go_wp2
      go_ret3
      exact ⟨rfl, below_alloc (Below.refl _ _) _⟩
theorem rd_mem {l : List Int} (hb : Bytes l) {i : Int} (h0 : 0 ≤ i) (h1 : i < l.length) : 0 ≤ rd l i ∧ rd l i < 256 := by
  have h : rd l i = l[i.toNat]'(by omega) := by
    show l.getD i.toNat 0 = _
    rw [List.getD_eq_getElem?_getD, List.getElem?_eq_getElem (by omega)]; rfl
  rw [h]; exact hb _ (List.getElem_mem _)
theorem next_calls (A : Option Addr) (c : Nat) (er : Int) (l : List Int) (w : World) (hr : Kd.C (Kd.int .u8) w A l.length l) (hc : l.length ≤ c) (hb : Bytes l) :
    Calls Try.prog 26 #[.agg #[.slice A l.length c, .int .i64 er]] w fun e w' => e = .returned (.tuple #[.int .i64 (nx l).1, .int .i64 (nx l).2.1, .int .i64 (nx l).2.2]) ∧ Below w.heap.size w w' := by
  unfold nx
  by_cases h0 : l.length = 0
  · rw [if_pos h0]; exact next_0 A c er l w h0
  rw [if_neg h0]
  obtain ⟨ad, rfl, hc0⟩ := Kd.at_int hr 0 (by omega) (by omega)
  rw [show (0 : Int).toNat = 0 from rfl, add0] at hc0
  obtain ⟨b0, b1⟩ := rd_mem hb (i := 0) (by omega) (by omega)
  by_cases h7 : 7 < rd l 0
  · rw [if_pos h7]; exact next_1 ad l.length c er _ w (by omega) hc0 b0 b1 h7
  rw [if_neg h7]
  by_cases hs : (l.length : Int) < 1 + rd l 0
  · rw [if_pos hs]; exact next_2 ad l.length c er _ w (by omega) hc0 b0 b1 h7 hs
  rw [if_neg hs]
  have hcell : ∀ i : Nat, 1 + i < l.length → w.cell? ⟨ad.block, ad.off + 1 + i, none⟩ = some (.int .u8 (rd l (1 + i))) := by
    intro i hi
    obtain ⟨ad', e, h⟩ := Kd.at_int hr (1 + i) (by omega) (by omega)
    injection e with e; subst e
    rw [show (1 + (i : Int)).toNat = i + 1 by omega] at h
    rw [← h]
    unfold Addr.add
    rw [if_neg (by omega)]
    congr 2
    omega
  by_cases hp : 0 < rd l 0
  · by_cases hz : rd l 1 = 0
    · rw [if_pos ⟨hp, hz⟩]
      refine next_3 ad l.length c er _ w hc0 ?_ b0 b1 h7 hs hp
      have := hcell 0 (by omega)
      rw [show (1 : Int) + ((0 : Nat) : Int) = 1 by rfl, hz] at this
      exact this
    · rw [if_neg (fun h => hz h.2)]
      have hl : ((l.drop 1).take (rd l 0).toNat).length = (rd l 0).toNat := by rw [List.length_take, List.length_drop]; omega
      have hget : ∀ j, j < (rd l 0).toNat → ((l.drop 1).take (rd l 0).toNat).getD j 0 = rd l (1 + j) := by
        intro j hj
        show _ = l.getD (1 + (j : Int)).toNat 0
        rw [show (1 + (j : Int)).toNat = 1 + j by omega, List.getD_eq_getElem?_getD, List.getD_eq_getElem?_getD, List.getElem?_take, if_pos hj, List.getElem?_drop]
      have hf0 := hget 0 (by omega)
      generalize hd : (l.drop 1).take (rd l 0).toNat = d at *
      refine next_4 ad l.length c er _ w d (by omega) ?_ hc0 hp b1 h7 hs hc (fun j hj => ?_) ?_ _ (fun hv => ?_) (fun hv => ?_)
      · intro x hx; exact hb x (List.mem_of_mem_drop (List.mem_of_mem_take (hd ▸ hx)))
      · rw [hget j (by omega)]; exact hcell j (by omega)
      · rw [hf0]; exact hz
      · rw [if_pos (show far < val d from hv)]
      · rw [if_neg (show ¬ far < val d from by unfold far; omega)]
  · obtain h00 : rd l 0 = 0 := by omega
    rw [if_neg (fun h => hp h.1), h00]
    rw [h00] at hc0
    have hv : val (List.take (0 : Int).toNat (List.drop 1 l)) = 0 := rfl
    rw [hv, if_neg (by unfold far; omega)]
    exact next_5 ad l.length c er w hc0 (by omega) hc
end Go.Proofs.Yteonbbfegnjjeaa.Law
