/- The walks of codec.Scan: next, Number, Fixed, Text, ID; what each tells of bytes. -/
import Derived.Test.YthpgbhpnlnpfnaaDoorQ4
import Derived.StillTailTactics
import Derived.RegionTactic
import Derived.BigRegion
import Derived.Deep.DeepMust
import Derived.Deep.RegionHeld3

namespace Go.Proofs.YthpgbhpnlnpfnaaDoor.Law
open Go.RowKit Go.Proofs.YthpgbhpnlnpfnaaDoor Go.Proofs.YthpgbhpnlnpfnaaDoorW.PrintWords Go.Proofs.YthpgbhpnlnpfnaaDoorW.PrintLast Go.Proofs.YthpgbhpnlnpfnaaDoorW.PrintMore
def Bytes (l : List Int) : Prop := ∀ x ∈ l, 0 ≤ x ∧ x < 256
/-- bytes as a number, the highest first -/
def val (l : List Int) : Int := l.foldl (fun n c => n * 256 + c) 0
def far : Int := 9007199254740992
/-- the number that stands next, how many bytes it has, why there is none -/
def nx (l : List Int) : Int × Int × Int :=
  if l.length = 0 then (0, 0, 3) else if 7 < rd l 0 then (0, 0, 5) else if (l.length : Int) < 1 + rd l 0 then (0, 0, 3) else if 0 < rd l 0 ∧ rd l 1 = 0 then (0, 0, 5)
  else if far < val ((l.drop 1).take (rd l 0).toNat) then (0, 0, 6) else (val ((l.drop 1).take (rd l 0).toNat), 1 + rd l 0, 0)
set_option maxHeartbeats 400000 in
set_option maxRecDepth 100000 in
theorem next_0 (A : Option Addr) (c : Nat) (er : Int) (l : List Int) (w : World) (h0 : l.length = 0) :
    Calls Tryd.prog 65 #[.agg #[.slice A l.length c, .int .i64 er]] w fun e w' => e = .returned (.tuple #[.int .i64 0, .int .i64 0, .int .i64 3]) ∧ Below w.heap.size w w' := by
  have HBL := Aside0.mk (below_alloc (Below.refl w.heap.size w) (.cells #[.slice A l.length c, .int .i64 er] 82))
  rw [h0] at HBL ⊢
  go_enter Tryd.func65, Tryd.ntmps65
  go_wp2
  go_ret3
  exact ⟨rfl, HBL.out⟩
theorem add0 (ad : Addr) : ad.add 0 = ad := by unfold Addr.add; split <;> simp_all
set_option maxHeartbeats 400000 in
set_option maxRecDepth 100000 in
theorem next_1 (ad : Addr) (n c : Nat) (er x0 : Int) (w : World) (h0 : 0 < n) (hc : w.cell? ad = some (.int .u8 x0)) (hx0 : 0 ≤ x0) (hx1 : x0 < 256) (h7 : 7 < x0) :
    Calls Tryd.prog 65 #[.agg #[.slice (some ad) n c, .int .i64 er]] w fun e w' => e = .returned (.tuple #[.int .i64 0, .int .i64 0, .int .i64 5]) ∧ Below w.heap.size w w' := by
  have HBL := Aside0.mk (below_alloc (Below.refl w.heap.size w) (.cells #[.slice (some ad) n c, .int .i64 er] 82))
  have hc1 := (HBL.out.cell (World.block_lt_of_cell? w _ hc)).trans hc
  have b7 := decide_eq_true h7
  have hn0 : ((n : Int) == 0) = false := beq_eq_false_iff_ne.mpr (by omega)
  have hn : (0 < (n : Int)) := by omega
  go_enter Tryd.func65, Tryd.ntmps65
  go_wp2
  go_ret3
  exact ⟨rfl, HBL.out⟩
set_option maxHeartbeats 400000 in
set_option maxRecDepth 100000 in
theorem next_2 (ad : Addr) (n c : Nat) (er x0 : Int) (w : World) (h0 : 0 < n) (hc : w.cell? ad = some (.int .u8 x0)) (hx0 : 0 ≤ x0) (hx1 : x0 < 256) (h7 : ¬ 7 < x0) (hs : (n : Int) < 1 + x0) :
    Calls Tryd.prog 65 #[.agg #[.slice (some ad) n c, .int .i64 er]] w fun e w' => e = .returned (.tuple #[.int .i64 0, .int .i64 0, .int .i64 3]) ∧ Below w.heap.size w w' := by
  have HBL := Aside0.mk (below_alloc (Below.refl w.heap.size w) (.cells #[.slice (some ad) n c, .int .i64 er] 82))
  have hc1 := (HBL.out.cell (World.block_lt_of_cell? w _ hc)).trans hc
  have b7 := decide_eq_false h7
  have bs := decide_eq_true hs
  have hn0 : ((n : Int) == 0) = false := beq_eq_false_iff_ne.mpr (by omega)
  have hn : (0 < (n : Int)) := by omega
  go_enter Tryd.func65, Tryd.ntmps65
  go_wp2
  go_ret3
  exact ⟨rfl, HBL.out⟩
set_option maxHeartbeats 400000 in
set_option maxRecDepth 100000 in
theorem next_3 (ad : Addr) (n c : Nat) (er x0 : Int) (w : World) (hc : w.cell? ad = some (.int .u8 x0)) (hc2 : w.cell? ⟨ad.block, ad.off + 1, none⟩ = some (.int .u8 0)) (hx0 : 0 ≤ x0) (hx1 : x0 < 256) (h7 : ¬ 7 < x0) (hs : ¬ (n : Int) < 1 + x0) (hp : 0 < x0) :
    Calls Tryd.prog 65 #[.agg #[.slice (some ad) n c, .int .i64 er]] w fun e w' => e = .returned (.tuple #[.int .i64 0, .int .i64 0, .int .i64 5]) ∧ Below w.heap.size w w' := by
  have HBL := Aside0.mk (below_alloc (Below.refl w.heap.size w) (.cells #[.slice (some ad) n c, .int .i64 er] 82))
  have hc1 := (HBL.out.cell (World.block_lt_of_cell? w _ hc)).trans hc
  have hc3 := (HBL.out.cell (World.block_lt_of_cell? w _ hc2)).trans hc2
  have b7 := decide_eq_false h7
  have bs := decide_eq_false hs
  have bp := decide_eq_true hp
  have hn0 : ((n : Int) == 0) = false := beq_eq_false_iff_ne.mpr (by omega)
  have hn : (0 < (n : Int)) := by omega
  have hn1 : (1 < (n : Int)) := by omega
  go_enter Tryd.func65, Tryd.ntmps65
  go_wp2
  go_ret3
  exact ⟨rfl, HBL.out⟩
theorem w64 {n : Int} (h0 : -9223372036854775808 ≤ n) (h1 : n ≤ 9223372036854775807) : wrap64 n = n := by unfold wrap64; omega
theorem or_join (a b : Nat) (ha : a < 36028797018963968) (hb : b < 256) : Go.bits .or .i64 ((a : Int) * 256) (b : Int) = (a : Int) * 256 + b := by
  have h1 : (BitVec.ofInt 64 (((a * 256 : Nat)) : Int)).toNat = a * 256 := by
    rw [BitVec.ofInt_natCast, BitVec.toNat_ofNat]; exact Nat.mod_eq_of_lt (by omega)
  have h2 : (BitVec.ofInt 64 (b : Int)).toNat = b := by
    rw [BitVec.ofInt_natCast, BitVec.toNat_ofNat]; exact Nat.mod_eq_of_lt (by omega)
  have h3 : a * 256 ||| b = a * 256 + b := by
    rw [Nat.mul_comm, show 256 * a = 2 ^ 8 * a from rfl, ← Nat.two_pow_add_eq_or_of_lt (i := 8) hb]
  rw [show (a : Int) * 256 = ((a * 256 : Nat) : Int) by omega]
  show IntKind.i64.wrap ((BitVec.ofInt 64 (((a * 256 : Nat)) : Int) ||| BitVec.ofInt 64 (b : Int)).toNat : Int) = _
  rw [BitVec.toNat_or, h1, h2, h3, Go.IntWalk.i64_left, w64 (by omega) (by omega)]
  omega
theorem val_snoc (l : List Int) (x : Int) : val (l ++ [x]) = val l * 256 + x := by unfold val; rw [List.foldl_append]; rfl
theorem val_bound {l : List Int} (h : Bytes l) : 0 ≤ val l ∧ val l < 256 ^ l.length := by
  suffices ∀ n : Nat, n ≤ l.length → 0 ≤ val (l.take n) ∧ val (l.take n) < 256 ^ n by
    have := this l.length (Nat.le_refl _); rwa [List.take_length] at this
  intro n
  induction n with
  | zero => intro _; exact ⟨Int.le_refl _, by show (0 : Int) < 256 ^ 0; decide⟩
  | succ n ih =>
    intro hn
    obtain ⟨h0, h1⟩ := ih (by omega)
    rw [List.take_succ_eq_append_getElem (by omega), val_snoc]
    have hx := h _ (List.getElem_mem (show n < l.length by omega))
    rw [Int.pow_succ]
    constructor <;> omega
set_option maxHeartbeats 1000000 in
set_option maxRecDepth 100000 in
theorem next_4 (ad : Addr) (n c : Nat) (er x0 : Int) (w : World) (d : List Int) (hd : (d.length : Int) = x0) (hbd : Bytes d) (hc : w.cell? ad = some (.int .u8 x0)) (hx0 : 0 < x0) (hx1 : x0 < 256) (h7 : ¬ 7 < x0) (hs : ¬ (n : Int) < 1 + x0) (hnc : n ≤ c)
    (hcells : ∀ j, j < d.length → w.cell? ⟨ad.block, ad.off + 1 + j, none⟩ = some (.int .u8 (d.getD j 0))) (hf : d.getD 0 0 ≠ 0) (r : Array Value)
    (r1 : 9007199254740992 < val d → r = #[.int .i64 0, .int .i64 0, .int .i64 6]) (r2 : val d ≤ 9007199254740992 → r = #[.int .i64 (val d), .int .i64 (1 + x0), .int .i64 0]) :
    Calls Tryd.prog 65 #[.agg #[.slice (some ad) n c, .int .i64 er]] w fun e w' => e = .returned (.tuple r) ∧ Below w.heap.size w w' := by
  have hBL := below_alloc (Below.refl w.heap.size w) (.cells #[.slice (some ad) n c, .int .i64 er] 82)
  have HBL := Aside0.mk hBL
  have hcell : ∀ {p : Addr} {v : Value}, w.cell? p = some v → (w.alloc (.cells #[.slice (some ad) n c, .int .i64 er] 82)).cell? p = some v := fun h => (hBL.cell (World.block_lt_of_cell? w _ h)).trans h
  have hc1 := hcell hc
  have hc3 := hcell (hcells 0 (by omega))
  rw [Nat.add_zero] at hc3
  have HCS : Aside0 (∀ j, j < d.length → (w.alloc (.cells #[.slice (some ad) n c, .int .i64 er] 82)).cell? ⟨ad.block, ad.off + 1 + j, none⟩ = some (.int .u8 (d.getD j 0))) := ⟨fun j hj => hcell (hcells j hj)⟩
  have hf2 : (d.getD 0 0 == 0) = false := beq_eq_false_iff_ne.mpr hf
  have b7 := decide_eq_false h7
  have bs := decide_eq_false hs
  have bp := decide_eq_true hx0
  have hn0 : ((n : Int) == 0) = false := beq_eq_false_iff_ne.mpr (by omega)
  have hn : (0 < (n : Int)) := by omega
  have hn1 : (1 < (n : Int)) := by omega
  have hle : 1 + x0 ≤ (c : Int) := by omega
  have hc1' : ¬ c = 1 := by omega
  have HBD := Aside0.mk hbd
  have HD := Aside0.mk hd
  have HR1 := Aside0.mk r1
  have HR2 := Aside0.mk r2
  clear r1 r2
  clear hcell hBL hcells hf hc hbd hd
  generalize d.getD 0 0 = x1 at *
  go_enter Tryd.func65, Tryd.ntmps65
  go_wp2
  have hx := HD.out
  rw [show (1 + x0).toNat - 1 = d.length by omega]
  clear hc3 hf2 b7 bs bp hn0 hle hc1' hc1
  have hdl : d.length ≤ 7 := by omega
  generalize w.alloc (.cells #[.slice (some ad) n c, .int .i64 er] 82) = w1 at *
  go_loop [6, 41] (fun v6 v41 => ∃ (i : Nat), i ≤ d.length ∧ v41 = .int .i64 i ∧ v6 = .int .i64 (val (d.take i))) (fun _ v41 => d.length - (intOf v41).toNat)
  case atStart => exact ⟨0, by omega, rfl, rfl⟩
  case round =>
    obtain ⟨i, hi, rfl, rfl⟩ := hrel
    by_cases hlt : i < d.length
    · have hltb : decide ((i : Int) < (d.length : Int)) = true := decide_eq_true (by omega)
      have hk := HCS.out i hlt
      have hst : val (d.take (i + 1)) = val (d.take i) * 256 + d.getD i 0 := by
        rw [List.take_succ_eq_append_getElem hlt, val_snoc, List.getD_eq_getElem?_getD, List.getElem?_eq_getElem hlt]; rfl
      have hby := HBD.out _ (List.getElem_mem hlt)
      have hge : d.getD i 0 = d[i] := by rw [List.getD_eq_getElem?_getD, List.getElem?_eq_getElem hlt]; rfl
      rw [← hge] at hby
      have hvb := val_bound (l := d.take i) (fun x hx => HBD.out x (List.mem_of_mem_take hx))
      have hp : (256 : Int) ^ (d.take i).length ≤ 256 ^ 6 := by
        rw [List.length_take, show min i d.length = i by omega]
        have := Nat.pow_le_pow_right (n := 256) (by omega) (show i ≤ 6 by omega)
        exact_mod_cast this
      have h6 : (256 : Int) ^ 6 = 281474976710656 := by decide
      obtain ⟨a, ha⟩ : ∃ a : Nat, val (d.take i) = a := ⟨_, (Int.toNat_of_nonneg hvb.1).symm⟩
      obtain ⟨b, hb⟩ : ∃ b : Nat, d.getD i 0 = b := ⟨_, (Int.toNat_of_nonneg hby.1).symm⟩
      have hab : a < 281474976710656 := by omega
      rw [hb] at hk hst hby
      rw [ha] at hst ⊢
      have HS := Aside0.mk hst
      have hor := or_join a b (by omega) (by omega)
      clear hst hvb hp h6 ha hb hge
      go_wp2
      go_round
      case rel => exact ⟨i + 1, by omega, by go_num, by rw [HS.out]⟩
      case measure => simp [intOf]; omega
    · have hie : i = d.length := by omega
      subst hie
      have hltb : decide ((d.length : Int) < (d.length : Int)) = false := decide_eq_false (by omega)
      rw [List.take_length]
      by_cases hfar : (9007199254740992 : Int) < val d
      · have bf := decide_eq_true hfar
        obtain rfl := HR1.out hfar
        clear HR1 HR2

        go_wp2
        go_ret3
        exact ⟨rfl, HBL.out⟩
      · have bf := decide_eq_false hfar
        obtain rfl := HR2.out (by omega)
        clear HR1 HR2

        go_wp2
        go_ret3
        exact ⟨rfl, HBL.out⟩
set_option maxHeartbeats 1000000 in
set_option maxRecDepth 100000 in
theorem next_5 (ad : Addr) (n c : Nat) (er : Int) (w : World) (hc : w.cell? ad = some (.int .u8 0)) (h0 : 0 < n) (hnc : n ≤ c) :
    Calls Tryd.prog 65 #[.agg #[.slice (some ad) n c, .int .i64 er]] w fun e w' => e = .returned (.tuple #[.int .i64 0, .int .i64 1, .int .i64 0]) ∧ Below w.heap.size w w' := by
  have hBL := below_alloc (Below.refl w.heap.size w) (.cells #[.slice (some ad) n c, .int .i64 er] 82)
  have HBL := Aside0.mk hBL
  have hc1 := (hBL.cell (World.block_lt_of_cell? w _ hc)).trans hc
  have hn0 : ((n : Int) == 0) = false := beq_eq_false_iff_ne.mpr (by omega)
  have hn : (0 < (n : Int)) := by omega
  have bs : decide ((n : Int) < 1) = false := decide_eq_false (by omega)
  have hle : (1 : Int) ≤ (c : Int) := by omega
  clear hBL hc
  go_enter Tryd.func65, Tryd.ntmps65
  go_wp2
  all_goals
    go_loop [6, 41] (fun v6 v41 => v6 = .int .i64 0 ∧ v41 = .int .i64 0) (fun _ _ => 0)
    case atStart => exact ⟨rfl, rfl⟩
    case round =>
      obtain ⟨rfl, rfl⟩ := hrel
      go_wp2
      go_ret3
      exact ⟨rfl, below_alloc (Below.refl _ _) _⟩
theorem rd_mem {l : List Int} (hb : Bytes l) {i : Int} (h0 : 0 ≤ i) (h1 : i < l.length) : 0 ≤ rd l i ∧ rd l i < 256 := by
  have h : rd l i = l[i.toNat]'(by omega) := by
    show l.getD i.toNat 0 = _
    rw [List.getD_eq_getElem?_getD, List.getElem?_eq_getElem (by omega)]; rfl
  rw [h]; exact hb _ (List.getElem_mem _)
theorem next_calls (A : Option Addr) (c : Nat) (er : Int) (l : List Int) (w : World) (hr : Kd.C (Kd.int .u8) w A l.length l) (hc : l.length ≤ c) (hb : Bytes l) :
    Calls Tryd.prog 65 #[.agg #[.slice A l.length c, .int .i64 er]] w fun e w' => e = .returned (.tuple #[.int .i64 (nx l).1, .int .i64 (nx l).2.1, .int .i64 (nx l).2.2]) ∧ Below w.heap.size w w' := by
  unfold nx
  by_cases h0 : l.length = 0
  · rw [if_pos h0]; exact next_0 A c er l w h0
  rw [if_neg h0]
  obtain ⟨ad, rfl, hc0⟩ := Kd.at_int hr 0 (by omega) (by omega)
  rw [show (0 : Int).toNat = 0 from rfl, add0] at hc0
  obtain ⟨b0, b1⟩ := rd_mem hb (i := 0) (by omega) (by omega)
  by_cases h7 : 7 < rd l 0
  · rw [if_pos h7]; exact next_1 ad l.length c er _ w (by omega) hc0 b0 b1 h7
  rw [if_neg h7]
  by_cases hs : (l.length : Int) < 1 + rd l 0
  · rw [if_pos hs]; exact next_2 ad l.length c er _ w (by omega) hc0 b0 b1 h7 hs
  rw [if_neg hs]
  have hcell : ∀ i : Nat, 1 + i < l.length → w.cell? ⟨ad.block, ad.off + 1 + i, none⟩ = some (.int .u8 (rd l (1 + i))) := by
    intro i hi
    obtain ⟨ad', e, h⟩ := Kd.at_int hr (1 + i) (by omega) (by omega)
    injection e with e; subst e
    rw [show (1 + (i : Int)).toNat = i + 1 by omega] at h
    rw [← h]
    unfold Addr.add
    rw [if_neg (by omega)]
    congr 2
    omega
  by_cases hp : 0 < rd l 0
  · by_cases hz : rd l 1 = 0
    · rw [if_pos ⟨hp, hz⟩]
      refine next_3 ad l.length c er _ w hc0 ?_ b0 b1 h7 hs hp
      have := hcell 0 (by omega)
      rw [show (1 : Int) + ((0 : Nat) : Int) = 1 by rfl, hz] at this
      exact this
    · rw [if_neg (fun h => hz h.2)]
      have hl : ((l.drop 1).take (rd l 0).toNat).length = (rd l 0).toNat := by rw [List.length_take, List.length_drop]; omega
      have hget : ∀ j, j < (rd l 0).toNat → ((l.drop 1).take (rd l 0).toNat).getD j 0 = rd l (1 + j) := by
        intro j hj
        show _ = l.getD (1 + (j : Int)).toNat 0
        rw [show (1 + (j : Int)).toNat = 1 + j by omega, List.getD_eq_getElem?_getD, List.getD_eq_getElem?_getD, List.getElem?_take, if_pos hj, List.getElem?_drop]
      have hf0 := hget 0 (by omega)
      generalize hd : (l.drop 1).take (rd l 0).toNat = d at *
      refine next_4 ad l.length c er _ w d (by omega) ?_ hc0 hp b1 h7 hs hc (fun j hj => ?_) ?_ _ (fun hv => ?_) (fun hv => ?_)
      · intro x hx; exact hb x (List.mem_of_mem_drop (List.mem_of_mem_take (hd ▸ hx)))
      · rw [hget j (by omega)]; exact hcell j (by omega)
      · rw [hf0]; exact hz
      · rw [if_pos (show far < val d from hv)]
      · rw [if_neg (show ¬ far < val d from by unfold far; omega)]
  · obtain h00 : rd l 0 = 0 := by omega
    rw [if_neg (fun h => hp h.1), h00]
    rw [h00] at hc0
    have hv : val (List.take (0 : Int).toNat (List.drop 1 l)) = 0 := rfl
    rw [hv, if_neg (by unfold far; omega)]
    exact next_5 ad l.length c er w hc0 (by omega) hc
end Go.Proofs.YthpgbhpnlnpfnaaDoor.Law

namespace Go.Proofs.YthpgbhpnlnpfnaaDoor.Law
open Go.RowKit Go.Proofs.YthpgbhpnlnpfnaaDoor Go.Proofs.YthpgbhpnlnpfnaaDoorW.PrintWords Go.Proofs.YthpgbhpnlnpfnaaDoorW.PrintLast Go.Proofs.YthpgbhpnlnpfnaaDoorW.PrintMore
theorem results_tmp_cell_row {P : Program} {fn : Func} {p u : Tmp} {ty : TypeId} (h : fn.results = #[.tmp u, .cell p ty]) (tmps : Array Value) (w : World) (g : Nat) (t : TypeId) (cs : Array Value) (fr : Nat × Nat) (d : TypeDesc)
    (hp : tmps.getD p undef = .pointer (some ⟨g, 0, none⟩)) (hg : w.heap[g]? = some (.cells cs t fr))
    (hu : P.underlying ty = some d) (hd : (match d with | .struct _ | .array _ _ => true | _ => false) = true) (hi : (P.info? ty).map (·.size) = some cs.size) :
    (results fn tmps).run P w = .ok (.tuple #[tmps.getD u undef, .agg cs]) w := by
  have hp' : tmps[p]?.getD undef = .pointer (some ⟨g, 0, none⟩) := by simpa using hp
  simp [results, h, hp', asAddr, Result.andThen, run_loadVar_row w g t ty cs fr d hg hu hd hi]
set_option maxHeartbeats 400000 in
set_option maxRecDepth 100000 in
theorem fail_calls (A : Option Addr) (n c : Nat) (er e : Int) (w : World) :
    Calls Tryd.prog 66 #[.agg #[.slice A n c, .int .i64 er], .int .i64 e] w fun x w' => x = .returned (.agg #[.slice A n c, .int .i64 (if er = 0 then e else er)]) ∧ Below w.heap.size w w' := by
  have HBL := Aside0.mk (Below.refl w.heap.size w)
  by_cases he : er = 0
  · subst he
    go_enter Tryd.func66, Tryd.ntmps66
    go_wp2
    exact bodyPost_ret (results_cell_row rfl _ _ (w.heap.size + 1) 82 _ (0, 0) _ rfl (heap_alloc2_new _ _ _) Tryd.underlying82 rfl (by kernel_rfl)) rfl ⟨rfl, below_alloc (below_alloc HBL.out _) _⟩
  · have he1 : (er == 0) = false := beq_eq_false_iff_ne.mpr he
    rw [if_neg he]
    go_enter Tryd.func66, Tryd.ntmps66
    go_wp2
    exact bodyPost_ret (results_cell_row rfl _ _ (w.heap.size + 1) 82 _ (0, 0) _ rfl (heap_alloc2_new _ _ _) Tryd.underlying82 rfl (by kernel_rfl)) rfl ⟨rfl, below_alloc (below_alloc HBL.out _) _⟩
theorem fail_calls0 (A : Option Addr) (n c : Nat) (e : Int) (w : World) :
    Calls Tryd.prog 66 #[.agg #[.slice A n c, .int .i64 0], .int .i64 e] w fun x w' => x = .returned (.agg #[.slice A n c, .int .i64 e]) ∧ Below w.heap.size w w' := fail_calls A n c 0 e w
/-- a scan: bytes that are read, an error -/
def Scn (w : World) (v : Value) (l : List Int) (er : Int) : Prop := ∃ A c, v = .agg #[.slice A l.length c, .int .i64 er] ∧ Kd.C (Kd.int .u8) w A l.length l ∧ l.length ≤ c ∧ Bytes l
theorem Scn.below {w w' : World} {v : Value} {l : List Int} {er : Int} (h : Scn w v l er) (hb : Below w.heap.size w w') : Scn w' v l er := by
  obtain ⟨A, c, e, h1, h2, h3⟩ := h
  exact ⟨A, c, e, Kd.C_below h1 hb, h2, h3⟩
theorem bytes_drop {l : List Int} (h : Bytes l) (k : Nat) : Bytes (l.drop k) := fun x hx => h x (List.mem_of_mem_drop hx)
theorem scn_drop {w : World} {ad : Addr} {c k : Nat} {l : List Int} (h : Kd.C (Kd.int .u8) w (some ad) l.length l) (hk : k ≤ l.length) (hc : l.length ≤ c) (hb : Bytes l) (e : ¬ c = k) :
    Scn w (.agg #[.slice (some (ad.add k)) (l.length - k) (c - k), .int .i64 0]) (l.drop k) 0 := by
  have hd := Kd.C_drop h hk hc
  rw [if_neg e] at hd
  have hl : (l.drop k).length = l.length - k := List.length_drop
  refine ⟨some (ad.add k), c - k, by rw [hl], ?_, by omega, bytes_drop hb k⟩
  rwa [show (Kd.int IntKind.u8).sz = 1 from rfl, Nat.mul_one] at hd
theorem scn_drop_all {w : World} {ad : Addr} {k : Nat} {l : List Int} (h : Kd.C (Kd.int .u8) w (some ad) l.length l) (hk : k ≤ l.length) (hc : l.length ≤ k) (hb : Bytes l) :
    Scn w (.agg #[.slice (some ad) (l.length - k) 0, .int .i64 0]) (l.drop k) 0 := by
  have hd := Kd.C_drop h hk hc
  rw [if_pos rfl] at hd
  have hl : (l.drop k).length = l.length - k := List.length_drop
  exact ⟨some ad, 0, by rw [hl], hd, by omega, bytes_drop hb k⟩
/-- what Number tells: the number, how many bytes it took, the error -/
def numP (l : List Int) (er a b : Int) : Int × Nat × Int :=
  if er ≠ 0 then (0, 0, er) else if (nx l).2.2 ≠ 0 then (0, 0, (nx l).2.2) else if (nx l).1 < a ∨ b < (nx l).1 then (0, 0, 6) else ((nx l).1, (nx l).2.1.toNat, 0)
set_option maxHeartbeats 1000000 in
set_option maxRecDepth 100000 in
theorem num_0 (A : Option Addr) (c : Nat) (er a b : Int) (l : List Int) (w : World) (he : er ≠ 0) :
    Calls Tryd.prog 52 #[.agg #[.slice A l.length c, .int .i64 er], .int .i64 a, .int .i64 b] w fun x w' => x = .returned (.tuple #[.int .i64 0, .agg #[.slice A l.length c, .int .i64 er]]) ∧ Below w.heap.size w w' := by
  have HBL := Aside0.mk (Below.refl w.heap.size w)
  have he1 : (er != 0) = true := bne_iff_ne.mpr he
  go_enter Tryd.func52, Tryd.ntmps52
  go_wp2
  go_region
  go_wp2
  exact bodyPost_ret (results_tmp_cell_row rfl _ _ (w.heap.size + 1) 82 _ (0, 0) _ rfl (heap_alloc2_new _ _ _) Tryd.underlying82 rfl (by kernel_rfl)) rfl ⟨rfl, below_drew1 (below_alloc (below_alloc HBL.out _) _)⟩
set_option maxHeartbeats 1000000 in
set_option maxRecDepth 100000 in
theorem num_1 (A : Option Addr) (c : Nat) (a b n size e : Int) (l : List Int) (w : World) (hr : Kd.C (Kd.int .u8) w A l.length l) (hc : l.length ≤ c) (hb : Bytes l) (hx : nx l = (n, size, e)) (he : e ≠ 0) :
    Calls Tryd.prog 52 #[.agg #[.slice A l.length c, .int .i64 0], .int .i64 a, .int .i64 b] w fun x w' => x = .returned (.tuple #[.int .i64 0, .agg #[.slice A l.length c, .int .i64 e]]) ∧ Below w.heap.size w w' := by
  have he1 : (e == 0) = false := beq_eq_false_iff_ne.mpr he
  have he2 : (e != 0) = true := bne_iff_ne.mpr he
  have HR := Aside0.mk hr
  have HN := Aside0.mk hc
  have HY := Aside0.mk hb
  have HX := Aside0.mk hx
  clear hr hc hb hx
  go_enter Tryd.func52, Tryd.ntmps52
  go_wp2_with (first | (go_at_call 65; refine (next_calls A c 0 l _ (Kd.C_alloc (Kd.C_alloc HR.out _) _) HN.out HY.out).mono ?_; rw [HX.out]; rintro x w2 ⟨rfl, hb⟩; have BK1 := blk_below (heap_alloc2_old w _ _) hb; have BK2 := blk_below (heap_alloc2_new w _ _) hb; have HB1 := Aside0.mk (below_step (below_alloc (below_alloc (Below.refl w.heap.size w) _) _) hb); have hz0 := (blk_cell BK1 0).trans rfl; have hz1 := (blk_cell BK1 1).trans rfl; clear hb) | (go_at_call 66; refine (fail_calls0 A l.length c e w2).mono ?_; rintro x w3 ⟨rfl, hb⟩; have BK3 := blk_below BK2 hb; have HB3 := Aside0.mk (below_step HB1.out hb); clear hb; have hz3 := (blk_cell BK3 0).trans rfl; have hz4 := (blk_cell BK3 1).trans rfl; have hf0 := blk_frozen BK3 0; have hf1 := blk_frozen BK3 1))
  exact bodyPost_ret (results_tmp_cell_row rfl _ _ (w.heap.size + 1) 82 _ (0, 0) _ rfl (blk_put (blk_put BK3 0 _ rfl) 1 _ rfl) Tryd.underlying82 rfl (by kernel_rfl)) rfl ⟨rfl, below_set (below_set HB3.out (by omega)) (by omega)⟩
set_option maxHeartbeats 1000000 in
set_option maxRecDepth 100000 in
theorem num_2 (A : Option Addr) (c : Nat) (a b n size : Int) (l : List Int) (w : World) (hr : Kd.C (Kd.int .u8) w A l.length l) (hc : l.length ≤ c) (hb : Bytes l) (hx : nx l = (n, size, 0)) (hna : n < a) :
    Calls Tryd.prog 52 #[.agg #[.slice A l.length c, .int .i64 0], .int .i64 a, .int .i64 b] w fun x w' => x = .returned (.tuple #[.int .i64 0, .agg #[.slice A l.length c, .int .i64 6]]) ∧ Below w.heap.size w w' := by
  have he1 := decide_eq_true hna
  have HR := Aside0.mk hr
  have HN := Aside0.mk hc
  have HY := Aside0.mk hb
  have HX := Aside0.mk hx
  clear hr hc hb hx
  go_enter Tryd.func52, Tryd.ntmps52
  go_wp2_with (first | (go_at_call 65; refine (next_calls A c 0 l _ (Kd.C_alloc (Kd.C_alloc HR.out _) _) HN.out HY.out).mono ?_; rw [HX.out]; rintro x w2 ⟨rfl, hb⟩; have BK1 := blk_below (heap_alloc2_old w _ _) hb; have BK2 := blk_below (heap_alloc2_new w _ _) hb; have HB1 := Aside0.mk (below_step (below_alloc (below_alloc (Below.refl w.heap.size w) _) _) hb); have hz0 := (blk_cell BK1 0).trans rfl; have hz1 := (blk_cell BK1 1).trans rfl; clear hb) | (go_at_call 66; refine (fail_calls0 A l.length c 6 w2).mono ?_; rintro x w3 ⟨rfl, hb⟩; have BK3 := blk_below BK2 hb; have HB3 := Aside0.mk (below_step HB1.out hb); clear hb; have hz3 := (blk_cell BK3 0).trans rfl; have hz4 := (blk_cell BK3 1).trans rfl; have hf0 := blk_frozen BK3 0; have hf1 := blk_frozen BK3 1))
  exact bodyPost_ret (results_tmp_cell_row rfl _ _ (w.heap.size + 1) 82 _ (0, 0) _ rfl (blk_put (blk_put BK3 0 _ rfl) 1 _ rfl) Tryd.underlying82 rfl (by kernel_rfl)) rfl ⟨rfl, below_set (below_set HB3.out (by omega)) (by omega)⟩
set_option maxHeartbeats 1000000 in
set_option maxRecDepth 100000 in
theorem num_3 (A : Option Addr) (c : Nat) (a b n size : Int) (l : List Int) (w : World) (hr : Kd.C (Kd.int .u8) w A l.length l) (hc : l.length ≤ c) (hb : Bytes l) (hx : nx l = (n, size, 0)) (hna : ¬ n < a) (hnb : b < n) :
    Calls Tryd.prog 52 #[.agg #[.slice A l.length c, .int .i64 0], .int .i64 a, .int .i64 b] w fun x w' => x = .returned (.tuple #[.int .i64 0, .agg #[.slice A l.length c, .int .i64 6]]) ∧ Below w.heap.size w w' := by
  have he1 := decide_eq_false hna
  have he2 : decide (n > b) = true := decide_eq_true hnb
  have HR := Aside0.mk hr
  have HN := Aside0.mk hc
  have HY := Aside0.mk hb
  have HX := Aside0.mk hx
  clear hr hc hb hx
  go_enter Tryd.func52, Tryd.ntmps52
  go_wp2_with (first | (go_at_call 65; refine (next_calls A c 0 l _ (Kd.C_alloc (Kd.C_alloc HR.out _) _) HN.out HY.out).mono ?_; rw [HX.out]; rintro x w2 ⟨rfl, hb⟩; have BK1 := blk_below (heap_alloc2_old w _ _) hb; have BK2 := blk_below (heap_alloc2_new w _ _) hb; have HB1 := Aside0.mk (below_step (below_alloc (below_alloc (Below.refl w.heap.size w) _) _) hb); have hz0 := (blk_cell BK1 0).trans rfl; have hz1 := (blk_cell BK1 1).trans rfl; clear hb) | (go_at_call 66; refine (fail_calls0 A l.length c 6 w2).mono ?_; rintro x w3 ⟨rfl, hb⟩; have BK3 := blk_below BK2 hb; have HB3 := Aside0.mk (below_step HB1.out hb); clear hb; have hz3 := (blk_cell BK3 0).trans rfl; have hz4 := (blk_cell BK3 1).trans rfl; have hf0 := blk_frozen BK3 0; have hf1 := blk_frozen BK3 1))
  exact bodyPost_ret (results_tmp_cell_row rfl _ _ (w.heap.size + 1) 82 _ (0, 0) _ rfl (blk_put (blk_put BK3 0 _ rfl) 1 _ rfl) Tryd.underlying82 rfl (by kernel_rfl)) rfl ⟨rfl, below_set (below_set HB3.out (by omega)) (by omega)⟩
set_option maxHeartbeats 1000000 in
set_option maxRecDepth 100000 in
theorem num_4 (ad : Addr) (c k : Nat) (a b n : Int) (l : List Int) (w0 w : World) (hr0 : Kd.C (Kd.int .u8) w0 (some ad) l.length l) (hk : k ≤ l.length) (hr : Kd.C (Kd.int .u8) w (some ad) l.length l) (hc : l.length ≤ c) (hb : Bytes l) (hx : nx l = (n, (k : Int), 0)) (hna : ¬ n < a) (hnb : ¬ b < n) :
    Calls Tryd.prog 52 #[.agg #[.slice (some ad) l.length c, .int .i64 0], .int .i64 a, .int .i64 b] w fun x w' => ∃ v', x = .returned (.tuple #[.int .i64 n, v']) ∧ Scn w0 v' (l.drop k) 0 ∧ Below w.heap.size w w' := by
  have he1 := decide_eq_false hna
  have he2 : decide (n > b) = false := decide_eq_false hnb
  have HR := Aside0.mk hr
  have HR0 := Aside0.mk hr0
  have HN := Aside0.mk hc
  have HY := Aside0.mk hb
  have HX := Aside0.mk hx
  clear hr0 hr hc hb hx
  go_enter Tryd.func52, Tryd.ntmps52
  go_wp2_with (first | (go_at_call 65; refine (next_calls (some ad) c 0 l _ (Kd.C_alloc (Kd.C_alloc HR.out _) _) HN.out HY.out).mono ?_; rw [HX.out]; rintro x w2 ⟨rfl, hb⟩; have BK1 := blk_below (heap_alloc2_old w _ _) hb; have BK2 := blk_below (heap_alloc2_new w _ _) hb; have HB1 := Aside0.mk (below_step (below_alloc (below_alloc (Below.refl w.heap.size w) _) _) hb); have hz0 := (blk_cell BK1 0).trans rfl; have hz1 := (blk_cell BK1 1).trans rfl; have HC2 := Aside0.mk (Kd.C_below (Kd.C_alloc (Kd.C_alloc HR.out (.cells #[.slice (some ad) l.length c, .int .i64 0] 82)) (.cells #[.slice none 0 0, .int .i64 0] 82)) hb); clear hb) | (go_at_call 66; refine (fail_calls0 A l.length c 6 w2).mono ?_; rintro x w3 ⟨rfl, hb⟩; have BK3 := blk_below BK2 hb; have HB3 := Aside0.mk (below_step HB1.out hb); clear hb; have hz3 := (blk_cell BK3 0).trans rfl; have hz4 := (blk_cell BK3 1).trans rfl; have hf0 := blk_frozen BK3 0; have hf1 := blk_frozen BK3 1))
  have hf0 := blk_frozen BK2 0
  have hf1 := blk_frozen BK2 1
  have hz3 := (blk_cell BK2 0).trans rfl
  have hz4 := (blk_cell BK2 1).trans rfl
  have hk1 : (k : Int) ≤ (l.length : Int) := by omega
  have hlc := HN.out
  go_region
  go_wp2
  all_goals
    have HBE : ∀ v, Below w.heap.size w ((w2.setCell ⟨w.heap.size + 1, 0, none⟩ v).setCell ⟨w.heap.size + 1, 1, none⟩ (.int .i64 0)).drew := fun v => below_drew1 (below_set (below_set HB1.out (Nat.le_succ _)) (Nat.le_succ _))
    refine bodyPost_ret (results_tmp_cell_row rfl _ _ (w.heap.size + 1) 82 _ (0, 0) _ rfl (blk_put (blk_put BK2 0 _ rfl) 1 _ rfl) Tryd.underlying82 rfl (by kernel_rfl)) rfl ⟨_, rfl, ?_, HBE _⟩
    first | exact scn_drop_all HR0.out hk (by have := HN.out; omega) HY.out | exact scn_drop HR0.out hk HN.out HY.out h
theorem nx_len {l : List Int} (hb : Bytes l) (h : (nx l).2.2 = 0) : 0 < l.length ∧ 1 ≤ (nx l).2.1 ∧ (nx l).2.1 ≤ l.length := by
  revert h; unfold nx
  split
  · intro h; exact absurd h (by decide)
  · rename_i h0
    obtain ⟨b0, b1⟩ := rd_mem hb (i := 0) (by omega) (by omega)
    split
    · intro h; exact absurd h (by decide)
    · split
      · intro h; exact absurd h (by decide)
      · split
        · intro h; exact absurd h (by decide)
        · split
          · intro h; exact absurd h (by decide)
          · intro _; refine ⟨by omega, ?_, ?_⟩ <;> dsimp only <;> omega
theorem num_calls {w0 w : World} {v : Value} {l : List Int} {er : Int} (h : Scn w0 v l er) (hW : Below w0.heap.size w0 w) (a b : Int) :
    Calls Tryd.prog 52 #[v, .int .i64 a, .int .i64 b] w fun x w' => ∃ v', x = .returned (.tuple #[.int .i64 (numP l er a b).1, v']) ∧ Scn w0 v' (l.drop (numP l er a b).2.1) (numP l er a b).2.2 ∧ Below w.heap.size w w' := by
  obtain ⟨A, c, rfl, hr0, hc, hb⟩ := h
  have hr := Kd.C_below hr0 hW
  unfold numP
  by_cases he : er ≠ 0
  · rw [if_pos he]
    refine (num_0 A c er a b l w he).mono ?_
    rintro x w' ⟨rfl, hB⟩
    exact ⟨_, rfl, ⟨A, c, rfl, hr0, hc, hb⟩, hB⟩
  · rw [if_neg he]
    obtain rfl : er = 0 := by omega
    by_cases he2 : (nx l).2.2 ≠ 0
    · rw [if_pos he2]
      refine (num_1 A c a b _ _ _ l w hr hc hb rfl he2).mono ?_
      rintro x w' ⟨rfl, hB⟩
      exact ⟨_, rfl, ⟨A, c, rfl, hr0, hc, hb⟩, hB⟩
    · rw [if_neg he2]
      have h0 : (nx l).2.2 = 0 := by omega
      have hx : nx l = ((nx l).1, (nx l).2.1, 0) := by rw [← h0]
      by_cases hna : (nx l).1 < a
      · rw [if_pos (.inl hna)]
        refine (num_2 A c a b _ _ l w hr hc hb hx hna).mono ?_
        rintro x w' ⟨rfl, hB⟩
        exact ⟨_, rfl, ⟨A, c, rfl, hr0, hc, hb⟩, hB⟩
      · by_cases hnb : b < (nx l).1
        · rw [if_pos (.inr hnb)]
          refine (num_3 A c a b _ _ l w hr hc hb hx hna hnb).mono ?_
          rintro x w' ⟨rfl, hB⟩
          exact ⟨_, rfl, ⟨A, c, rfl, hr0, hc, hb⟩, hB⟩
        · rw [if_neg (fun h => h.elim hna hnb)]
          obtain ⟨h1, h2, h3⟩ := nx_len hb h0
          obtain ⟨ad, rfl, _⟩ := Kd.at_int hr 0 (by omega) (by omega)
          exact num_4 ad c (nx l).2.1.toNat a b _ l w0 w hr0 (by omega) hr hc hb (by rw [Int.toNat_of_nonneg (by omega)]; exact hx) hna hnb
end Go.Proofs.YthpgbhpnlnpfnaaDoor.Law

namespace Go.Proofs.YthpgbhpnlnpfnaaDoor.Law
open Go.RowKit Go.Proofs.YthpgbhpnlnpfnaaDoor Go.Proofs.YthpgbhpnlnpfnaaDoorW.PrintWords Go.Proofs.YthpgbhpnlnpfnaaDoorW.PrintLast Go.Proofs.YthpgbhpnlnpfnaaDoorW.PrintMore
set_option maxHeartbeats 400000 in
set_option maxRecDepth 100000 in
theorem rfail_calls (A : Option Addr) (n c : Nat) (er e : Int) (w : World) :
    Calls Tryd.prog 69 #[.agg #[.slice A n c, .int .i64 er], .int .i64 e] w fun x w' => x = .returned (.agg #[.slice A n c, .int .i64 e]) ∧ Below w.heap.size w w' := by
  have HBL := Aside0.mk (Below.refl w.heap.size w)
  go_enter Tryd.func69, Tryd.ntmps69
  go_wp2
  exact bodyPost_ret (results_cell_row rfl _ _ (w.heap.size + 1) 90 _ (0, 0) _ rfl (heap_alloc2_new _ _ _) Tryd.underlying90 rfl (by kernel_rfl)) rfl ⟨rfl, below_alloc (below_alloc HBL.out _) _⟩
set_option maxHeartbeats 1000000 in
set_option maxRecDepth 100000 in
theorem rnum_0 (A : Option Addr) (c : Nat) (er a b : Int) (l : List Int) (w : World) (he : er ≠ 0) :
    Calls Tryd.prog 56 #[.agg #[.slice A l.length c, .int .i64 er], .int .i64 a, .int .i64 b] w fun x w' => x = .returned (.tuple #[.int .i64 0, .agg #[.slice A l.length c, .int .i64 er]]) ∧ Below w.heap.size w w' := by
  have HBL := Aside0.mk (Below.refl w.heap.size w)
  have he1 : (er != 0) = true := bne_iff_ne.mpr he
  go_enter Tryd.func56, Tryd.ntmps56
  go_wp2
  go_region
  go_wp2
  exact bodyPost_ret (results_tmp_cell_row rfl _ _ (w.heap.size + 1) 90 _ (0, 0) _ rfl (heap_alloc2_new _ _ _) Tryd.underlying90 rfl (by kernel_rfl)) rfl ⟨rfl, below_drew1 (below_alloc (below_alloc HBL.out _) _)⟩
set_option maxHeartbeats 1000000 in
set_option maxRecDepth 100000 in
theorem rnum_1 (A : Option Addr) (n c : Nat) (a b : Int) (w : World) (h0 : n = 0) :
    Calls Tryd.prog 56 #[.agg #[.slice A n c, .int .i64 0], .int .i64 a, .int .i64 b] w fun x w' => x = .returned (.tuple #[.int .i64 0, .agg #[.slice A n c, .int .i64 3]]) ∧ Below w.heap.size w w' := by
  subst h0
  go_enter Tryd.func56, Tryd.ntmps56
  go_wp2_with (first | (go_at_call 69; refine (rfail_calls A 0 c 0 3 _).mono ?_; rintro x w3 ⟨rfl, hb⟩; have BK3 := blk_below (heap_alloc2_new w _ _) hb; have HB3 := Aside0.mk (below_step (below_alloc (below_alloc (Below.refl w.heap.size w) _) _) hb); clear hb; have hz3 := (blk_cell BK3 0).trans rfl; have hz4 := (blk_cell BK3 1).trans rfl; have hf0 := blk_frozen BK3 0; have hf1 := blk_frozen BK3 1))
  exact bodyPost_ret (results_tmp_cell_row rfl _ _ (w.heap.size + 1) 90 _ (0, 0) _ rfl (blk_put (blk_put BK3 0 _ rfl) 1 _ rfl) Tryd.underlying90 rfl (by kernel_rfl)) rfl ⟨rfl, below_set (below_set HB3.out (by omega)) (by omega)⟩
set_option maxHeartbeats 1000000 in
set_option maxRecDepth 100000 in
theorem rnum_2 (ad : Addr) (n c : Nat) (a b x0 : Int) (w : World) (h0 : 0 < n) (hc : w.cell? ad = some (.int .u8 x0)) (hx0 : 0 ≤ x0) (hx1 : x0 < 256) (h7 : 7 < x0) :
    Calls Tryd.prog 56 #[.agg #[.slice (some ad) n c, .int .i64 0], .int .i64 a, .int .i64 b] w fun x w' => x = .returned (.tuple #[.int .i64 0, .agg #[.slice (some ad) n c, .int .i64 5]]) ∧ Below w.heap.size w w' := by
  have hBL := below_alloc (below_alloc (Below.refl w.heap.size w) (.cells #[.slice (some ad) n c, .int .i64 0] 90)) (.cells #[.slice none 0 0, .int .i64 0] 90)
  have hc1 := (hBL.cell (World.block_lt_of_cell? w _ hc)).trans hc
  have hn0 : ((n : Int) == 0) = false := beq_eq_false_iff_ne.mpr (by omega)
  have hn : (0 < (n : Int)) := by omega
  clear hBL
  have b7 : decide (x0 > 7) = true := decide_eq_true h7
  go_enter Tryd.func56, Tryd.ntmps56
  go_wp2_with (first | (go_at_call 69; refine (rfail_calls (some ad) n c 0 5 _).mono ?_; rintro x w3 ⟨rfl, hb⟩; have BK3 := blk_below (heap_alloc2_new w _ _) hb; have HB3 := Aside0.mk (below_step (below_alloc (below_alloc (Below.refl w.heap.size w) _) _) hb); clear hb; have hz3 := (blk_cell BK3 0).trans rfl; have hz4 := (blk_cell BK3 1).trans rfl; have hf0 := blk_frozen BK3 0; have hf1 := blk_frozen BK3 1))
  exact bodyPost_ret (results_tmp_cell_row rfl _ _ (w.heap.size + 1) 90 _ (0, 0) _ rfl (blk_put (blk_put BK3 0 _ rfl) 1 _ rfl) Tryd.underlying90 rfl (by kernel_rfl)) rfl ⟨rfl, below_set (below_set HB3.out (by omega)) (by omega)⟩
set_option maxHeartbeats 1000000 in
set_option maxRecDepth 100000 in
theorem rnum_3 (ad : Addr) (n c : Nat) (a b x0 : Int) (w : World) (h0 : 0 < n) (hn9 : n ≤ 9223372036854775807) (hc : w.cell? ad = some (.int .u8 x0)) (hx0 : 0 ≤ x0) (hx1 : x0 < 256) (h7 : ¬ 7 < x0) (hs : (n : Int) < 1 + x0) :
    Calls Tryd.prog 56 #[.agg #[.slice (some ad) n c, .int .i64 0], .int .i64 a, .int .i64 b] w fun x w' => x = .returned (.tuple #[.int .i64 0, .agg #[.slice (some ad) n c, .int .i64 3]]) ∧ Below w.heap.size w w' := by
  have hBL := below_alloc (below_alloc (Below.refl w.heap.size w) (.cells #[.slice (some ad) n c, .int .i64 0] 90)) (.cells #[.slice none 0 0, .int .i64 0] 90)
  have hc1 := (hBL.cell (World.block_lt_of_cell? w _ hc)).trans hc
  have hn0 : ((n : Int) == 0) = false := beq_eq_false_iff_ne.mpr (by omega)
  have hn : (0 < (n : Int)) := by omega
  clear hBL
  have b7 : decide (x0 > 7) = false := decide_eq_false h7
  have bs : decide (x0 > (n : Int) - 1) = true := decide_eq_true (by omega)
  go_enter Tryd.func56, Tryd.ntmps56
  go_wp2_with (first | (go_at_call 69; refine (rfail_calls (some ad) n c 0 3 _).mono ?_; rintro x w3 ⟨rfl, hb⟩; have BK3 := blk_below (heap_alloc2_new w _ _) hb; have HB3 := Aside0.mk (below_step (below_alloc (below_alloc (Below.refl w.heap.size w) _) _) hb); clear hb; have hz3 := (blk_cell BK3 0).trans rfl; have hz4 := (blk_cell BK3 1).trans rfl; have hf0 := blk_frozen BK3 0; have hf1 := blk_frozen BK3 1))
  exact bodyPost_ret (results_tmp_cell_row rfl _ _ (w.heap.size + 1) 90 _ (0, 0) _ rfl (blk_put (blk_put BK3 0 _ rfl) 1 _ rfl) Tryd.underlying90 rfl (by kernel_rfl)) rfl ⟨rfl, below_set (below_set HB3.out (by omega)) (by omega)⟩
set_option maxHeartbeats 2000000 in
set_option maxRecDepth 100000 in
theorem rnum_4 (ad : Addr) (c : Nat) (l : List Int) (a b x0 : Int) (w0 w : World) (hr0 : Kd.C (Kd.int .u8) w0 (some ad) l.length l) (d : List Int) (hd : (d.length : Int) = x0) (hbd : Bytes d) (hc0 : w.cell? ad = some (.int .u8 x0)) (hx0 : 0 ≤ x0) (hx1 : x0 < 256) (h7 : ¬ 7 < x0) (hs : ¬ (l.length : Int) < 1 + x0)
    (hr : Kd.C (Kd.int .u8) w (some ad) l.length l) (hc : l.length ≤ c) (hb : Bytes l) (hcells : ∀ j, j < d.length → w.cell? ⟨ad.block, ad.off + 1 + j, none⟩ = some (.int .u8 (d.getD j 0))) (r1 : Int) (rk : Nat) (re : Int)
    (hz : (0 < x0 ∧ d.getD 0 0 = 0) → r1 = 0 ∧ rk = 0 ∧ re = 5) (hf : ¬ (0 < x0 ∧ d.getD 0 0 = 0) → (9007199254740992 < val d ∨ val d < a ∨ b < val d) → r1 = 0 ∧ rk = 0 ∧ re = 6)
    (ho : ¬ (0 < x0 ∧ d.getD 0 0 = 0) → ¬ (9007199254740992 < val d ∨ val d < a ∨ b < val d) → r1 = val d ∧ rk = (x0 + 1).toNat ∧ re = 0) :
    Calls Tryd.prog 56 #[.agg #[.slice (some ad) l.length c, .int .i64 0], .int .i64 a, .int .i64 b] w fun x w' => ∃ v', x = .returned (.tuple #[.int .i64 r1, v']) ∧ Scn w0 v' (l.drop rk) re ∧ Below w.heap.size w w' := by
  have hn9 := Kd.C_max hr
  have hBL := below_alloc (below_alloc (Below.refl w.heap.size w) (.cells #[.slice (some ad) l.length c, .int .i64 0] 90)) (.cells #[.slice none 0 0, .int .i64 0] 90)
  have hcell : ∀ {p : Addr} {v : Value}, w.cell? p = some v → _ := fun {p v} (h : w.cell? p = some v) => (hBL.cell (World.block_lt_of_cell? w _ h)).trans h
  have hc1 := hcell hc0
  have HCS := Aside0.mk (fun j (hj : j < d.length) => hcell (hcells j hj))
  have hn0 : ((l.length : Int) == 0) = false := beq_eq_false_iff_ne.mpr (by omega)
  have hn : (0 < (l.length : Int)) := by omega
  have b7 : decide (x0 > 7) = false := decide_eq_false h7
  have bs : decide (x0 > (l.length : Int) - 1) = false := decide_eq_false (by omega)
  have HBL := Aside0.mk hBL
  have K1 := Aside0.mk (heap_alloc2_old w (.cells #[.slice (some ad) l.length c, .int .i64 0] 90) (.cells #[.slice none 0 0, .int .i64 0] 90))
  have K2 := Aside0.mk (heap_alloc2_new w (.cells #[.slice (some ad) l.length c, .int .i64 0] 90) (.cells #[.slice none 0 0, .int .i64 0] 90))
  have HBD := Aside0.mk hbd
  have HD := Aside0.mk hd
  have HZ := Aside0.mk hz
  have HF := Aside0.mk hf
  have HO := Aside0.mk ho
  have HR := Aside0.mk hr0
  have HN := Aside0.mk hc
  have HY := Aside0.mk hb
  clear hcell hBL hcells hc0 hbd hd hz hf ho hr0 hr hc hb
  go_enter Tryd.func56, Tryd.ntmps56
  go_wp2
  have k0 := (blk_cell K1.out 0).trans rfl
  have k1 := (blk_cell K1.out 1).trans rfl
  generalize (w.alloc (.cells #[.slice (some ad) l.length c, .int .i64 0] 90)).alloc (.cells #[.slice none 0 0, .int .i64 0] 90) = w1 at *
  have hdl := HD.out
  clear hn0 b7 bs hc1
  go_loop [9, 10] (fun v9 v10 => ∃ (i : Nat), i ≤ d.length ∧ v10 = .int .i64 ((i : Int) + 1) ∧ v9 = .int .i64 (val (d.take i))) (fun _ v10 => d.length + 1 - (intOf v10).toNat)
  case atStart => exact ⟨0, by omega, rfl, rfl⟩
  case round =>
    obtain ⟨i, hi, rfl, rfl⟩ := hrel
    by_cases hlt : i < d.length
    · have hltb : decide ((i : Int) + 1 ≤ x0) = true := decide_eq_true (by omega)
      have hin : (i : Int) + 1 < (l.length : Int) := by omega
      have hk : w1.cell? ⟨ad.block, ad.off + (i + 1), none⟩ = some (.int .u8 (d.getD i 0)) := by rw [show ad.off + (i + 1) = ad.off + 1 + i by omega]; exact HCS.out i hlt
      have hst : val (d.take (i + 1)) = val (d.take i) * 256 + d.getD i 0 := by
        rw [List.take_succ_eq_append_getElem hlt, val_snoc, List.getD_eq_getElem?_getD, List.getElem?_eq_getElem hlt]; rfl
      have hby := HBD.out _ (List.getElem_mem hlt)
      have hge : d.getD i 0 = d[i] := by rw [List.getD_eq_getElem?_getD, List.getElem?_eq_getElem hlt]; rfl
      rw [← hge] at hby
      have hvb := val_bound (l := d.take i) (fun x hx => HBD.out x (List.mem_of_mem_take hx))
      have hp : (256 : Int) ^ (d.take i).length ≤ 256 ^ 6 := by
        rw [List.length_take, show min i d.length = i by omega]
        have := Nat.pow_le_pow_right (n := 256) (by omega) (show i ≤ 6 by omega)
        exact_mod_cast this
      have h6 : (256 : Int) ^ 6 = 281474976710656 := by decide
      have hab : val (d.take i) < 281474976710656 := by omega
      have hv0 := hvb.1
      have HS := Aside0.mk hst
      clear hst hvb hp h6 hge
      generalize d.getD i 0 = bt at *
      generalize val (d.take i) = vt at *
      go_wp2
      go_round
      case rel => exact ⟨i + 1, by omega, by go_num, by rw [HS.out]⟩
      case measure => simp [intOf]; omega
    · obtain rfl : i = d.length := by omega
      have hltb : decide ((d.length : Int) + 1 ≤ x0) = false := decide_eq_false (by omega)
      rw [List.take_length]
      have HCS0 : 0 < x0 → w1.cell? ⟨ad.block, ad.off + 1, none⟩ = some (.int .u8 (d.getD 0 0)) := fun h => HCS.out 0 (by omega)
      clear HCS HBD hltb
      have hdn := Aside0.mk hdl
      generalize val d = vd at *
      generalize d.getD 0 0 = z at *
      by_cases hp : 0 < x0
      · have bp : decide (x0 > 0) = true := decide_eq_true hp
        have hk1 := HCS0 hp
        clear HCS0
        by_cases hz : z = 0
        · subst hz
          have hl1 : (1 : Int) < (l.length : Int) := by omega
          obtain ⟨rfl, rfl, rfl⟩ := HZ.out ⟨hp, rfl⟩
          clear HZ HF HO
          go_wp2_with (first | (go_at_call 69; refine (rfail_calls (some ad) l.length c 0 5 _).mono ?_; rintro x w3 ⟨rfl, hb⟩; have BK3 := blk_below K2.out hb; have HB3 := Aside0.mk (below_step HBL.out hb); clear hb; have hz3 := (blk_cell BK3 0).trans rfl; have hz4 := (blk_cell BK3 1).trans rfl; have hf0 := blk_frozen BK3 0; have hf1 := blk_frozen BK3 1))
          exact bodyPost_ret (results_tmp_cell_row rfl _ _ (w.heap.size + 1) 90 _ (0, 0) _ rfl (blk_put (blk_put BK3 0 _ rfl) 1 _ rfl) Tryd.underlying90 rfl (by kernel_rfl)) rfl ⟨_, rfl, ⟨_, c, rfl, HR.out, HN.out, HY.out⟩, below_set (below_set HB3.out (by omega)) (by omega)⟩
        · have bz : (z == 0) = false := beq_eq_false_iff_ne.mpr hz
          have hl1 : (1 : Int) < (l.length : Int) := by omega
          by_cases hfar : 9007199254740992 < vd
          · have bf : decide (vd > 9007199254740992) = true := decide_eq_true hfar
            obtain ⟨rfl, rfl, rfl⟩ := HF.out (fun h => hz h.2) (.inl hfar)
            clear HZ HF HO
            go_wp2_with (first | (go_at_call 69; refine (rfail_calls (some ad) l.length c 0 6 _).mono ?_; rintro x w3 ⟨rfl, hb⟩; have BK3 := blk_below K2.out hb; have HB3 := Aside0.mk (below_step HBL.out hb); clear hb; have hz3 := (blk_cell BK3 0).trans rfl; have hz4 := (blk_cell BK3 1).trans rfl; have hf0 := blk_frozen BK3 0; have hf1 := blk_frozen BK3 1))
            exact bodyPost_ret (results_tmp_cell_row rfl _ _ (w.heap.size + 1) 90 _ (0, 0) _ rfl (blk_put (blk_put BK3 0 _ rfl) 1 _ rfl) Tryd.underlying90 rfl (by kernel_rfl)) rfl ⟨_, rfl, ⟨_, c, rfl, HR.out, HN.out, HY.out⟩, below_set (below_set HB3.out (by omega)) (by omega)⟩
          · have bf : decide (vd > 9007199254740992) = false := decide_eq_false hfar
            by_cases hna : vd < a
            · have ba := decide_eq_true hna
              obtain ⟨rfl, rfl, rfl⟩ := HF.out (fun h => hz h.2) (.inr (.inl hna))
              clear HZ HF HO
              go_wp2_with (first | (go_at_call 69; refine (rfail_calls (some ad) l.length c 0 6 _).mono ?_; rintro x w3 ⟨rfl, hb⟩; have BK3 := blk_below K2.out hb; have HB3 := Aside0.mk (below_step HBL.out hb); clear hb; have hz3 := (blk_cell BK3 0).trans rfl; have hz4 := (blk_cell BK3 1).trans rfl; have hf0 := blk_frozen BK3 0; have hf1 := blk_frozen BK3 1))
              exact bodyPost_ret (results_tmp_cell_row rfl _ _ (w.heap.size + 1) 90 _ (0, 0) _ rfl (blk_put (blk_put BK3 0 _ rfl) 1 _ rfl) Tryd.underlying90 rfl (by kernel_rfl)) rfl ⟨_, rfl, ⟨_, c, rfl, HR.out, HN.out, HY.out⟩, below_set (below_set HB3.out (by omega)) (by omega)⟩
            · have ba := decide_eq_false hna
              by_cases hnb : b < vd
              · have bb : decide (vd > b) = true := decide_eq_true hnb
                obtain ⟨rfl, rfl, rfl⟩ := HF.out (fun h => hz h.2) (.inr (.inr hnb))
                clear HZ HF HO
                go_wp2_with (first | (go_at_call 69; refine (rfail_calls (some ad) l.length c 0 6 _).mono ?_; rintro x w3 ⟨rfl, hb⟩; have BK3 := blk_below K2.out hb; have HB3 := Aside0.mk (below_step HBL.out hb); clear hb; have hz3 := (blk_cell BK3 0).trans rfl; have hz4 := (blk_cell BK3 1).trans rfl; have hf0 := blk_frozen BK3 0; have hf1 := blk_frozen BK3 1))
                exact bodyPost_ret (results_tmp_cell_row rfl _ _ (w.heap.size + 1) 90 _ (0, 0) _ rfl (blk_put (blk_put BK3 0 _ rfl) 1 _ rfl) Tryd.underlying90 rfl (by kernel_rfl)) rfl ⟨_, rfl, ⟨_, c, rfl, HR.out, HN.out, HY.out⟩, below_set (below_set HB3.out (by omega)) (by omega)⟩
              · have bb : decide (vd > b) = false := decide_eq_false hnb
                obtain ⟨rfl, rfl, rfl⟩ := HO.out (fun h => hz h.2) (fun h => h.elim hfar (fun h => h.elim hna hnb))
                clear HZ HF HO
                have hz3 := (blk_cell K2.out 0).trans rfl
                have hz4 := (blk_cell K2.out 1).trans rfl
                have hf0 := blk_frozen K2.out 0
                have hf1 := blk_frozen K2.out 1
                go_wp2
                have hlc := HN.out
                have hk1 : x0 + 1 ≤ (l.length : Int) := by omega
                have HBE : ∀ v, Below w.heap.size w ((w1.setCell ⟨w.heap.size + 1, 0, none⟩ v).setCell ⟨w.heap.size + 1, 1, none⟩ (.int .i64 0)).drew := fun v => below_drew1 (below_set (below_set HBL.out (Nat.le_succ _)) (Nat.le_succ _))
                go_region
                go_wp2
                all_goals
                  refine bodyPost_ret (results_tmp_cell_row rfl _ _ (w.heap.size + 1) 90 _ (0, 0) _ rfl (blk_put (blk_put K2.out 0 _ rfl) 1 _ rfl) Tryd.underlying90 rfl (by kernel_rfl)) rfl ⟨_, rfl, ?_, HBE _⟩
                  first | exact scn_drop_all HR.out (by omega) (by omega) HY.out | exact scn_drop HR.out (by omega) HN.out HY.out h
      · have bp : decide (x0 > 0) = false := decide_eq_false hp
        by_cases hfar : 9007199254740992 < vd
        · have bf : decide (vd > 9007199254740992) = true := decide_eq_true hfar
          obtain ⟨rfl, rfl, rfl⟩ := HF.out (fun h => hp h.1) (.inl hfar)
          clear HZ HF HO
          go_wp2_with (first | (go_at_call 69; refine (rfail_calls (some ad) l.length c 0 6 _).mono ?_; rintro x w3 ⟨rfl, hb⟩; have BK3 := blk_below K2.out hb; have HB3 := Aside0.mk (below_step HBL.out hb); clear hb; have hz3 := (blk_cell BK3 0).trans rfl; have hz4 := (blk_cell BK3 1).trans rfl; have hf0 := blk_frozen BK3 0; have hf1 := blk_frozen BK3 1))
          exact bodyPost_ret (results_tmp_cell_row rfl _ _ (w.heap.size + 1) 90 _ (0, 0) _ rfl (blk_put (blk_put BK3 0 _ rfl) 1 _ rfl) Tryd.underlying90 rfl (by kernel_rfl)) rfl ⟨_, rfl, ⟨_, c, rfl, HR.out, HN.out, HY.out⟩, below_set (below_set HB3.out (by omega)) (by omega)⟩
        · have bf : decide (vd > 9007199254740992) = false := decide_eq_false hfar
          by_cases hna : vd < a
          · have ba := decide_eq_true hna
            obtain ⟨rfl, rfl, rfl⟩ := HF.out (fun h => hp h.1) (.inr (.inl hna))
            clear HZ HF HO
            go_wp2_with (first | (go_at_call 69; refine (rfail_calls (some ad) l.length c 0 6 _).mono ?_; rintro x w3 ⟨rfl, hb⟩; have BK3 := blk_below K2.out hb; have HB3 := Aside0.mk (below_step HBL.out hb); clear hb; have hz3 := (blk_cell BK3 0).trans rfl; have hz4 := (blk_cell BK3 1).trans rfl; have hf0 := blk_frozen BK3 0; have hf1 := blk_frozen BK3 1))
            exact bodyPost_ret (results_tmp_cell_row rfl _ _ (w.heap.size + 1) 90 _ (0, 0) _ rfl (blk_put (blk_put BK3 0 _ rfl) 1 _ rfl) Tryd.underlying90 rfl (by kernel_rfl)) rfl ⟨_, rfl, ⟨_, c, rfl, HR.out, HN.out, HY.out⟩, below_set (below_set HB3.out (by omega)) (by omega)⟩
          · have ba := decide_eq_false hna
            by_cases hnb : b < vd
            · have bb : decide (vd > b) = true := decide_eq_true hnb
              obtain ⟨rfl, rfl, rfl⟩ := HF.out (fun h => hp h.1) (.inr (.inr hnb))
              clear HZ HF HO
              go_wp2_with (first | (go_at_call 69; refine (rfail_calls (some ad) l.length c 0 6 _).mono ?_; rintro x w3 ⟨rfl, hb⟩; have BK3 := blk_below K2.out hb; have HB3 := Aside0.mk (below_step HBL.out hb); clear hb; have hz3 := (blk_cell BK3 0).trans rfl; have hz4 := (blk_cell BK3 1).trans rfl; have hf0 := blk_frozen BK3 0; have hf1 := blk_frozen BK3 1))
              exact bodyPost_ret (results_tmp_cell_row rfl _ _ (w.heap.size + 1) 90 _ (0, 0) _ rfl (blk_put (blk_put BK3 0 _ rfl) 1 _ rfl) Tryd.underlying90 rfl (by kernel_rfl)) rfl ⟨_, rfl, ⟨_, c, rfl, HR.out, HN.out, HY.out⟩, below_set (below_set HB3.out (by omega)) (by omega)⟩
            · have bb : decide (vd > b) = false := decide_eq_false hnb
              obtain ⟨rfl, rfl, rfl⟩ := HO.out (fun h => hp h.1) (fun h => h.elim hfar (fun h => h.elim hna hnb))
              clear HZ HF HO
              have hz3 := (blk_cell K2.out 0).trans rfl
              have hz4 := (blk_cell K2.out 1).trans rfl
              have hf0 := blk_frozen K2.out 0
              have hf1 := blk_frozen K2.out 1
              go_wp2
              have hlc := HN.out
              have hk1 : x0 + 1 ≤ (l.length : Int) := by omega
              have HBE : ∀ v, Below w.heap.size w ((w1.setCell ⟨w.heap.size + 1, 0, none⟩ v).setCell ⟨w.heap.size + 1, 1, none⟩ (.int .i64 0)).drew := fun v => below_drew1 (below_set (below_set HBL.out (Nat.le_succ _)) (Nat.le_succ _))
              go_region
              go_wp2
              all_goals
                refine bodyPost_ret (results_tmp_cell_row rfl _ _ (w.heap.size + 1) 90 _ (0, 0) _ rfl (blk_put (blk_put K2.out 0 _ rfl) 1 _ rfl) Tryd.underlying90 rfl (by kernel_rfl)) rfl ⟨_, rfl, ?_, HBE _⟩
                first | exact scn_drop_all HR.out (by omega) (by omega) HY.out | exact scn_drop HR.out (by omega) HN.out HY.out h
theorem rnum_calls {w0 w : World} {v : Value} {l : List Int} {er : Int} (h : Scn w0 v l er) (hW : Below w0.heap.size w0 w) (a b : Int) :
    Calls Tryd.prog 56 #[v, .int .i64 a, .int .i64 b] w fun x w' => ∃ v', x = .returned (.tuple #[.int .i64 (numP l er a b).1, v']) ∧ Scn w0 v' (l.drop (numP l er a b).2.1) (numP l er a b).2.2 ∧ Below w.heap.size w w' := by
  obtain ⟨A, c, rfl, hr0, hc, hb⟩ := h
  have hr := Kd.C_below hr0 hW
  by_cases he : er ≠ 0
  · have e : numP l er a b = (0, 0, er) := by unfold numP; rw [if_pos he]
    rw [e]
    refine (rnum_0 A c er a b l w he).mono ?_
    rintro x w' ⟨rfl, hB⟩
    exact ⟨_, rfl, ⟨A, c, rfl, hr0, hc, hb⟩, hB⟩
  obtain rfl : er = 0 := by omega
  have e0 : numP l 0 a b = if (nx l).2.2 ≠ 0 then (0, 0, (nx l).2.2) else if (nx l).1 < a ∨ b < (nx l).1 then (0, 0, 6) else ((nx l).1, (nx l).2.1.toNat, 0) := by unfold numP; rw [if_neg (by omega)]
  by_cases h0 : l.length = 0
  · have e : numP l 0 a b = (0, 0, 3) := by rw [e0]; unfold nx; rw [if_pos h0]; rfl
    rw [e]
    refine (rnum_1 A l.length c a b w h0).mono ?_
    rintro x w' ⟨rfl, hB⟩
    exact ⟨_, rfl, ⟨A, c, rfl, hr0, hc, hb⟩, hB⟩
  obtain ⟨ad, rfl, hc0⟩ := Kd.at_int hr 0 (by omega) (by omega)
  rw [show (0 : Int).toNat = 0 from rfl, add0] at hc0
  obtain ⟨b0, b1⟩ := rd_mem hb (i := 0) (by omega) (by omega)
  by_cases h7 : 7 < rd l 0
  · have e : numP l 0 a b = (0, 0, 5) := by rw [e0]; unfold nx; rw [if_neg h0, if_pos h7]; rfl
    rw [e]
    refine (rnum_2 ad l.length c a b _ w (by omega) hc0 b0 b1 h7).mono ?_
    rintro x w' ⟨rfl, hB⟩
    exact ⟨_, rfl, ⟨_, c, rfl, hr0, hc, hb⟩, hB⟩
  by_cases hs : (l.length : Int) < 1 + rd l 0
  · have e : numP l 0 a b = (0, 0, 3) := by rw [e0]; unfold nx; rw [if_neg h0, if_neg h7, if_pos hs]; rfl
    rw [e]
    refine (rnum_3 ad l.length c a b _ w (by omega) (Kd.C_max hr) hc0 b0 b1 h7 hs).mono ?_
    rintro x w' ⟨rfl, hB⟩
    exact ⟨_, rfl, ⟨_, c, rfl, hr0, hc, hb⟩, hB⟩
  have hcell : ∀ i : Nat, 1 + i < l.length → w.cell? ⟨ad.block, ad.off + 1 + i, none⟩ = some (.int .u8 (rd l (1 + i))) := by
    intro i hi
    obtain ⟨ad', e, h⟩ := Kd.at_int hr (1 + i) (by omega) (by omega)
    injection e with e; subst e
    rw [show (1 + (i : Int)).toNat = i + 1 by omega] at h
    rw [← h]
    unfold Addr.add
    rw [if_neg (by omega)]
    congr 2
    omega
  have hl : ((l.drop 1).take (rd l 0).toNat).length = (rd l 0).toNat := by rw [List.length_take, List.length_drop]; omega
  have hget : ∀ j, j < (rd l 0).toNat → ((l.drop 1).take (rd l 0).toNat).getD j 0 = rd l (1 + j) := by
    intro j hj
    show _ = l.getD (1 + (j : Int)).toNat 0
    rw [show (1 + (j : Int)).toNat = 1 + j by omega, List.getD_eq_getElem?_getD, List.getD_eq_getElem?_getD, List.getElem?_take, if_pos hj, List.getElem?_drop]
  have hf0 : 0 < rd l 0 → ((l.drop 1).take (rd l 0).toNat).getD 0 0 = rd l 1 := fun h => hget 0 (by omega)
  have e1 : nx l = if 0 < rd l 0 ∧ rd l 1 = 0 then (0, 0, 5) else if far < val ((l.drop 1).take (rd l 0).toNat) then (0, 0, 6) else (val ((l.drop 1).take (rd l 0).toNat), 1 + rd l 0, 0) := by unfold nx; rw [if_neg h0, if_neg h7, if_neg hs]
  generalize hd : (l.drop 1).take (rd l 0).toNat = d at *
  refine rnum_4 ad c l a b _ w0 w hr0 d (by omega) ?_ hc0 b0 b1 h7 hs hr hc hb (fun j hj => ?_) _ _ _ (fun hz => ?_) (fun hz hv => ?_) (fun hz hv => ?_)
  · intro x hx; exact hb x (List.mem_of_mem_drop (List.mem_of_mem_take (hd ▸ hx)))
  · rw [hget j (by omega)]; exact hcell j (by omega)
  · rw [hf0 hz.1] at hz
    rw [e0, e1, if_pos hz]
    exact ⟨rfl, rfl, rfl⟩
  all_goals
    have hz' : ¬ (0 < rd l 0 ∧ rd l 1 = 0) := fun h => hz ⟨h.1, by rw [hf0 h.1]; exact h.2⟩
    rw [e0, e1, if_neg hz']
  · by_cases hf : far < val d
    · rw [if_pos hf]; exact ⟨rfl, rfl, rfl⟩
    · rw [if_neg hf, if_neg (by simp)]
      have : val d < a ∨ b < val d := hv.resolve_left hf
      rw [if_pos (show val d < a ∨ b < val d from this)]
      exact ⟨rfl, rfl, rfl⟩
  · rw [if_neg (show ¬ far < val d from fun h => hv (.inl h)), if_neg (by simp), if_neg (show ¬ (val d < a ∨ b < val d) from fun h => hv (.inr h))]
    exact ⟨rfl, by rw [show rd l 0 + 1 = 1 + rd l 0 from Int.add_comm _ _], rfl⟩
end Go.Proofs.YthpgbhpnlnpfnaaDoor.Law

namespace Go.Proofs.YthpgbhpnlnpfnaaDoor.Law
open Go.RowKit Go.Proofs.YthpgbhpnlnpfnaaDoor Go.Proofs.YthpgbhpnlnpfnaaDoorW.PrintWords Go.Proofs.YthpgbhpnlnpfnaaDoorW.PrintLast Go.Proofs.YthpgbhpnlnpfnaaDoorW.PrintMore Go.Proofs.YthpgbhpnlnpfnaaDoor.E
set_option linter.unusedSimpArgs false
theorem R_set_low {α : Type} {d : Kd α} {e base : Nat} {w : World} {v : Value} {xs : List α} (h : d.R e w base (fun _ => True) v xs) {p : Addr} (hp : p.block < base) (u : Value) : d.R e (w.setCell p u) base (fun _ => True) v xs :=
  Kd.R_mono (Kd.R_far (Kd.R_bound h) (fun k hk => by have := hk.2.1; omega) u) (fun _ _ => trivial)
set_option maxHeartbeats 1000000 in
set_option maxRecDepth 100000 in
theorem fix_1 (ad : Addr) (c : Nat) (l lt : List Int) (k : Nat) (w : World) (hk0 : 1 ≤ k) (hk : k ≤ l.length) (hlt : lt.length = k) (hm : l.length < 140737488355328) (hlc : l.length ≤ c) (hck : ¬ c = k) (hr : Kd.C (Kd.int .u8) w (some ad) lt.length lt) :
    Calls Tryd.prog 74 #[.agg #[.slice (some ad) l.length c, .int .i64 0], .int .i64 (k : Int)] w fun x w' => ∃ V, x = .returned (.tuple #[V, .agg #[.slice (some (ad.add k)) (l.length - k) (c - k), .int .i64 0]]) ∧ Kd.R (Kd.int .u8) 5 w' w.heap.size (fun _ => True) V lt ∧ Below w.heap.size w w' := by
  have b1 : decide ((k : Int) < 1) = false := decide_eq_false (by omega)
  have b2 : decide ((k : Int) > (l.length : Int)) = false := decide_eq_false (by omega)
  have hkc : (k : Int) ≤ (c : Int) := by omega
  have hkl : (k : Int) ≤ (l.length : Int) := by omega
  have hBL := below_alloc (below_alloc (Below.refl w.heap.size w) (.cells #[.slice (some ad) l.length c, .int .i64 0] 82)) (.cells #[.slice none 0 0, .int .i64 0] 82)
  have HRt := Aside0.mk (Kd.C_below hr hBL)
  have HBL := Aside0.mk hBL
  have HLM := Aside0.mk (show 0 + k < 140737488355328 by omega)
  have K1 := Aside0.mk (heap_alloc2_old w (.cells #[.slice (some ad) l.length c, .int .i64 0] 82) (.cells #[.slice none 0 0, .int .i64 0] 82))
  have K2 := Aside0.mk (heap_alloc2_new w (.cells #[.slice (some ad) l.length c, .int .i64 0] 82) (.cells #[.slice none 0 0, .int .i64 0] 82))
  clear hr hBL hm
  rw [hlt] at HRt
  go_enter Tryd.func74, Tryd.ntmps74
  go_wp2
  have z0_ := (blk_cell K1.out 0).trans rfl
  have z1_ := (blk_cell K1.out 1).trans rfl
  have z2_ := (blk_cell K2.out 0).trans rfl
  have z3_ := (blk_cell K2.out 1).trans rfl
  have f0_ := blk_frozen K2.out 0
  have f1_ := blk_frozen K2.out 1
  generalize (w.alloc (.cells #[.slice (some ad) l.length c, .int .i64 0] 82)).alloc (.cells #[.slice none 0 0, .int .i64 0] 82) = wq at *
  have HB := Aside0.mk (below_drew (Below.refl wq.heap.size wq))
  refine start_ (n := 13) (S := fun w' => w'.cell? ⟨w.heap.size, 0, none⟩ = some (.slice (some ad) l.length c)) (ds := [12]) #[false, false, false, false, false, false, false, false, false, false, false, false, false] (by kernel_rfl) rfl rfl (z0_) (fun hHeld => ?_)
  refine pure_ (i := 1) (N := some 22) (v := ?_) (a' := ?_) #[false, true, false, false, false, false, false, false, false, false, false, false, false] rfl rfl (by kernel_rfl) (fun _ _ _ h => h) (Or.inl ⟨by rfl, ?_⟩) ?_ ?_
  rotate_left
  · intro w'
    go_simp
    with_reducible rfl
  rotate_left
  · simp only [Act.put, List.setIfInBounds_toArray, List.set_cons_zero, List.set_cons_succ, i64_w, i32_w]
    rfl
  refine pure_ (i := 3) (N := some 24) (v := ?_) (a' := ?_) #[false, true, false, true, false, false, false, false, false, false, false, false, false] rfl rfl (by kernel_rfl) (fun _ _ _ h => h) (Or.inl ⟨by rfl, ?_⟩) ?_ ?_
  rotate_left
  · intro w'
    go_simp
    with_reducible rfl
  rotate_left
  · simp only [Act.put, List.setIfInBounds_toArray, List.set_cons_zero, List.set_cons_succ, i64_w, i32_w]
    rfl
  refine pure_ (i := 6) (N := some 27) (v := ?_) (a' := ?_) #[false, true, false, true, false, false, true, false, false, false, false, false, false] rfl rfl (by kernel_rfl) (fun _ _ _ h => h) (Or.inl ⟨by rfl, ?_⟩) ?_ ?_
  rotate_left
  · intro w'
    go_simp
    with_reducible rfl
  rotate_left
  · simp only [Act.put, List.setIfInBounds_toArray, List.set_cons_zero, List.set_cons_succ, i64_w, i32_w]
    rfl
  refine pure_ (i := 8) (N := some 29) (v := ?_) (a' := ?_) #[false, true, false, true, false, false, true, false, true, false, false, false, false] rfl rfl (by kernel_rfl) (fun _ _ _ h => h) (Or.inl ⟨by rfl, ?_⟩) ?_ ?_
  rotate_left
  · intro w'
    go_simp
    with_reducible rfl
  rotate_left
  · simp only [Act.put, List.setIfInBounds_toArray, List.set_cons_zero, List.set_cons_succ, i64_w, i32_w]
    rfl
  refine take_ (i := 2) (N := some 23) (v := ?_) (a' := ?_) #[false, true, true, true, false, false, true, false, true, false, false, false, false] rfl rfl (by kernel_rfl) (fun _ _ _ h => h) (Or.inl ⟨by rfl, ?_⟩) hHeld ?_ ?_
  rotate_left
  · intro w' s0
    go_simp
    with_reducible rfl
  rotate_left
  · simp only [Act.put, List.setIfInBounds_toArray, List.set_cons_zero, List.set_cons_succ, i64_w, i32_w]
    rfl
  refine pure_ (i := 4) (N := some 25) (v := ?_) (a' := ?_) #[false, true, true, true, true, false, true, false, true, false, false, false, false] rfl rfl (by kernel_rfl) (fun _ _ _ h => h) (Or.inl ⟨by rfl, ?_⟩) ?_ ?_
  rotate_left
  · intro w'
    go_simp
    with_reducible rfl
  rotate_left
  · simp only [Act.put, List.setIfInBounds_toArray, List.set_cons_zero, List.set_cons_succ, i64_w, i32_w]
    rfl
  refine take_ (i := 7) (N := some 28) (v := ?_) (a' := ?_) #[false, true, true, true, true, false, true, true, true, false, false, false, false] rfl rfl (by kernel_rfl) (fun _ _ _ h => h) (Or.inl ⟨by rfl, ?_⟩) hHeld ?_ ?_
  rotate_left
  · intro w' s0
    go_simp
    with_reducible rfl
  rotate_left
  · simp only [Act.put, List.setIfInBounds_toArray, List.set_cons_zero, List.set_cons_succ, i64_w, i32_w]
    rfl
  refine pure_ (i := 9) (N := some 30) (v := ?_) (a' := ?_) #[false, true, true, true, true, false, true, true, true, true, false, false, false] rfl rfl (by kernel_rfl) (fun _ _ _ h => h) (Or.inl ⟨by rfl, ?_⟩) ?_ ?_
  rotate_left
  · intro w'
    go_simp
    with_reducible rfl
  rotate_left
  · simp only [Act.put, List.setIfInBounds_toArray, List.set_cons_zero, List.set_cons_succ, i64_w, i32_w]
    rfl
  refine pure_ (i := 10) (N := some 31) (v := ?_) (a' := ?_) #[false, true, true, true, true, false, true, true, true, true, true, false, false] rfl rfl (by kernel_rfl) (fun _ _ _ h => h) (Or.inl ⟨by rfl, ?_⟩) ?_ ?_
  rotate_left
  · intro w'
    go_simp
    with_reducible rfl
  rotate_left
  · simp only [Act.put, List.setIfInBounds_toArray, List.set_cons_zero, List.set_cons_succ, i64_w, i32_w]
    rfl
  refine one_ (i := 0) (N := some 21) #[true, true, true, true, true, false, true, true, true, true, true, false, false] rfl rfl (by kernel_rfl) (by decide) (fun K hK => ?_)
  refine Kd.R_lit_step (Kd.int .u8) _ 5 (by rfl) (N := 21) rfl (xs := ([] : List Int)) (inner := []) (ok := fun _ => True) (okp := fun _ => True) ?hr ?hp (fun _ hk => hk) trivial (Below.refl _ _) (Nat.le_refl _) (by simp) ?_
  case hr => first | (go_simp; done) | (go_simp; rfl)
  case hp => exact (Reps.none _ _)
  intro vHO1 wHO1 ho hb hg_ hnew_
  have n0_ := Aside0.mk (Kd.R_lower ho (below_size (by repeat (first | (with_reducible first | exact HB.out | apply below_alloc | apply pw_below_drewN | apply below_drew1) | exact HB.out))))
  have n1_ := Aside0.mk (below_step (by repeat (first | (with_reducible first | exact HB.out | apply below_alloc | apply pw_below_drewN | apply below_drew1) | exact HB.out)) hb)
  clear HB hb ho hg_ hnew_
  have HO1 := n0_
  have HB := n1_
  clear n0_ n1_
  have z0_HO1 := (blk_cell (blk_below K1.out HB.out) 0).trans rfl
  have z1_HO1 := (blk_cell (blk_below K1.out HB.out) 1).trans rfl
  have z2_HO1 := (blk_cell (blk_below K2.out HB.out) 0).trans rfl
  have z3_HO1 := (blk_cell (blk_below K2.out HB.out) 1).trans rfl
  have f0_HO1 := blk_frozen (blk_below K2.out HB.out) 0
  have f1_HO1 := blk_frozen (blk_below K2.out HB.out) 1
  refine hK.out _ _ (z0_HO1) (fun hHeld => ?_)
  clear hK K
  refine norm_ (a' := ?_) ?_ ?_
  rotate_left
  · show Act.put _ (some 21) _ = _
    simp only [Act.put, List.setIfInBounds_toArray, List.set_cons_zero, List.set_cons_succ, i64_w, i32_w]
    rfl
  refine one_ (i := 5) (N := some 26) #[true, true, true, true, true, true, true, true, true, true, true, false, false] rfl rfl (by kernel_rfl) (by decide) (fun K hK => ?_)
  refine Kd.R_append_rows_step (Kd.int .u8) (w0 := wq) wq.heap.size (by rfl) (.tmp 21) (.tmp 25) 25 5 (.int .u8 0) 1 rfl Tryd.underlying25 info5 rfl (by decide) (by omega) vHO1 [] lt _ _ _ (fun _ => True) (fun _ => False) rfl rfl ?aO ?aR (fun _ _ h => h) (fun _ h => h.elim) ?aF ?aB ?aS ?aL ?_
  case aR => exact (Kd.C_below HRt.out (by repeat (first | (with_reducible first | exact HB.out | apply below_alloc | apply pw_below_drewN | apply below_drew1) | exact HB.out)))
  case aB => exact (by repeat (first | (with_reducible first | exact HB.out | apply below_alloc | apply pw_below_drewN | apply below_drew1) | exact HB.out))
  case aF => exact (fun _ _ => trivial)
  case aO => exact (by (with_reducible repeat (first | apply Kd.R_alloc | apply Kd.R_drewN | apply Kd.R_drew)); exact HO1.out)
  case aS => exact (below_size (by repeat (first | (with_reducible first | exact HB.out | apply below_alloc | apply pw_below_drewN | apply below_drew1) | exact HB.out)))
  case aL => simp only [List.length_nil]; have := HLM.out; omega
  intro vHO2 wHO2 ho hb hg hat
  try rw [List.nil_append] at ho
  have n0_ := Aside0.mk hb
  have n1_ := Aside0.mk ho
  clear HB HO1 ho hb hg hat
  have HB := n0_
  have HO2 := n1_
  clear n0_ n1_
  have z0_HO2 := (blk_cell (blk_below K1.out HB.out) 0).trans rfl
  have z1_HO2 := (blk_cell (blk_below K1.out HB.out) 1).trans rfl
  have z2_HO2 := (blk_cell (blk_below K2.out HB.out) 0).trans rfl
  have z3_HO2 := (blk_cell (blk_below K2.out HB.out) 1).trans rfl
  have f0_HO2 := blk_frozen (blk_below K2.out HB.out) 0
  have f1_HO2 := blk_frozen (blk_below K2.out HB.out) 1
  refine hK.out _ _ (z0_HO2) (fun hHeld => ?_)
  clear hK K
  refine norm_ (a' := ?_) ?_ ?_
  rotate_left
  · show Act.put _ (some 26) _ = _
    simp only [Act.put, List.setIfInBounds_toArray, List.set_cons_zero, List.set_cons_succ, i64_w, i32_w]
    rfl
  refine pure_ (i := 11) (N := some 4) (v := ?_) (a' := ?_) #[true, true, true, true, true, true, true, true, true, true, true, true, false] rfl rfl (by kernel_rfl) (fun _ _ _ h => h) (Or.inl ⟨by rfl, ?_⟩) ?_ ?_
  rotate_left
  · intro w'
    go_simp
    with_reducible rfl
  rotate_left
  · simp only [Act.put, List.setIfInBounds_toArray, List.set_cons_zero, List.set_cons_succ, i64_w, i32_w]
    rfl
  refine last_ (i := 12) (N := none) #[true, true, true, true, true, true, true, true, true, true, true, true, true] rfl rfl (by kernel_rfl) (by decide) (fun K hK => ?_)
  refine skip_ (w1 := ?_) (by rfl) rfl ?_ ?_
  rotate_left
  · go_simp
    rfl
  refine hK.out _ _ ?_
  clear hK K
  refine done_ (by kernel_rfl) ?_

  go_wp2
  have hg := blk_lt K2.out
  exact bodyPost_ret (results_tmp_cell_row rfl _ _ (w.heap.size + 1) 82 _ (0, 0) _ rfl (blk_put (blk_put (blk_below K2.out HB.out) 0 _ rfl) 1 _ rfl) Tryd.underlying82 rfl (by kernel_rfl)) rfl
    ⟨_, rfl, Kd.R_lower (R_set_low (R_set_low HO2.out hg _) hg _) HBL.out.size, below_set (below_set (below_step HBL.out HB.out) (Nat.le_succ _)) (Nat.le_succ _)⟩
set_option maxHeartbeats 1000000 in
set_option maxRecDepth 100000 in
theorem fix_2 (ad : Addr) (l lt : List Int) (k : Nat) (w : World) (hk0 : 1 ≤ k) (hk : k ≤ l.length) (hlt : lt.length = k) (hm : l.length < 140737488355328) (hlc : l.length ≤ k)  (hr : Kd.C (Kd.int .u8) w (some ad) lt.length lt) :
    Calls Tryd.prog 74 #[.agg #[.slice (some ad) l.length k, .int .i64 0], .int .i64 (k : Int)] w fun x w' => ∃ V, x = .returned (.tuple #[V, .agg #[.slice (some ad) 0 0, .int .i64 0]]) ∧ Kd.R (Kd.int .u8) 5 w' w.heap.size (fun _ => True) V lt ∧ Below w.heap.size w w' := by
  have b1 : decide ((k : Int) < 1) = false := decide_eq_false (by omega)
  have b2 : decide ((k : Int) > (l.length : Int)) = false := decide_eq_false (by omega)
  have hkc : (k : Int) ≤ (k : Int) := by omega
  have hkl : (k : Int) ≤ (l.length : Int) := by omega
  have hBL := below_alloc (below_alloc (Below.refl w.heap.size w) (.cells #[.slice (some ad) l.length k, .int .i64 0] 82)) (.cells #[.slice none 0 0, .int .i64 0] 82)
  have HRt := Aside0.mk (Kd.C_below hr hBL)
  have HBL := Aside0.mk hBL
  have HLM := Aside0.mk (show 0 + k < 140737488355328 by omega)
  have K1 := Aside0.mk (heap_alloc2_old w (.cells #[.slice (some ad) l.length k, .int .i64 0] 82) (.cells #[.slice none 0 0, .int .i64 0] 82))
  have K2 := Aside0.mk (heap_alloc2_new w (.cells #[.slice (some ad) l.length k, .int .i64 0] 82) (.cells #[.slice none 0 0, .int .i64 0] 82))
  clear hr hBL hm
  rw [hlt] at HRt
  go_enter Tryd.func74, Tryd.ntmps74
  go_wp2
  have z0_ := (blk_cell K1.out 0).trans rfl
  have z1_ := (blk_cell K1.out 1).trans rfl
  have z2_ := (blk_cell K2.out 0).trans rfl
  have z3_ := (blk_cell K2.out 1).trans rfl
  have f0_ := blk_frozen K2.out 0
  have f1_ := blk_frozen K2.out 1
  generalize (w.alloc (.cells #[.slice (some ad) l.length k, .int .i64 0] 82)).alloc (.cells #[.slice none 0 0, .int .i64 0] 82) = wq at *
  have HB := Aside0.mk (below_drew (Below.refl wq.heap.size wq))
  refine start_ (n := 13) (S := fun w' => w'.cell? ⟨w.heap.size, 0, none⟩ = some (.slice (some ad) l.length k)) (ds := [12]) #[false, false, false, false, false, false, false, false, false, false, false, false, false] (by kernel_rfl) rfl rfl (z0_) (fun hHeld => ?_)
  refine pure_ (i := 1) (N := some 22) (v := ?_) (a' := ?_) #[false, true, false, false, false, false, false, false, false, false, false, false, false] rfl rfl (by kernel_rfl) (fun _ _ _ h => h) (Or.inl ⟨by rfl, ?_⟩) ?_ ?_
  rotate_left
  · intro w'
    go_simp
    with_reducible rfl
  rotate_left
  · simp only [Act.put, List.setIfInBounds_toArray, List.set_cons_zero, List.set_cons_succ, i64_w, i32_w]
    rfl
  refine pure_ (i := 3) (N := some 24) (v := ?_) (a' := ?_) #[false, true, false, true, false, false, false, false, false, false, false, false, false] rfl rfl (by kernel_rfl) (fun _ _ _ h => h) (Or.inl ⟨by rfl, ?_⟩) ?_ ?_
  rotate_left
  · intro w'
    go_simp
    with_reducible rfl
  rotate_left
  · simp only [Act.put, List.setIfInBounds_toArray, List.set_cons_zero, List.set_cons_succ, i64_w, i32_w]
    rfl
  refine pure_ (i := 6) (N := some 27) (v := ?_) (a' := ?_) #[false, true, false, true, false, false, true, false, false, false, false, false, false] rfl rfl (by kernel_rfl) (fun _ _ _ h => h) (Or.inl ⟨by rfl, ?_⟩) ?_ ?_
  rotate_left
  · intro w'
    go_simp
    with_reducible rfl
  rotate_left
  · simp only [Act.put, List.setIfInBounds_toArray, List.set_cons_zero, List.set_cons_succ, i64_w, i32_w]
    rfl
  refine pure_ (i := 8) (N := some 29) (v := ?_) (a' := ?_) #[false, true, false, true, false, false, true, false, true, false, false, false, false] rfl rfl (by kernel_rfl) (fun _ _ _ h => h) (Or.inl ⟨by rfl, ?_⟩) ?_ ?_
  rotate_left
  · intro w'
    go_simp
    with_reducible rfl
  rotate_left
  · simp only [Act.put, List.setIfInBounds_toArray, List.set_cons_zero, List.set_cons_succ, i64_w, i32_w]
    rfl
  refine take_ (i := 2) (N := some 23) (v := ?_) (a' := ?_) #[false, true, true, true, false, false, true, false, true, false, false, false, false] rfl rfl (by kernel_rfl) (fun _ _ _ h => h) (Or.inl ⟨by rfl, ?_⟩) hHeld ?_ ?_
  rotate_left
  · intro w' s0
    go_simp
    with_reducible rfl
  rotate_left
  · simp only [Act.put, List.setIfInBounds_toArray, List.set_cons_zero, List.set_cons_succ, i64_w, i32_w]
    rfl
  refine pure_ (i := 4) (N := some 25) (v := ?_) (a' := ?_) #[false, true, true, true, true, false, true, false, true, false, false, false, false] rfl rfl (by kernel_rfl) (fun _ _ _ h => h) (Or.inl ⟨by rfl, ?_⟩) ?_ ?_
  rotate_left
  · intro w'
    go_simp
    with_reducible rfl
  rotate_left
  · simp only [Act.put, List.setIfInBounds_toArray, List.set_cons_zero, List.set_cons_succ, i64_w, i32_w]
    rfl
  refine take_ (i := 7) (N := some 28) (v := ?_) (a' := ?_) #[false, true, true, true, true, false, true, true, true, false, false, false, false] rfl rfl (by kernel_rfl) (fun _ _ _ h => h) (Or.inl ⟨by rfl, ?_⟩) hHeld ?_ ?_
  rotate_left
  · intro w' s0
    go_simp
    with_reducible rfl
  rotate_left
  · simp only [Act.put, List.setIfInBounds_toArray, List.set_cons_zero, List.set_cons_succ, i64_w, i32_w]
    rfl
  refine pure_ (i := 9) (N := some 30) (v := ?_) (a' := ?_) #[false, true, true, true, true, false, true, true, true, true, false, false, false] rfl rfl (by kernel_rfl) (fun _ _ _ h => h) (Or.inl ⟨by rfl, ?_⟩) ?_ ?_
  rotate_left
  · intro w'
    go_simp
    with_reducible rfl
  rotate_left
  · simp only [Act.put, List.setIfInBounds_toArray, List.set_cons_zero, List.set_cons_succ, i64_w, i32_w]
    rfl
  refine pure_ (i := 10) (N := some 31) (v := ?_) (a' := ?_) #[false, true, true, true, true, false, true, true, true, true, true, false, false] rfl rfl (by kernel_rfl) (fun _ _ _ h => h) (Or.inl ⟨by rfl, ?_⟩) ?_ ?_
  rotate_left
  · intro w'
    go_simp
    with_reducible rfl
  rotate_left
  · simp only [Act.put, List.setIfInBounds_toArray, List.set_cons_zero, List.set_cons_succ, i64_w, i32_w]
    rfl
  refine one_ (i := 0) (N := some 21) #[true, true, true, true, true, false, true, true, true, true, true, false, false] rfl rfl (by kernel_rfl) (by decide) (fun K hK => ?_)
  refine Kd.R_lit_step (Kd.int .u8) _ 5 (by rfl) (N := 21) rfl (xs := ([] : List Int)) (inner := []) (ok := fun _ => True) (okp := fun _ => True) ?hr ?hp (fun _ hk => hk) trivial (Below.refl _ _) (Nat.le_refl _) (by simp) ?_
  case hr => first | (go_simp; done) | (go_simp; rfl)
  case hp => exact (Reps.none _ _)
  intro vHO1 wHO1 ho hb hg_ hnew_
  have n0_ := Aside0.mk (Kd.R_lower ho (below_size (by repeat (first | (with_reducible first | exact HB.out | apply below_alloc | apply pw_below_drewN | apply below_drew1) | exact HB.out))))
  have n1_ := Aside0.mk (below_step (by repeat (first | (with_reducible first | exact HB.out | apply below_alloc | apply pw_below_drewN | apply below_drew1) | exact HB.out)) hb)
  clear HB hb ho hg_ hnew_
  have HO1 := n0_
  have HB := n1_
  clear n0_ n1_
  have z0_HO1 := (blk_cell (blk_below K1.out HB.out) 0).trans rfl
  have z1_HO1 := (blk_cell (blk_below K1.out HB.out) 1).trans rfl
  have z2_HO1 := (blk_cell (blk_below K2.out HB.out) 0).trans rfl
  have z3_HO1 := (blk_cell (blk_below K2.out HB.out) 1).trans rfl
  have f0_HO1 := blk_frozen (blk_below K2.out HB.out) 0
  have f1_HO1 := blk_frozen (blk_below K2.out HB.out) 1
  refine hK.out _ _ (z0_HO1) (fun hHeld => ?_)
  clear hK K
  refine norm_ (a' := ?_) ?_ ?_
  rotate_left
  · show Act.put _ (some 21) _ = _
    simp only [Act.put, List.setIfInBounds_toArray, List.set_cons_zero, List.set_cons_succ, i64_w, i32_w]
    rfl
  refine one_ (i := 5) (N := some 26) #[true, true, true, true, true, true, true, true, true, true, true, false, false] rfl rfl (by kernel_rfl) (by decide) (fun K hK => ?_)
  refine Kd.R_append_rows_step (Kd.int .u8) (w0 := wq) wq.heap.size (by rfl) (.tmp 21) (.tmp 25) 25 5 (.int .u8 0) 1 rfl Tryd.underlying25 info5 rfl (by decide) (by omega) vHO1 [] lt _ _ _ (fun _ => True) (fun _ => False) rfl rfl ?aO ?aR (fun _ _ h => h) (fun _ h => h.elim) ?aF ?aB ?aS ?aL ?_
  case aR => exact (Kd.C_below HRt.out (by repeat (first | (with_reducible first | exact HB.out | apply below_alloc | apply pw_below_drewN | apply below_drew1) | exact HB.out)))
  case aB => exact (by repeat (first | (with_reducible first | exact HB.out | apply below_alloc | apply pw_below_drewN | apply below_drew1) | exact HB.out))
  case aF => exact (fun _ _ => trivial)
  case aO => exact (by (with_reducible repeat (first | apply Kd.R_alloc | apply Kd.R_drewN | apply Kd.R_drew)); exact HO1.out)
  case aS => exact (below_size (by repeat (first | (with_reducible first | exact HB.out | apply below_alloc | apply pw_below_drewN | apply below_drew1) | exact HB.out)))
  case aL => simp only [List.length_nil]; have := HLM.out; omega
  intro vHO2 wHO2 ho hb hg hat
  try rw [List.nil_append] at ho
  have n0_ := Aside0.mk hb
  have n1_ := Aside0.mk ho
  clear HB HO1 ho hb hg hat
  have HB := n0_
  have HO2 := n1_
  clear n0_ n1_
  have z0_HO2 := (blk_cell (blk_below K1.out HB.out) 0).trans rfl
  have z1_HO2 := (blk_cell (blk_below K1.out HB.out) 1).trans rfl
  have z2_HO2 := (blk_cell (blk_below K2.out HB.out) 0).trans rfl
  have z3_HO2 := (blk_cell (blk_below K2.out HB.out) 1).trans rfl
  have f0_HO2 := blk_frozen (blk_below K2.out HB.out) 0
  have f1_HO2 := blk_frozen (blk_below K2.out HB.out) 1
  refine hK.out _ _ (z0_HO2) (fun hHeld => ?_)
  clear hK K
  refine norm_ (a' := ?_) ?_ ?_
  rotate_left
  · show Act.put _ (some 26) _ = _
    simp only [Act.put, List.setIfInBounds_toArray, List.set_cons_zero, List.set_cons_succ, i64_w, i32_w]
    rfl
  refine pure_ (i := 11) (N := some 4) (v := ?_) (a' := ?_) #[true, true, true, true, true, true, true, true, true, true, true, true, false] rfl rfl (by kernel_rfl) (fun _ _ _ h => h) (Or.inl ⟨by rfl, ?_⟩) ?_ ?_
  rotate_left
  · intro w'
    go_simp
    with_reducible rfl
  rotate_left
  · simp only [Act.put, List.setIfInBounds_toArray, List.set_cons_zero, List.set_cons_succ, i64_w, i32_w]
    rfl
  refine last_ (i := 12) (N := none) #[true, true, true, true, true, true, true, true, true, true, true, true, true] rfl rfl (by kernel_rfl) (by decide) (fun K hK => ?_)
  refine skip_ (w1 := ?_) (by rfl) rfl ?_ ?_
  rotate_left
  · go_simp
    rfl
  refine hK.out _ _ ?_
  clear hK K
  refine done_ (by kernel_rfl) ?_

  go_wp2
  have hg := blk_lt K2.out
  exact bodyPost_ret (results_tmp_cell_row rfl _ _ (w.heap.size + 1) 82 _ (0, 0) _ rfl (blk_put (blk_put (blk_below K2.out HB.out) 0 _ rfl) 1 _ rfl) Tryd.underlying82 rfl (by kernel_rfl)) rfl
    ⟨_, rfl, Kd.R_lower (R_set_low (R_set_low HO2.out hg _) hg _) HBL.out.size, below_set (below_set (below_step HBL.out HB.out) (Nat.le_succ _)) (Nat.le_succ _)⟩
set_option maxHeartbeats 1000000 in
set_option maxRecDepth 100000 in
theorem fix_0 (A : Option Addr) (c : Nat) (er n : Int) (l : List Int) (w : World) (he : er ≠ 0) :
    Calls Tryd.prog 74 #[.agg #[.slice A l.length c, .int .i64 er], .int .i64 n] w fun x w' => x = .returned (.tuple #[.slice none 0 0, .agg #[.slice A l.length c, .int .i64 er]]) ∧ Below w.heap.size w w' := by
  have HBL := Aside0.mk (Below.refl w.heap.size w)
  have he1 : (er != 0) = true := bne_iff_ne.mpr he
  go_enter Tryd.func74, Tryd.ntmps74
  go_wp2
  go_region
  go_wp2
  exact bodyPost_ret (results_tmp_cell_row rfl _ _ (w.heap.size + 1) 82 _ (0, 0) _ rfl (heap_alloc2_new _ _ _) Tryd.underlying82 rfl (by kernel_rfl)) rfl ⟨rfl, below_drew1 (below_alloc (below_alloc HBL.out _) _)⟩
set_option maxHeartbeats 1000000 in
set_option maxRecDepth 100000 in
theorem fix_n (A : Option Addr) (c : Nat) (n : Int) (l : List Int) (w : World) (he : n < 1) :
    Calls Tryd.prog 74 #[.agg #[.slice A l.length c, .int .i64 0], .int .i64 n] w fun x w' => x = .returned (.tuple #[.slice none 0 0, .agg #[.slice A l.length c, .int .i64 0]]) ∧ Below w.heap.size w w' := by
  have HBL := Aside0.mk (Below.refl w.heap.size w)
  have he1 := decide_eq_true he
  go_enter Tryd.func74, Tryd.ntmps74
  go_wp2
  go_region
  go_wp2
  exact bodyPost_ret (results_tmp_cell_row rfl _ _ (w.heap.size + 1) 82 _ (0, 0) _ rfl (heap_alloc2_new _ _ _) Tryd.underlying82 rfl (by kernel_rfl)) rfl ⟨rfl, below_drew1 (below_alloc (below_alloc HBL.out _) _)⟩
set_option maxHeartbeats 1000000 in
set_option maxRecDepth 100000 in
theorem fix_s (A : Option Addr) (c : Nat) (n : Int) (l : List Int) (w : World) (he : ¬ n < 1) (hs : (l.length : Int) < n) :
    Calls Tryd.prog 74 #[.agg #[.slice A l.length c, .int .i64 0], .int .i64 n] w fun x w' => x = .returned (.tuple #[.slice none 0 0, .agg #[.slice A l.length c, .int .i64 3]]) ∧ Below w.heap.size w w' := by
  have he1 := decide_eq_false he
  have he2 : decide (n > (l.length : Int)) = true := decide_eq_true hs
  go_enter Tryd.func74, Tryd.ntmps74
  go_wp2_with (first | (go_at_call 66; refine (fail_calls0 A l.length c 3 _).mono ?_; rintro x w3 ⟨rfl, hb⟩; have BK3 := blk_below (heap_alloc2_new w _ _) hb; have HB3 := Aside0.mk (below_step (below_alloc (below_alloc (Below.refl w.heap.size w) _) _) hb); clear hb; have hz3 := (blk_cell BK3 0).trans rfl; have hz4 := (blk_cell BK3 1).trans rfl; have hf0 := blk_frozen BK3 0; have hf1 := blk_frozen BK3 1))
  exact bodyPost_ret (results_tmp_cell_row rfl _ _ (w.heap.size + 1) 82 _ (0, 0) _ rfl (blk_put (blk_put BK3 0 _ rfl) 1 _ rfl) Tryd.underlying82 rfl (by kernel_rfl)) rfl ⟨rfl, below_set (below_set HB3.out (by omega)) (by omega)⟩
set_option maxHeartbeats 1000000 in
set_option maxRecDepth 100000 in
theorem rfix_0 (A : Option Addr) (c : Nat) (er n : Int) (l : List Int) (w : World) (he : er ≠ 0) :
    Calls Tryd.prog 70 #[.agg #[.slice A l.length c, .int .i64 er], .int .i64 n] w fun x w' => x = .returned (.tuple #[.slice none 0 0, .agg #[.slice A l.length c, .int .i64 er]]) ∧ Below w.heap.size w w' := by
  have HBL := Aside0.mk (Below.refl w.heap.size w)
  have he1 : (er != 0) = true := bne_iff_ne.mpr he
  go_enter Tryd.func70, Tryd.ntmps70
  go_wp2
  go_region
  go_wp2
  exact bodyPost_ret (results_tmp_cell_row rfl _ _ (w.heap.size + 1) 90 _ (0, 0) _ rfl (heap_alloc2_new _ _ _) Tryd.underlying90 rfl (by kernel_rfl)) rfl ⟨rfl, below_drew1 (below_alloc (below_alloc HBL.out _) _)⟩
set_option maxHeartbeats 1000000 in
set_option maxRecDepth 100000 in
theorem rfix_n (A : Option Addr) (c : Nat) (n : Int) (l : List Int) (w : World) (he : n < 1) :
    Calls Tryd.prog 70 #[.agg #[.slice A l.length c, .int .i64 0], .int .i64 n] w fun x w' => x = .returned (.tuple #[.slice none 0 0, .agg #[.slice A l.length c, .int .i64 0]]) ∧ Below w.heap.size w w' := by
  have HBL := Aside0.mk (Below.refl w.heap.size w)
  have he1 := decide_eq_true he
  go_enter Tryd.func70, Tryd.ntmps70
  go_wp2
  go_region
  go_wp2
  exact bodyPost_ret (results_tmp_cell_row rfl _ _ (w.heap.size + 1) 90 _ (0, 0) _ rfl (heap_alloc2_new _ _ _) Tryd.underlying90 rfl (by kernel_rfl)) rfl ⟨rfl, below_drew1 (below_alloc (below_alloc HBL.out _) _)⟩
set_option maxHeartbeats 1000000 in
set_option maxRecDepth 100000 in
theorem rfix_s (A : Option Addr) (c : Nat) (n : Int) (l : List Int) (w : World) (he : ¬ n < 1) (hs : (l.length : Int) < n) :
    Calls Tryd.prog 70 #[.agg #[.slice A l.length c, .int .i64 0], .int .i64 n] w fun x w' => x = .returned (.tuple #[.slice none 0 0, .agg #[.slice A l.length c, .int .i64 3]]) ∧ Below w.heap.size w w' := by
  have he1 := decide_eq_false he
  have he2 : decide (n > (l.length : Int)) = true := decide_eq_true hs
  go_enter Tryd.func70, Tryd.ntmps70
  go_wp2_with (first | (go_at_call 69; refine (rfail_calls A l.length c 0 3 _).mono ?_; rintro x w3 ⟨rfl, hb⟩; have BK3 := blk_below (heap_alloc2_new w _ _) hb; have HB3 := Aside0.mk (below_step (below_alloc (below_alloc (Below.refl w.heap.size w) _) _) hb); clear hb; have hz3 := (blk_cell BK3 0).trans rfl; have hz4 := (blk_cell BK3 1).trans rfl; have hf0 := blk_frozen BK3 0; have hf1 := blk_frozen BK3 1))
  exact bodyPost_ret (results_tmp_cell_row rfl _ _ (w.heap.size + 1) 90 _ (0, 0) _ rfl (blk_put (blk_put BK3 0 _ rfl) 1 _ rfl) Tryd.underlying90 rfl (by kernel_rfl)) rfl ⟨rfl, below_set (below_set HB3.out (by omega)) (by omega)⟩
set_option maxHeartbeats 1000000 in
set_option maxRecDepth 100000 in
theorem rfix_1 (ad : Addr) (c : Nat) (l : List Int) (k : Nat) (w0 w : World) (hr0 : Kd.C (Kd.int .u8) w0 (some ad) l.length l) (hk0 : 1 ≤ k) (hk : k ≤ l.length) (hlc : l.length ≤ c) (hb : Bytes l) :
    Calls Tryd.prog 70 #[.agg #[.slice (some ad) l.length c, .int .i64 0], .int .i64 (k : Int)] w fun x w' => ∃ v', x = .returned (.tuple #[.slice (some ad) k c, v']) ∧ Scn w0 v' (l.drop k) 0 ∧ Below w.heap.size w w' := by
  have b1 : decide ((k : Int) < 1) = false := decide_eq_false (by omega)
  have b2 : decide ((k : Int) > (l.length : Int)) = false := decide_eq_false (by omega)
  have hkc : (k : Int) ≤ (c : Int) := by omega
  have hkl : (k : Int) ≤ (l.length : Int) := by omega
  have HBL := Aside0.mk (below_alloc (below_alloc (Below.refl w.heap.size w) (.cells #[.slice (some ad) l.length c, .int .i64 0] 90)) (.cells #[.slice none 0 0, .int .i64 0] 90))
  have HR := Aside0.mk hr0
  have HY := Aside0.mk hb
  have K1 := Aside0.mk (heap_alloc2_old w (.cells #[.slice (some ad) l.length c, .int .i64 0] 90) (.cells #[.slice none 0 0, .int .i64 0] 90))
  have K2 := Aside0.mk (heap_alloc2_new w (.cells #[.slice (some ad) l.length c, .int .i64 0] 90) (.cells #[.slice none 0 0, .int .i64 0] 90))
  clear hr0 hb
  go_enter Tryd.func70, Tryd.ntmps70
  go_wp2
  have z0_ := (blk_cell K1.out 0).trans rfl
  have z1_ := (blk_cell K1.out 1).trans rfl
  have z2_ := (blk_cell K2.out 0).trans rfl
  have z3_ := (blk_cell K2.out 1).trans rfl
  have f0_ := blk_frozen K2.out 0
  have f1_ := blk_frozen K2.out 1
  generalize (w.alloc (.cells #[.slice (some ad) l.length c, .int .i64 0] 90)).alloc (.cells #[.slice none 0 0, .int .i64 0] 90) = wq at *
  go_region
  go_wp2
  all_goals
    have HBE : ∀ v, Below w.heap.size w ((wq.setCell ⟨w.heap.size + 1, 0, none⟩ v).setCell ⟨w.heap.size + 1, 1, none⟩ (.int .i64 0)).drew := fun v => below_drew1 (below_set (below_set HBL.out (Nat.le_succ _)) (Nat.le_succ _))
    refine bodyPost_ret (results_tmp_cell_row rfl _ _ (w.heap.size + 1) 90 _ (0, 0) _ rfl (blk_put (blk_put K2.out 0 _ rfl) 1 _ rfl) Tryd.underlying90 rfl (by kernel_rfl)) rfl ⟨_, rfl, ?_, HBE _⟩
    first | exact scn_drop_all HR.out (by omega) (by omega) HY.out | exact scn_drop HR.out (by omega) hlc HY.out (by omega)
/-- what Fixed tells: the bytes, how many it took, the error -/
def fixP (l : List Int) (er n : Int) : List Int × Nat × Int := if er ≠ 0 ∨ n < 1 then ([], 0, er) else if (l.length : Int) < n then ([], 0, 3) else (l.take n.toNat, n.toNat, 0)
/-- bytes that are read -/
def Rd (w : World) (v : Value) (l : List Int) : Prop := ∃ A c, v = .slice A l.length c ∧ Kd.C (Kd.int .u8) w A l.length l ∧ l.length ≤ c
theorem Rd.below {w w' : World} {v : Value} {l : List Int} (h : Rd w v l) (hb : Below w.heap.size w w') : Rd w' v l := by
  obtain ⟨A, c, e, h1, h2⟩ := h
  exact ⟨A, c, e, Kd.C_below h1 hb, h2⟩
theorem Rd.nil (w : World) : Rd w (.slice none 0 0) [] := ⟨none, 0, rfl, Kd.C_nil _ w, Nat.le_refl _⟩
theorem Rd.own {e base : Nat} {w : World} {v : Value} {l : List Int} {ok : Nat → Prop} (h : Kd.R (Kd.int .u8) e w base ok v l) : Rd w v l := by
  obtain ⟨A, c, e⟩ := Kd.R_slice h
  subst e
  obtain ⟨_, h2, h3⟩ := Kd.R_reads' h
  exact ⟨A, c, rfl, h3, h2⟩
theorem fix_calls {w0 w : World} {v : Value} {l : List Int} {er : Int} (h : Scn w0 v l er) (hW : Below w0.heap.size w0 w) (hm : l.length < 140737488355328) (n : Int) :
    Calls Tryd.prog 74 #[v, .int .i64 n] w fun x w' => ∃ V v', x = .returned (.tuple #[V, v']) ∧ Kd.R (Kd.int .u8) 5 w' w.heap.size (fun _ => True) V (fixP l er n).1 ∧ Scn w0 v' (l.drop (fixP l er n).2.1) (fixP l er n).2.2 ∧ Below w.heap.size w w' := by
  obtain ⟨A, c, rfl, hr0, hc, hb⟩ := h
  have hr := Kd.C_below hr0 hW
  unfold fixP
  by_cases he : er ≠ 0
  · rw [if_pos (.inl he)]
    refine (fix_0 A c er n l w he).mono ?_
    rintro x w' ⟨rfl, hB⟩
    exact ⟨_, _, rfl, Kd.R_nil _ _ _ _ _, ⟨A, c, rfl, hr0, hc, hb⟩, hB⟩
  obtain rfl : er = 0 := by omega
  by_cases hn : n < 1
  · rw [if_pos (.inr hn)]
    refine (fix_n A c n l w hn).mono ?_
    rintro x w' ⟨rfl, hB⟩
    exact ⟨_, _, rfl, Kd.R_nil _ _ _ _ _, ⟨A, c, rfl, hr0, hc, hb⟩, hB⟩
  rw [if_neg (fun h => h.elim he hn)]
  by_cases hs : (l.length : Int) < n
  · rw [if_pos hs]
    refine (fix_s A c n l w hn hs).mono ?_
    rintro x w' ⟨rfl, hB⟩
    exact ⟨_, _, rfl, Kd.R_nil _ _ _ _ _, ⟨A, c, rfl, hr0, hc, hb⟩, hB⟩
  rw [if_neg hs]
  obtain ⟨k, rfl⟩ : ∃ k : Nat, n = k := ⟨n.toNat, by omega⟩
  rw [Int.toNat_natCast]
  obtain ⟨ad, rfl, _⟩ := Kd.at_int hr 0 (by omega) (by omega)
  have ht : (l.take k).length = k := by rw [List.length_take]; omega
  have hrt := Kd.C_take hr (show k ≤ l.length by omega)
  by_cases hck : c = k
  · subst hck
    refine (fix_2 ad l (l.take c) c w (by omega) (by omega) ht hm hc hrt).mono ?_
    rintro x w' ⟨V, rfl, hV, hB⟩
    have := scn_drop_all hr0 (show c ≤ l.length by omega) hc hb
    rw [show l.length - c = 0 by omega] at this
    exact ⟨V, _, rfl, hV, this, hB⟩
  · refine (fix_1 ad c l (l.take k) k w (by omega) (by omega) ht hm hc hck hrt).mono ?_
    rintro x w' ⟨V, rfl, hV, hB⟩
    exact ⟨V, _, rfl, hV, scn_drop hr0 (show k ≤ l.length by omega) hc hb hck, hB⟩
theorem rfix_calls {w0 w : World} {v : Value} {l : List Int} {er : Int} (h : Scn w0 v l er) (hW : Below w0.heap.size w0 w) (n : Int) :
    Calls Tryd.prog 70 #[v, .int .i64 n] w fun x w' => ∃ V v', x = .returned (.tuple #[V, v']) ∧ Rd w0 V (fixP l er n).1 ∧ Scn w0 v' (l.drop (fixP l er n).2.1) (fixP l er n).2.2 ∧ Below w.heap.size w w' := by
  obtain ⟨A, c, rfl, hr0, hc, hb⟩ := h
  have hr := Kd.C_below hr0 hW
  unfold fixP
  by_cases he : er ≠ 0
  · rw [if_pos (.inl he)]
    refine (rfix_0 A c er n l w he).mono ?_
    rintro x w' ⟨rfl, hB⟩
    exact ⟨_, _, rfl, Rd.nil _, ⟨A, c, rfl, hr0, hc, hb⟩, hB⟩
  obtain rfl : er = 0 := by omega
  by_cases hn : n < 1
  · rw [if_pos (.inr hn)]
    refine (rfix_n A c n l w hn).mono ?_
    rintro x w' ⟨rfl, hB⟩
    exact ⟨_, _, rfl, Rd.nil _, ⟨A, c, rfl, hr0, hc, hb⟩, hB⟩
  rw [if_neg (fun h => h.elim he hn)]
  by_cases hs : (l.length : Int) < n
  · rw [if_pos hs]
    refine (rfix_s A c n l w hn hs).mono ?_
    rintro x w' ⟨rfl, hB⟩
    exact ⟨_, _, rfl, Rd.nil _, ⟨A, c, rfl, hr0, hc, hb⟩, hB⟩
  rw [if_neg hs]
  obtain ⟨k, rfl⟩ : ∃ k : Nat, n = k := ⟨n.toNat, by omega⟩
  rw [Int.toNat_natCast]
  obtain ⟨ad, rfl, _⟩ := Kd.at_int hr 0 (by omega) (by omega)
  have ht : (l.take k).length = k := by rw [List.length_take]; omega
  refine (rfix_1 ad c l k w0 w hr0 (by omega) (by omega) hc hb).mono ?_
  rintro x w' ⟨v', rfl, hv, hB⟩
  exact ⟨_, v', rfl, ⟨some ad, c, by rw [ht], Kd.C_take hr0 (by omega), by show (l.take k).length ≤ c; omega⟩, hv, hB⟩
end Go.Proofs.YthpgbhpnlnpfnaaDoor.Law

namespace Go.Proofs.YthpgbhpnlnpfnaaDoor.Law
open Go.RowKit Go.Proofs.YthpgbhpnlnpfnaaDoor Go.Proofs.YthpgbhpnlnpfnaaDoorW.PrintWords Go.Proofs.YthpgbhpnlnpfnaaDoorW.PrintLast Go.Proofs.YthpgbhpnlnpfnaaDoorW.PrintMore Go.Proofs.YthpgbhpnlnpfnaaDoor.E
set_option linter.unusedSimpArgs false
theorem num_er {l : List Int} {er a b : Int} (h : (numP l er a b).2.2 = 0) : er = 0 := by
  revert h; unfold numP
  split
  · intro h; exact h
  · intro _; omega
theorem num_stay {l : List Int} {er a b : Int} (h : (numP l er a b).2.2 ≠ 0) : (numP l er a b).2.1 = 0 := by
  revert h; unfold numP
  split
  · intro _; rfl
  · split
    · intro _; rfl
    · split
      · intro _; rfl
      · intro h; exact absurd rfl h
theorem below_alloc2 {w0 w : World} (h : Below w0.heap.size w0 w) (o o' : Obj) : Below w0.heap.size w0 ((w.alloc o).alloc o') := below_alloc (below_alloc h o) o'
/-- what Text tells: the bytes, how many it took, the error -/
def textP (l : List Int) (er most : Int) : List Int × Nat × Int :=
  if (numP l er 0 far).2.2 ≠ 0 then ([], 0, (numP l er 0 far).2.2) else if max most 0 < (numP l er 0 far).1 then ([], 0, 2) else if ((l.drop (numP l er 0 far).2.1).length : Int) < (numP l er 0 far).1 then ([], 0, 3)
  else ((fixP (l.drop (numP l er 0 far).2.1) 0 (numP l er 0 far).1).1, (numP l er 0 far).2.1 + (fixP (l.drop (numP l er 0 far).2.1) 0 (numP l er 0 far).1).2.1, (fixP (l.drop (numP l er 0 far).2.1) 0 (numP l er 0 far).1).2.2)
set_option maxHeartbeats 1000000 in
set_option maxRecDepth 100000 in
theorem text_0 (A : Option Addr) (c : Nat) (er most n e : Int) (k : Nat) (l l' : List Int) (w0 w : World) (hr : Kd.C (Kd.int .u8) w0 A l.length l) (hc : l.length ≤ c) (hb : Bytes l) (hw : Below w0.heap.size w0 w) (hl : l.drop k = l') (hx : numP l er 0 far = (n, k, e)) (he : e ≠ 0) :
    Calls Tryd.prog 67 #[.agg #[.slice A l.length c, .int .i64 er], .int .i64 most] w fun x w' => ∃ v', x = .returned (.tuple #[.slice none 0 0, v']) ∧ Scn w0 v' l' e ∧ Below w.heap.size w w' := by
  have HS := Aside0.mk (show Scn w0 (.agg #[.slice A l.length c, .int .i64 er]) l er from ⟨A, c, rfl, hr, hc, hb⟩)
  have HX := Aside0.mk hx
  have HL := Aside0.mk hl
  have HW := Aside0.mk hw
  clear hr hc hb hx hl hw
  have he1 : (e != 0) = true := bne_iff_ne.mpr he
  go_enter Tryd.func67, Tryd.ntmps67
  go_wp2_with (first | (go_at_call 52; refine (num_calls HS.out (below_alloc2 HW.out (.cells #[.slice A l.length c, .int .i64 er] 82) (.cells #[.slice none 0 0, .int .i64 0] 82)) 0 9007199254740992).mono ?_; rw [show (9007199254740992 : Int) = far from rfl, HX.out]; dsimp only; rw [HL.out]; rintro x w2 ⟨v', rfl, ⟨A', c', rfl, hr', hc', hy'⟩, hb⟩; have K1 := Aside0.mk (blk_below (blk_below (heap_alloc2_old w (.cells #[.slice A l.length c, .int .i64 er] 82) (.cells #[.slice none 0 0, .int .i64 0] 82)) hb) (below_alloc (Below.refl w2.heap.size w2) (.cells #[.slice A' l'.length c', .int .i64 e] 82))); have K2 := Aside0.mk (blk_below (blk_below (heap_alloc2_new w (.cells #[.slice A l.length c, .int .i64 er] 82) (.cells #[.slice none 0 0, .int .i64 0] 82)) hb) (below_alloc (Below.refl w2.heap.size w2) (.cells #[.slice A' l'.length c', .int .i64 e] 82))); have HB2 := Aside0.mk (below_alloc (below_step (below_alloc (below_alloc (Below.refl w.heap.size w) (.cells #[.slice A l.length c, .int .i64 er] 82)) (.cells #[.slice none 0 0, .int .i64 0] 82)) hb) (.cells #[.slice A' l'.length c', .int .i64 e] 82)); have HR' := Aside0.mk hr'; have HC' := Aside0.mk hc'; have HY' := Aside0.mk hy'; clear hb hr' hc' hy'; have z0_ := (blk_cell K1.out 0).trans rfl; have z1_ := (blk_cell K1.out 1).trans rfl; have z2_ := (blk_cell K2.out 0).trans rfl; have z3_ := (blk_cell K2.out 1).trans rfl; have f0_ := blk_frozen K2.out 0; have f1_ := blk_frozen K2.out 1))
  go_region
  go_wp2
  exact bodyPost_ret (results_tmp_cell_row rfl _ _ (w.heap.size + 1) 82 _ (0, 0) _ rfl (blk_put (blk_put K2.out 0 _ rfl) 1 _ rfl) Tryd.underlying82 rfl (by kernel_rfl)) rfl ⟨_, rfl, ⟨A', c', rfl, HR'.out, HC'.out, HY'.out⟩, below_drew1 (below_set (below_set HB2.out (Nat.le_succ _)) (Nat.le_succ _))⟩
set_option maxHeartbeats 1000000 in
set_option maxRecDepth 100000 in
theorem text_1 (A : Option Addr) (c : Nat) (most n : Int) (k : Nat) (l l' : List Int) (w0 w : World) (hr : Kd.C (Kd.int .u8) w0 A l.length l) (hc : l.length ≤ c) (hb : Bytes l) (hw : Below w0.heap.size w0 w) (hl : l.drop k = l') (hx : numP l 0 0 far = (n, k, 0)) (hm : max most 0 < n) :
    Calls Tryd.prog 67 #[.agg #[.slice A l.length c, .int .i64 0], .int .i64 most] w fun x w' => x = .returned (.tuple #[.slice none 0 0, .agg #[.slice A l.length c, .int .i64 2]]) ∧ Below w.heap.size w w' := by
  have HS := Aside0.mk (show Scn w0 (.agg #[.slice A l.length c, .int .i64 0]) l 0 from ⟨A, c, rfl, hr, hc, hb⟩)
  have HX := Aside0.mk hx
  have HL := Aside0.mk hl
  have HW := Aside0.mk hw
  clear hr hc hb hx hl hw
  have b1 : decide (n > max most 0) = true := decide_eq_true hm
  go_enter Tryd.func67, Tryd.ntmps67
  go_wp2_with (first | (go_at_call 52; refine (num_calls HS.out (below_alloc2 HW.out (.cells #[.slice A l.length c, .int .i64 0] 82) (.cells #[.slice none 0 0, .int .i64 0] 82)) 0 9007199254740992).mono ?_; rw [show (9007199254740992 : Int) = far from rfl, HX.out]; dsimp only; rw [HL.out]; rintro x w2 ⟨v', rfl, ⟨A', c', rfl, hr', hc', hy'⟩, hb⟩; have K1 := Aside0.mk (blk_below (blk_below (heap_alloc2_old w (.cells #[.slice A l.length c, .int .i64 0] 82) (.cells #[.slice none 0 0, .int .i64 0] 82)) hb) (below_alloc (Below.refl w2.heap.size w2) (.cells #[.slice A' l'.length c', .int .i64 0] 82))); have K2 := Aside0.mk (blk_below (blk_below (heap_alloc2_new w (.cells #[.slice A l.length c, .int .i64 0] 82) (.cells #[.slice none 0 0, .int .i64 0] 82)) hb) (below_alloc (Below.refl w2.heap.size w2) (.cells #[.slice A' l'.length c', .int .i64 0] 82))); have HB2 := Aside0.mk (below_alloc (below_step (below_alloc (below_alloc (Below.refl w.heap.size w) (.cells #[.slice A l.length c, .int .i64 0] 82)) (.cells #[.slice none 0 0, .int .i64 0] 82)) hb) (.cells #[.slice A' l'.length c', .int .i64 0] 82)); have HR' := Aside0.mk hr'; have HC' := Aside0.mk hc'; have HY' := Aside0.mk hy'; clear hb hr' hc' hy'; have z0_ := (blk_cell K1.out 0).trans rfl; have z1_ := (blk_cell K1.out 1).trans rfl; have z2_ := (blk_cell K2.out 0).trans rfl; have z3_ := (blk_cell K2.out 1).trans rfl; have f0_ := blk_frozen K2.out 0; have f1_ := blk_frozen K2.out 1) | (go_at_call 66; refine (fail_calls0 A l.length c 2 _).mono ?_; rintro x w3 ⟨rfl, hb⟩; have BK3 := blk_below K2.out hb; have HB3 := Aside0.mk (below_step HB2.out hb); clear hb; have hz3 := (blk_cell BK3 0).trans rfl; have hz4 := (blk_cell BK3 1).trans rfl; have hf0 := blk_frozen BK3 0; have hf1 := blk_frozen BK3 1))
  all_goals exact bodyPost_ret (results_tmp_cell_row rfl _ _ (w.heap.size + 1) 82 _ (0, 0) _ rfl (blk_put (blk_put BK3 0 _ rfl) 1 _ rfl) Tryd.underlying82 rfl (by kernel_rfl)) rfl ⟨rfl, below_set (below_set HB3.out (Nat.le_succ _)) (Nat.le_succ _)⟩
set_option maxHeartbeats 1000000 in
set_option maxRecDepth 100000 in
theorem text_2 (A : Option Addr) (c : Nat) (most n : Int) (k : Nat) (l l' : List Int) (w0 w : World) (hr : Kd.C (Kd.int .u8) w0 A l.length l) (hc : l.length ≤ c) (hb : Bytes l) (hw : Below w0.heap.size w0 w) (hl : l.drop k = l') (hx : numP l 0 0 far = (n, k, 0)) (hm : ¬ max most 0 < n) (hs : (l'.length : Int) < n) :
    Calls Tryd.prog 67 #[.agg #[.slice A l.length c, .int .i64 0], .int .i64 most] w fun x w' => x = .returned (.tuple #[.slice none 0 0, .agg #[.slice A l.length c, .int .i64 3]]) ∧ Below w.heap.size w w' := by
  have HS := Aside0.mk (show Scn w0 (.agg #[.slice A l.length c, .int .i64 0]) l 0 from ⟨A, c, rfl, hr, hc, hb⟩)
  have HX := Aside0.mk hx
  have HL := Aside0.mk hl
  have HW := Aside0.mk hw
  clear hr hc hb hx hl hw
  have b1 : decide (n > max most 0) = false := decide_eq_false hm
  have b2 : decide (n > (l'.length : Int)) = true := decide_eq_true hs
  go_enter Tryd.func67, Tryd.ntmps67
  go_wp2_with (first | (go_at_call 52; refine (num_calls HS.out (below_alloc2 HW.out (.cells #[.slice A l.length c, .int .i64 0] 82) (.cells #[.slice none 0 0, .int .i64 0] 82)) 0 9007199254740992).mono ?_; rw [show (9007199254740992 : Int) = far from rfl, HX.out]; dsimp only; rw [HL.out]; rintro x w2 ⟨v', rfl, ⟨A', c', rfl, hr', hc', hy'⟩, hb⟩; have K1 := Aside0.mk (blk_below (blk_below (heap_alloc2_old w (.cells #[.slice A l.length c, .int .i64 0] 82) (.cells #[.slice none 0 0, .int .i64 0] 82)) hb) (below_alloc (Below.refl w2.heap.size w2) (.cells #[.slice A' l'.length c', .int .i64 0] 82))); have K2 := Aside0.mk (blk_below (blk_below (heap_alloc2_new w (.cells #[.slice A l.length c, .int .i64 0] 82) (.cells #[.slice none 0 0, .int .i64 0] 82)) hb) (below_alloc (Below.refl w2.heap.size w2) (.cells #[.slice A' l'.length c', .int .i64 0] 82))); have HB2 := Aside0.mk (below_alloc (below_step (below_alloc (below_alloc (Below.refl w.heap.size w) (.cells #[.slice A l.length c, .int .i64 0] 82)) (.cells #[.slice none 0 0, .int .i64 0] 82)) hb) (.cells #[.slice A' l'.length c', .int .i64 0] 82)); have HR' := Aside0.mk hr'; have HC' := Aside0.mk hc'; have HY' := Aside0.mk hy'; clear hb hr' hc' hy'; have z0_ := (blk_cell K1.out 0).trans rfl; have z1_ := (blk_cell K1.out 1).trans rfl; have z2_ := (blk_cell K2.out 0).trans rfl; have z3_ := (blk_cell K2.out 1).trans rfl; have f0_ := blk_frozen K2.out 0; have f1_ := blk_frozen K2.out 1) | (go_at_call 66; refine (fail_calls0 A l.length c 3 _).mono ?_; rintro x w3 ⟨rfl, hb⟩; have BK3 := blk_below K2.out hb; have HB3 := Aside0.mk (below_step HB2.out hb); clear hb; have hz3 := (blk_cell BK3 0).trans rfl; have hz4 := (blk_cell BK3 1).trans rfl; have hf0 := blk_frozen BK3 0; have hf1 := blk_frozen BK3 1))
  all_goals exact bodyPost_ret (results_tmp_cell_row rfl _ _ (w.heap.size + 1) 82 _ (0, 0) _ rfl (blk_put (blk_put BK3 0 _ rfl) 1 _ rfl) Tryd.underlying82 rfl (by kernel_rfl)) rfl ⟨rfl, below_set (below_set HB3.out (Nat.le_succ _)) (Nat.le_succ _)⟩
set_option maxHeartbeats 1000000 in
set_option maxRecDepth 100000 in
theorem text_3 (A : Option Addr) (c : Nat) (most n : Int) (k : Nat) (l l' : List Int) (w0 w : World) (hr : Kd.C (Kd.int .u8) w0 A l.length l) (hc : l.length ≤ c) (hb : Bytes l) (hw : Below w0.heap.size w0 w) (hl : l.drop k = l') (hx : numP l 0 0 far = (n, k, 0)) (hm : ¬ max most 0 < n) (hs : ¬ (l'.length : Int) < n) (hlm : l'.length < 140737488355328) (l3 : List Int) (hl3 : l'.drop (fixP l' 0 n).2.1 = l3) :
    Calls Tryd.prog 67 #[.agg #[.slice A l.length c, .int .i64 0], .int .i64 most] w fun x w' => ∃ V v', x = .returned (.tuple #[V, v']) ∧ Kd.R (Kd.int .u8) 5 w' w.heap.size (fun _ => True) V (fixP l' 0 n).1 ∧ Scn w0 v' l3 (fixP l' 0 n).2.2 ∧ Below w.heap.size w w' := by
  have HS := Aside0.mk (show Scn w0 (.agg #[.slice A l.length c, .int .i64 0]) l 0 from ⟨A, c, rfl, hr, hc, hb⟩)
  have HX := Aside0.mk hx
  have HL := Aside0.mk hl
  have HW := Aside0.mk hw
  clear hr hc hb hx hl hw
  have b1 : decide (n > max most 0) = false := decide_eq_false hm
  have b2 : decide (n > (l'.length : Int)) = false := decide_eq_false hs
  have HL3 := Aside0.mk hl3
  clear hl3
  go_enter Tryd.func67, Tryd.ntmps67
  go_wp2_with (first | (go_at_call 52; refine (num_calls HS.out (below_alloc2 HW.out (.cells #[.slice A l.length c, .int .i64 0] 82) (.cells #[.slice none 0 0, .int .i64 0] 82)) 0 9007199254740992).mono ?_; rw [show (9007199254740992 : Int) = far from rfl, HX.out]; dsimp only; rw [HL.out]; rintro x w2 ⟨v', rfl, ⟨A', c', rfl, hr', hc', hy'⟩, hb⟩; have K1 := Aside0.mk (blk_below (blk_below (heap_alloc2_old w (.cells #[.slice A l.length c, .int .i64 0] 82) (.cells #[.slice none 0 0, .int .i64 0] 82)) hb) (below_alloc (Below.refl w2.heap.size w2) (.cells #[.slice A' l'.length c', .int .i64 0] 82))); have K2 := Aside0.mk (blk_below (blk_below (heap_alloc2_new w (.cells #[.slice A l.length c, .int .i64 0] 82) (.cells #[.slice none 0 0, .int .i64 0] 82)) hb) (below_alloc (Below.refl w2.heap.size w2) (.cells #[.slice A' l'.length c', .int .i64 0] 82))); have HB2 := Aside0.mk (below_alloc (below_step (below_alloc (below_alloc (Below.refl w.heap.size w) (.cells #[.slice A l.length c, .int .i64 0] 82)) (.cells #[.slice none 0 0, .int .i64 0] 82)) hb) (.cells #[.slice A' l'.length c', .int .i64 0] 82)); have HR' := Aside0.mk hr'; have HC' := Aside0.mk hc'; have HY' := Aside0.mk hy'; clear hb hr' hc' hy'; have z0_ := (blk_cell K1.out 0).trans rfl; have z1_ := (blk_cell K1.out 1).trans rfl; have z2_ := (blk_cell K2.out 0).trans rfl; have z3_ := (blk_cell K2.out 1).trans rfl; have f0_ := blk_frozen K2.out 0; have f1_ := blk_frozen K2.out 1) | (go_at_call 74; refine (fix_calls (v := .agg #[.slice A' l'.length c', .int .i64 0]) (w0 := w0) ⟨A', c', rfl, HR'.out, HC'.out, HY'.out⟩ (below_step HW.out HB2.out) hlm n).mono ?_; rw [HL3.out]; rintro x w3 ⟨V, v'', rfl, hv, ⟨A3, c3, rfl, hr3, hc3, hy3⟩, hb⟩; have BK3 := blk_below K2.out hb; have HB3 := Aside0.mk (below_step HB2.out hb); have HV := Aside0.mk hv; have HR3 := Aside0.mk hr3; have HC3 := Aside0.mk hc3; have HY3 := Aside0.mk hy3; clear hb hv hr3 hc3 hy3; have hz3 := (blk_cell BK3 0).trans rfl; have hz4 := (blk_cell BK3 1).trans rfl; have hf0 := blk_frozen BK3 0; have hf1 := blk_frozen BK3 1))
  all_goals
    have hg := blk_lt K2.out
    exact bodyPost_ret (results_tmp_cell_row rfl _ _ (w.heap.size + 1) 82 _ (0, 0) _ rfl (blk_put (blk_put BK3 0 _ rfl) 1 _ rfl) Tryd.underlying82 rfl (by kernel_rfl)) rfl ⟨V, _, rfl, Kd.R_lower (R_set_low (R_set_low HV.out hg _) hg _) HB2.out.size, ⟨A3, c3, rfl, HR3.out, HC3.out, HY3.out⟩, below_set (below_set HB3.out (Nat.le_succ _)) (Nat.le_succ _)⟩
theorem text_calls {w0 w : World} {v : Value} {l : List Int} {er : Int} (h : Scn w0 v l er) (hW : Below w0.heap.size w0 w) (hlm : l.length < 140737488355328) (most : Int) :
    Calls Tryd.prog 67 #[v, .int .i64 most] w fun x w' => ∃ V v', x = .returned (.tuple #[V, v']) ∧ Kd.R (Kd.int .u8) 5 w' w.heap.size (fun _ => True) V (textP l er most).1 ∧ Scn w0 v' (l.drop (textP l er most).2.1) (textP l er most).2.2 ∧ Below w.heap.size w w' := by
  obtain ⟨A, c, rfl, hr, hc, hb⟩ := h
  unfold textP
  by_cases he : (numP l er 0 far).2.2 ≠ 0
  · rw [if_pos he]
    have hx : numP l er 0 far = ((numP l er 0 far).1, (numP l er 0 far).2.1, (numP l er 0 far).2.2) := rfl
    refine (text_0 A c er most _ _ _ l _ w0 w hr hc hb hW rfl hx he).mono ?_
    rintro x w' ⟨v', rfl, hs, hB⟩
    rw [num_stay he] at hs
    exact ⟨_, v', rfl, Kd.R_nil _ _ _ _ _, hs, hB⟩
  rw [if_neg he]
  have he0 : (numP l er 0 far).2.2 = 0 := by omega
  obtain rfl : er = 0 := num_er he0
  have hx : numP l 0 0 far = ((numP l 0 0 far).1, (numP l 0 0 far).2.1, 0)  := Prod.ext rfl (Prod.ext rfl he0)
  by_cases hm : max most 0 < (numP l 0 0 far).1
  · rw [if_pos hm]
    refine (text_1 A c most _ _ l _ w0 w hr hc hb hW rfl hx hm).mono ?_
    rintro x w' ⟨rfl, hB⟩
    exact ⟨_, _, rfl, Kd.R_nil _ _ _ _ _, ⟨A, c, rfl, hr, hc, hb⟩, hB⟩
  rw [if_neg hm]
  by_cases hs : ((l.drop (numP l 0 0 far).2.1).length : Int) < (numP l 0 0 far).1
  · rw [if_pos hs]
    refine (text_2 A c most _ _ l _ w0 w hr hc hb hW rfl hx hm hs).mono ?_
    rintro x w' ⟨rfl, hB⟩
    exact ⟨_, _, rfl, Kd.R_nil _ _ _ _ _, ⟨A, c, rfl, hr, hc, hb⟩, hB⟩
  rw [if_neg hs]
  exact text_3 A c most _ _ l _ w0 w hr hc hb hW rfl hx hm hs (by rw [List.length_drop]; omega) _ List.drop_drop
set_option maxHeartbeats 1000000 in
set_option maxRecDepth 100000 in
theorem rtext_0 (A : Option Addr) (c : Nat) (er most n e : Int) (k : Nat) (l l' : List Int) (w0 w : World) (hr : Kd.C (Kd.int .u8) w0 A l.length l) (hc : l.length ≤ c) (hb : Bytes l) (hw : Below w0.heap.size w0 w) (hl : l.drop k = l') (hx : numP l er 0 far = (n, k, e)) (he : e ≠ 0) :
    Calls Tryd.prog 57 #[.agg #[.slice A l.length c, .int .i64 er], .int .i64 most] w fun x w' => ∃ v', x = .returned (.tuple #[.slice none 0 0, v']) ∧ Scn w0 v' l' e ∧ Below w.heap.size w w' := by
  have HS := Aside0.mk (show Scn w0 (.agg #[.slice A l.length c, .int .i64 er]) l er from ⟨A, c, rfl, hr, hc, hb⟩)
  have HX := Aside0.mk hx
  have HL := Aside0.mk hl
  have HW := Aside0.mk hw
  clear hr hc hb hx hl hw
  have he1 : (e != 0) = true := bne_iff_ne.mpr he
  go_enter Tryd.func57, Tryd.ntmps57
  go_wp2_with (first | (go_at_call 56; refine (rnum_calls HS.out (below_alloc2 HW.out (.cells #[.slice A l.length c, .int .i64 er] 90) (.cells #[.slice none 0 0, .int .i64 0] 90)) 0 9007199254740992).mono ?_; rw [show (9007199254740992 : Int) = far from rfl, HX.out]; dsimp only; rw [HL.out]; rintro x w2 ⟨v', rfl, ⟨A', c', rfl, hr', hc', hy'⟩, hb⟩; have K1 := Aside0.mk (blk_below (blk_below (heap_alloc2_old w (.cells #[.slice A l.length c, .int .i64 er] 90) (.cells #[.slice none 0 0, .int .i64 0] 90)) hb) (below_alloc (Below.refl w2.heap.size w2) (.cells #[.slice A' l'.length c', .int .i64 e] 90))); have K2 := Aside0.mk (blk_below (blk_below (heap_alloc2_new w (.cells #[.slice A l.length c, .int .i64 er] 90) (.cells #[.slice none 0 0, .int .i64 0] 90)) hb) (below_alloc (Below.refl w2.heap.size w2) (.cells #[.slice A' l'.length c', .int .i64 e] 90))); have HB2 := Aside0.mk (below_alloc (below_step (below_alloc (below_alloc (Below.refl w.heap.size w) (.cells #[.slice A l.length c, .int .i64 er] 90)) (.cells #[.slice none 0 0, .int .i64 0] 90)) hb) (.cells #[.slice A' l'.length c', .int .i64 e] 90)); have HR' := Aside0.mk hr'; have HC' := Aside0.mk hc'; have HY' := Aside0.mk hy'; clear hb hr' hc' hy'; have z0_ := (blk_cell K1.out 0).trans rfl; have z1_ := (blk_cell K1.out 1).trans rfl; have z2_ := (blk_cell K2.out 0).trans rfl; have z3_ := (blk_cell K2.out 1).trans rfl; have f0_ := blk_frozen K2.out 0; have f1_ := blk_frozen K2.out 1))
  go_region
  go_wp2
  exact bodyPost_ret (results_tmp_cell_row rfl _ _ (w.heap.size + 1) 90 _ (0, 0) _ rfl (blk_put (blk_put K2.out 0 _ rfl) 1 _ rfl) Tryd.underlying90 rfl (by kernel_rfl)) rfl ⟨_, rfl, ⟨A', c', rfl, HR'.out, HC'.out, HY'.out⟩, below_drew1 (below_set (below_set HB2.out (Nat.le_succ _)) (Nat.le_succ _))⟩
set_option maxHeartbeats 1000000 in
set_option maxRecDepth 100000 in
theorem rtext_1 (A : Option Addr) (c : Nat) (most n : Int) (k : Nat) (l l' : List Int) (w0 w : World) (hr : Kd.C (Kd.int .u8) w0 A l.length l) (hc : l.length ≤ c) (hb : Bytes l) (hw : Below w0.heap.size w0 w) (hl : l.drop k = l') (hx : numP l 0 0 far = (n, k, 0)) (hm : max most 0 < n) :
    Calls Tryd.prog 57 #[.agg #[.slice A l.length c, .int .i64 0], .int .i64 most] w fun x w' => x = .returned (.tuple #[.slice none 0 0, .agg #[.slice A l.length c, .int .i64 2]]) ∧ Below w.heap.size w w' := by
  have HS := Aside0.mk (show Scn w0 (.agg #[.slice A l.length c, .int .i64 0]) l 0 from ⟨A, c, rfl, hr, hc, hb⟩)
  have HX := Aside0.mk hx
  have HL := Aside0.mk hl
  have HW := Aside0.mk hw
  clear hr hc hb hx hl hw
  have b1 : decide (n > max most 0) = true := decide_eq_true hm
  go_enter Tryd.func57, Tryd.ntmps57
  go_wp2_with (first | (go_at_call 56; refine (rnum_calls HS.out (below_alloc2 HW.out (.cells #[.slice A l.length c, .int .i64 0] 90) (.cells #[.slice none 0 0, .int .i64 0] 90)) 0 9007199254740992).mono ?_; rw [show (9007199254740992 : Int) = far from rfl, HX.out]; dsimp only; rw [HL.out]; rintro x w2 ⟨v', rfl, ⟨A', c', rfl, hr', hc', hy'⟩, hb⟩; have K1 := Aside0.mk (blk_below (blk_below (heap_alloc2_old w (.cells #[.slice A l.length c, .int .i64 0] 90) (.cells #[.slice none 0 0, .int .i64 0] 90)) hb) (below_alloc (Below.refl w2.heap.size w2) (.cells #[.slice A' l'.length c', .int .i64 0] 90))); have K2 := Aside0.mk (blk_below (blk_below (heap_alloc2_new w (.cells #[.slice A l.length c, .int .i64 0] 90) (.cells #[.slice none 0 0, .int .i64 0] 90)) hb) (below_alloc (Below.refl w2.heap.size w2) (.cells #[.slice A' l'.length c', .int .i64 0] 90))); have HB2 := Aside0.mk (below_alloc (below_step (below_alloc (below_alloc (Below.refl w.heap.size w) (.cells #[.slice A l.length c, .int .i64 0] 90)) (.cells #[.slice none 0 0, .int .i64 0] 90)) hb) (.cells #[.slice A' l'.length c', .int .i64 0] 90)); have HR' := Aside0.mk hr'; have HC' := Aside0.mk hc'; have HY' := Aside0.mk hy'; clear hb hr' hc' hy'; have z0_ := (blk_cell K1.out 0).trans rfl; have z1_ := (blk_cell K1.out 1).trans rfl; have z2_ := (blk_cell K2.out 0).trans rfl; have z3_ := (blk_cell K2.out 1).trans rfl; have f0_ := blk_frozen K2.out 0; have f1_ := blk_frozen K2.out 1) | (go_at_call 69; refine (rfail_calls A l.length c 0 2 _).mono ?_; rintro x w3 ⟨rfl, hb⟩; have BK3 := blk_below K2.out hb; have HB3 := Aside0.mk (below_step HB2.out hb); clear hb; have hz3 := (blk_cell BK3 0).trans rfl; have hz4 := (blk_cell BK3 1).trans rfl; have hf0 := blk_frozen BK3 0; have hf1 := blk_frozen BK3 1))
  all_goals exact bodyPost_ret (results_tmp_cell_row rfl _ _ (w.heap.size + 1) 90 _ (0, 0) _ rfl (blk_put (blk_put BK3 0 _ rfl) 1 _ rfl) Tryd.underlying90 rfl (by kernel_rfl)) rfl ⟨rfl, below_set (below_set HB3.out (Nat.le_succ _)) (Nat.le_succ _)⟩
set_option maxHeartbeats 1000000 in
set_option maxRecDepth 100000 in
theorem rtext_2 (A : Option Addr) (c : Nat) (most n : Int) (k : Nat) (l l' : List Int) (w0 w : World) (hr : Kd.C (Kd.int .u8) w0 A l.length l) (hc : l.length ≤ c) (hb : Bytes l) (hw : Below w0.heap.size w0 w) (hl : l.drop k = l') (hx : numP l 0 0 far = (n, k, 0)) (hm : ¬ max most 0 < n) (hs : (l'.length : Int) < n) :
    Calls Tryd.prog 57 #[.agg #[.slice A l.length c, .int .i64 0], .int .i64 most] w fun x w' => x = .returned (.tuple #[.slice none 0 0, .agg #[.slice A l.length c, .int .i64 3]]) ∧ Below w.heap.size w w' := by
  have HS := Aside0.mk (show Scn w0 (.agg #[.slice A l.length c, .int .i64 0]) l 0 from ⟨A, c, rfl, hr, hc, hb⟩)
  have HX := Aside0.mk hx
  have HL := Aside0.mk hl
  have HW := Aside0.mk hw
  clear hr hc hb hx hl hw
  have b1 : decide (n > max most 0) = false := decide_eq_false hm
  have b2 : decide (n > (l'.length : Int)) = true := decide_eq_true hs
  go_enter Tryd.func57, Tryd.ntmps57
  go_wp2_with (first | (go_at_call 56; refine (rnum_calls HS.out (below_alloc2 HW.out (.cells #[.slice A l.length c, .int .i64 0] 90) (.cells #[.slice none 0 0, .int .i64 0] 90)) 0 9007199254740992).mono ?_; rw [show (9007199254740992 : Int) = far from rfl, HX.out]; dsimp only; rw [HL.out]; rintro x w2 ⟨v', rfl, ⟨A', c', rfl, hr', hc', hy'⟩, hb⟩; have K1 := Aside0.mk (blk_below (blk_below (heap_alloc2_old w (.cells #[.slice A l.length c, .int .i64 0] 90) (.cells #[.slice none 0 0, .int .i64 0] 90)) hb) (below_alloc (Below.refl w2.heap.size w2) (.cells #[.slice A' l'.length c', .int .i64 0] 90))); have K2 := Aside0.mk (blk_below (blk_below (heap_alloc2_new w (.cells #[.slice A l.length c, .int .i64 0] 90) (.cells #[.slice none 0 0, .int .i64 0] 90)) hb) (below_alloc (Below.refl w2.heap.size w2) (.cells #[.slice A' l'.length c', .int .i64 0] 90))); have HB2 := Aside0.mk (below_alloc (below_step (below_alloc (below_alloc (Below.refl w.heap.size w) (.cells #[.slice A l.length c, .int .i64 0] 90)) (.cells #[.slice none 0 0, .int .i64 0] 90)) hb) (.cells #[.slice A' l'.length c', .int .i64 0] 90)); have HR' := Aside0.mk hr'; have HC' := Aside0.mk hc'; have HY' := Aside0.mk hy'; clear hb hr' hc' hy'; have z0_ := (blk_cell K1.out 0).trans rfl; have z1_ := (blk_cell K1.out 1).trans rfl; have z2_ := (blk_cell K2.out 0).trans rfl; have z3_ := (blk_cell K2.out 1).trans rfl; have f0_ := blk_frozen K2.out 0; have f1_ := blk_frozen K2.out 1) | (go_at_call 69; refine (rfail_calls A l.length c 0 3 _).mono ?_; rintro x w3 ⟨rfl, hb⟩; have BK3 := blk_below K2.out hb; have HB3 := Aside0.mk (below_step HB2.out hb); clear hb; have hz3 := (blk_cell BK3 0).trans rfl; have hz4 := (blk_cell BK3 1).trans rfl; have hf0 := blk_frozen BK3 0; have hf1 := blk_frozen BK3 1))
  all_goals exact bodyPost_ret (results_tmp_cell_row rfl _ _ (w.heap.size + 1) 90 _ (0, 0) _ rfl (blk_put (blk_put BK3 0 _ rfl) 1 _ rfl) Tryd.underlying90 rfl (by kernel_rfl)) rfl ⟨rfl, below_set (below_set HB3.out (Nat.le_succ _)) (Nat.le_succ _)⟩
set_option maxHeartbeats 1000000 in
set_option maxRecDepth 100000 in
theorem rtext_3 (A : Option Addr) (c : Nat) (most n : Int) (k : Nat) (l l' : List Int) (w0 w : World) (hr : Kd.C (Kd.int .u8) w0 A l.length l) (hc : l.length ≤ c) (hb : Bytes l) (hw : Below w0.heap.size w0 w) (hl : l.drop k = l') (hx : numP l 0 0 far = (n, k, 0)) (hm : ¬ max most 0 < n) (hs : ¬ (l'.length : Int) < n) (l3 : List Int) (hl3 : l'.drop (fixP l' 0 n).2.1 = l3) :
    Calls Tryd.prog 57 #[.agg #[.slice A l.length c, .int .i64 0], .int .i64 most] w fun x w' => ∃ V v', x = .returned (.tuple #[V, v']) ∧ Rd w0 V (fixP l' 0 n).1 ∧ Scn w0 v' l3 (fixP l' 0 n).2.2 ∧ Below w.heap.size w w' := by
  have HS := Aside0.mk (show Scn w0 (.agg #[.slice A l.length c, .int .i64 0]) l 0 from ⟨A, c, rfl, hr, hc, hb⟩)
  have HX := Aside0.mk hx
  have HL := Aside0.mk hl
  have HW := Aside0.mk hw
  clear hr hc hb hx hl hw
  have b1 : decide (n > max most 0) = false := decide_eq_false hm
  have b2 : decide (n > (l'.length : Int)) = false := decide_eq_false hs
  have HL3 := Aside0.mk hl3
  clear hl3
  go_enter Tryd.func57, Tryd.ntmps57
  go_wp2_with (first | (go_at_call 56; refine (rnum_calls HS.out (below_alloc2 HW.out (.cells #[.slice A l.length c, .int .i64 0] 90) (.cells #[.slice none 0 0, .int .i64 0] 90)) 0 9007199254740992).mono ?_; rw [show (9007199254740992 : Int) = far from rfl, HX.out]; dsimp only; rw [HL.out]; rintro x w2 ⟨v', rfl, ⟨A', c', rfl, hr', hc', hy'⟩, hb⟩; have K1 := Aside0.mk (blk_below (blk_below (heap_alloc2_old w (.cells #[.slice A l.length c, .int .i64 0] 90) (.cells #[.slice none 0 0, .int .i64 0] 90)) hb) (below_alloc (Below.refl w2.heap.size w2) (.cells #[.slice A' l'.length c', .int .i64 0] 90))); have K2 := Aside0.mk (blk_below (blk_below (heap_alloc2_new w (.cells #[.slice A l.length c, .int .i64 0] 90) (.cells #[.slice none 0 0, .int .i64 0] 90)) hb) (below_alloc (Below.refl w2.heap.size w2) (.cells #[.slice A' l'.length c', .int .i64 0] 90))); have HB2 := Aside0.mk (below_alloc (below_step (below_alloc (below_alloc (Below.refl w.heap.size w) (.cells #[.slice A l.length c, .int .i64 0] 90)) (.cells #[.slice none 0 0, .int .i64 0] 90)) hb) (.cells #[.slice A' l'.length c', .int .i64 0] 90)); have HR' := Aside0.mk hr'; have HC' := Aside0.mk hc'; have HY' := Aside0.mk hy'; clear hb hr' hc' hy'; have z0_ := (blk_cell K1.out 0).trans rfl; have z1_ := (blk_cell K1.out 1).trans rfl; have z2_ := (blk_cell K2.out 0).trans rfl; have z3_ := (blk_cell K2.out 1).trans rfl; have f0_ := blk_frozen K2.out 0; have f1_ := blk_frozen K2.out 1) | (go_at_call 70; refine (rfix_calls (v := .agg #[.slice A' l'.length c', .int .i64 0]) (w0 := w0) ⟨A', c', rfl, HR'.out, HC'.out, HY'.out⟩ (below_step HW.out HB2.out) n).mono ?_; rw [HL3.out]; rintro x w3 ⟨V, v'', rfl, hv, ⟨A3, c3, rfl, hr3, hc3, hy3⟩, hb⟩; have BK3 := blk_below K2.out hb; have HB3 := Aside0.mk (below_step HB2.out hb); have HV := Aside0.mk hv; have HR3 := Aside0.mk hr3; have HC3 := Aside0.mk hc3; have HY3 := Aside0.mk hy3; clear hb hv hr3 hc3 hy3; have hz3 := (blk_cell BK3 0).trans rfl; have hz4 := (blk_cell BK3 1).trans rfl; have hf0 := blk_frozen BK3 0; have hf1 := blk_frozen BK3 1))
  all_goals
    have hg := blk_lt K2.out
    exact bodyPost_ret (results_tmp_cell_row rfl _ _ (w.heap.size + 1) 90 _ (0, 0) _ rfl (blk_put (blk_put BK3 0 _ rfl) 1 _ rfl) Tryd.underlying90 rfl (by kernel_rfl)) rfl ⟨V, _, rfl, HV.out, ⟨A3, c3, rfl, HR3.out, HC3.out, HY3.out⟩, below_set (below_set HB3.out (Nat.le_succ _)) (Nat.le_succ _)⟩
theorem rtext_calls {w0 w : World} {v : Value} {l : List Int} {er : Int} (h : Scn w0 v l er) (hW : Below w0.heap.size w0 w) (most : Int) :
    Calls Tryd.prog 57 #[v, .int .i64 most] w fun x w' => ∃ V v', x = .returned (.tuple #[V, v']) ∧ Rd w0 V (textP l er most).1 ∧ Scn w0 v' (l.drop (textP l er most).2.1) (textP l er most).2.2 ∧ Below w.heap.size w w' := by
  obtain ⟨A, c, rfl, hr, hc, hb⟩ := h
  unfold textP
  by_cases he : (numP l er 0 far).2.2 ≠ 0
  · rw [if_pos he]
    have hx : numP l er 0 far = ((numP l er 0 far).1, (numP l er 0 far).2.1, (numP l er 0 far).2.2) := rfl
    refine (rtext_0 A c er most _ _ _ l _ w0 w hr hc hb hW rfl hx he).mono ?_
    rintro x w' ⟨v', rfl, hs, hB⟩
    rw [num_stay he] at hs
    exact ⟨_, v', rfl, Rd.nil _, hs, hB⟩
  rw [if_neg he]
  have he0 : (numP l er 0 far).2.2 = 0 := by omega
  obtain rfl : er = 0 := num_er he0
  have hx : numP l 0 0 far = ((numP l 0 0 far).1, (numP l 0 0 far).2.1, 0)  := Prod.ext rfl (Prod.ext rfl he0)
  by_cases hm : max most 0 < (numP l 0 0 far).1
  · rw [if_pos hm]
    refine (rtext_1 A c most _ _ l _ w0 w hr hc hb hW rfl hx hm).mono ?_
    rintro x w' ⟨rfl, hB⟩
    exact ⟨_, _, rfl, Rd.nil _, ⟨A, c, rfl, hr, hc, hb⟩, hB⟩
  rw [if_neg hm]
  by_cases hs : ((l.drop (numP l 0 0 far).2.1).length : Int) < (numP l 0 0 far).1
  · rw [if_pos hs]
    refine (rtext_2 A c most _ _ l _ w0 w hr hc hb hW rfl hx hm hs).mono ?_
    rintro x w' ⟨rfl, hB⟩
    exact ⟨_, _, rfl, Rd.nil _, ⟨A, c, rfl, hr, hc, hb⟩, hB⟩
  rw [if_neg hs]
  exact rtext_3 A c most _ _ l _ w0 w hr hc hb hW rfl hx hm hs _ List.drop_drop
end Go.Proofs.YthpgbhpnlnpfnaaDoor.Law
