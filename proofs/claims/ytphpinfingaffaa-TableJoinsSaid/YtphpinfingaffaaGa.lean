/- Gather: the walk, over whatever gives the pieces. -/
import Derived.Test.YtphpinfingaffaaGc
namespace Go.Proofs.Ytphpinfingaffaa.Law
open Go.RowKit Go.Proofs.Ytphpinfingaffaa Go.Proofs.YtphpinfingaffaaW.PrintWords Go.Proofs.YtphpinfingaffaaW.PrintLast Go.Proofs.YtphpinfingaffaaW.PrintMore Go.Proofs.Ytphpinfingaffaa.D Go.Proofs.Ytphpinfingaffaa.Fl
set_option linter.unusedSimpArgs false
set_option linter.unusedVariables false
/-- nothing from B on that was there has turned -/
def Ab (B : Nat) (W W' : World) : Prop := W.heap.size ≤ W'.heap.size ∧ ∀ k, B ≤ k → k < W.heap.size → W'.heap[k]? = W.heap[k]?
theorem R_above {α : Type} {d : Kd α} {e B : Nat} {W W' : World} {V : Value} {xs : List α} (h : Kd.R d e W B (fun _ => True) V xs) (ha : Ab B W W') : Kd.R d e W' B (fun _ => True) V xs :=
  Kd.R_mono (Kd.R_step (Kd.R_bound h) (fun k hk hlt => ha.2 k hk.2.1 hlt)) (fun _ _ => trivial)
theorem blk_above {B : Nat} {W W' : World} {g : Nat} {o : Obj} (h : W.heap[g]? = some o) (hg : B ≤ g) (ha : Ab B W W') : W'.heap[g]? = some o := (ha.2 g hg (blk_lt h)).trans h
theorem R42_kp {W W' : World} {B go : Nat} {Vo Vp : Value} {acc : List Int} {ps : List P42} (h : Kd.R k42 49 W B (fun _ => True) Vp ps) (hp : Kp go Vo.ownBlock W W') (hk : W.heap[go]? = some (.cells #[Vo] 53 (0, 0))) (hO : Kd.R (Kd.int .u8) 5 W B (fun _ => True) Vo acc) :
    Kd.R k42 49 W' B (fun _ => True) Vp ps := by
  refine Kd.R_mono (Kd.R_step (Kd.R_bound h) (fun k hk2 hlt => hp.block k hlt ?_ ?_)) (fun _ _ => trivial)
  · rintro rfl
    obtain ⟨_, _, _, q, hq, cells, hc⟩ := hk2
    rw [hk] at hc
    injection hc with hc
    injection hc with _ hc
    subst hc
    exact absurd hq (by decide)
  · intro e
    obtain ⟨_, _, _, q, hq, cells, hc⟩ := hk2
    obtain ⟨inner, hown⟩ := Kd.R_own hO
    obtain ⟨cells2, hc2⟩ := own_typed hown k e.symm
    rw [hc2] at hc
    injection hc with hc
    injection hc with _ hc
    subst hc
    exact absurd hq (by decide)
/-- what Gather makes of what it is given: the bytes, the error, how often it has asked -/
def gath (ps : List Pc) (res : Nat → List Int × Int) : Nat → List P42 → List Int → List Int × Int × Nat
  | j, [], acc => (acc, 0, j)
  | j, y :: l, acc => if (res j).2 ≠ 0 then ([], (res j).2, j + 1) else if ((res j).1.length : Int) ≠ (rdPc ps y.i.toNat).n then ([], 5, j + 1) else gath ps res (j + 1) l (acc ++ ((res j).1.take (y.b + y.n).toNat).drop y.b.toNat)
theorem rdPc_cons (p : Pc) (l : List Pc) (k : Nat) : rdPc (p :: l) (k + 1) = rdPc l k := rfl
theorem parts_ok (c m : Int) : ∀ (l : List Pc) (b : Int) (i0 : Int), ∀ y ∈ partsL c m i0 (spansL b l), ∃ k : Nat, k < l.length ∧ y.i = i0 + k ∧ 0 ≤ y.b ∧ 0 ≤ y.n ∧ y.b + y.n ≤ (rdPc l k).n
  | [], _, _, y, hy => by cases hy
  | p :: l, b, i0, y, hy => by
    rw [spansL, partsL] at hy
    have key : y ∈ partsL c m (i0 + 1) (spansL (b + p.n) l) → ∃ k : Nat, k < (p :: l).length ∧ y.i = i0 + k ∧ 0 ≤ y.b ∧ 0 ≤ y.n ∧ y.b + y.n ≤ (rdPc (p :: l) k).n := fun hy => by
      obtain ⟨k, h1, h2, h3⟩ := parts_ok c m l (b + p.n) (i0 + 1) y hy
      exact ⟨k + 1, by rw [List.length_cons]; omega, by rw [h2]; omega, h3⟩
    dsimp only at hy
    split at hy
    · exact key hy
    · rcases List.mem_cons.mp hy with rfl | hy
      · refine ⟨0, by simp, by simp, ?_, ?_, ?_⟩
        · dsimp only; omega
        · dsimp only; omega
        · show max b c - b + (min (b + p.n) (c + m) - max b c) ≤ p.n; omega
      · exact key hy
theorem pickP_ok {x : En} {c m : Int} : ∀ y ∈ (pickP x c m).1, ∃ k : Nat, k < x.ps.length ∧ y.i = (k : Int) ∧ 0 ≤ y.b ∧ 0 ≤ y.n ∧ y.b + y.n ≤ (rdPc x.ps k).n := by
  unfold pickP
  by_cases h : (sizeP x).2 ≠ 0
  · rw [if_pos h]; intro y hy; cases hy
  · rw [if_neg h]
    by_cases h2 : c < 0 ∨ m < 0 ∨ sumN x.ps < c ∨ sumN x.ps - c < m
    · rw [if_pos h2]; intro y hy; cases hy
    · rw [if_neg h2]
      intro y hy
      obtain ⟨k, h1, h2, h3⟩ := parts_ok c m x.ps 0 0 y hy
      exact ⟨k, h1, by omega, h3⟩
theorem drop_P42 {l : List P42} {i : Nat} (h : i < l.length) : l.drop i = rd_T42 l (i : Int) :: l.drop (i + 1) := by
  rw [List.drop_eq_getElem_cons h]
  congr 1
  unfold rd_T42
  rw [Int.toNat_natCast, List.getD_eq_getElem?_getD, List.getElem?_eq_getElem h]; rfl
theorem wpList_new_var {P : Program} {ops : Array Oper} {rest : List Oper} {o : Oper} {a : Act} {w : World} {Q : Exit → Act → World → Prop} (hgd : o.guard = none) (ty : TypeId) (ho : o.op = .alloc ty) (z : Value) (hi : (P.info? ty).map (·.zero) = some (some z))
    (h : ∀ w1 : World, w1.heap[w.heap.size]? = some (.cells z.cells ty (0, 0)) → Below w.heap.size w w1 → w1.heap.size = w.heap.size + 1 → wpList P ops Q rest (a.put o.dst (.pointer (some ⟨w.heap.size, 0, none⟩))) w1) : wpList P ops Q (o :: rest) a w :=
  wpList_alloc_zero hgd ty ho z hi (h _ (heap_alloc_new w _) (below_alloc (Below.refl _ _) _) (World.size_alloc _ _))
theorem info53z : (Try.prog.info? 53).map (·.zero) = some (some (.slice none 0 0)) := by kernel_rfl
theorem info49z : (Try.prog.info? 49).map (·.zero) = some (some (.agg #[.int .i64 0, .complex .f64 0 0])) := by kernel_rfl
theorem info49s : (Try.prog.info? 49).map (·.size) = some 2 := by kernel_rfl
theorem one49 {k : Int} {b n : Int} : ∀ v ∈ ([.int .i64 k, Cx b n] : List Value), v.oneCell' = true := fun v hv => by
  rcases List.mem_cons.mp hv with rfl | hv
  · rfl
  · rw [List.mem_singleton.mp hv]; rfl
theorem pick_fine {x : En} {c m : Int} {parts : List P42} (h : pickP x c m = (parts, 0)) : ∀ p ∈ x.ps, p.n ≤ 4096 := by
  by_cases h0 : (sizeP x).2 = 0
  · exact fun p hp => ((size_ok h0).1.2.2.1 p hp).2
  · rw [pick_err h0] at h
    injection h with _ h
    exact absurd h h0
theorem below_big {w1 W W' : World} (h : Below w1.heap.size w1 W) (hb : Below W.heap.size W W') : Below w1.heap.size w1 W' := below_step h hb
theorem below_kp {w1 W W' : World} {B go : Nat} {row : Option Nat} (h : Below w1.heap.size w1 W) (hB1 : w1.heap.size ≤ B) (hk : Kp go row W W') (hgo : B ≤ go) (hr : ∀ k, row = some k → B ≤ k) : Below w1.heap.size w1 W' :=
  h.trans ⟨hk.os, hk.tape, hk.output, hk.size, fun k hlt => hk.block k (Nat.lt_of_lt_of_le hlt h.size) (by omega) (fun e => by have := hr k e.symm; omega)⟩
/-- the i-th round's end: what Gather holds -/
structure GJ (w1 W : World) (B gx go : Nat) (x : En) (A : Option Addr) (c : Nat) (Vp Vo : Value) (parts : List P42) (acc : List Int) : Prop where
  h1 : Below w1.heap.size w1 W
  hB : B ≤ W.heap.size
  kx : W.heap[gx]? = some (.cells (enV x A c).toArray 26 (0, 0))
  ko : W.heap[go]? = some (.cells #[Vo] 53 (0, 0))
  ho : Kd.R (Kd.int .u8) 5 W B (fun _ => True) Vo acc
  hp : Kd.R k42 49 W B (fun _ => True) Vp parts
theorem GJ.new {w1 W W' : World} {B gx go : Nat} {x : En} {A : Option Addr} {c : Nat} {Vp Vo : Value} {parts : List P42} {acc : List Int} (h : GJ w1 W B gx go x A c Vp Vo parts acc) (hb : Below W.heap.size W W') : GJ w1 W' B gx go x A c Vp Vo parts acc :=
  ⟨below_step h.h1 hb, Nat.le_trans h.hB hb.size, blk_below h.kx hb, blk_below h.ko hb, Kd.R_below h.ho hb, Kd.R_below h.hp hb⟩
theorem GJ.above {w1 W W' : World} {B gx go : Nat} {x : En} {A : Option Addr} {c : Nat} {Vp Vo : Value} {parts : List P42} {acc : List Int} (h : GJ w1 W B gx go x A c Vp Vo parts acc) (hgx : B ≤ gx) (hgo : B ≤ go) (hb : Below w1.heap.size w1 W') (ha : Ab B W W') : GJ w1 W' B gx go x A c Vp Vo parts acc :=
  ⟨hb, Nat.le_trans h.hB ha.1, blk_above h.kx hgx ha, blk_above h.ko hgo ha, R_above h.ho ha, R_above h.hp ha⟩
theorem own_low {B : Nat} {W : World} {Vo : Value} {acc : List Int} (h : Kd.R (Kd.int .u8) 5 W B (fun _ => True) Vo acc) : ∀ k, Vo.ownBlock = some k → B ≤ k := by
  obtain ⟨inner, hown⟩ := Kd.R_own h
  exact fun k hk => own_base hown k hk
theorem GJ.put {w1 W W' : World} {B gx go : Nat} {x : En} {A : Option Addr} {c : Nat} {Vp Vo V' : Value} {parts : List P42} {acc acc' : List Int} (h : GJ w1 W B gx go x A c Vp Vo parts acc) (hB1 : w1.heap.size ≤ B) (hgo : B ≤ go) (hk : Kp go Vo.ownBlock W W')
    (hko : W'.heap[go]? = some (.cells #[V'] 53 (0, 0))) (hO : Kd.R (Kd.int .u8) 5 W' B (fun _ => True) V' acc') : GJ w1 W' B gx go x A c Vp V' parts acc' := by
  refine ⟨below_kp h.h1 hB1 hk hgo (own_low h.ho), Nat.le_trans h.hB hk.size, ?_, hko, hO, R42_kp h.hp hk h.ko h.ho⟩
  rw [hk.block gx (blk_lt h.kx) (blk_ne h.kx h.ko (by decide)) (Kd.R_ne h.ho h.kx (by decide))]
  exact h.kx
theorem gath_err {ps : List Pc} {res : Nat → List Int × Int} {j : Nat} {y : P42} {l : List P42} {acc : List Int} (h : (res j).2 ≠ 0) : gath ps res j (y :: l) acc = ([], (res j).2, j + 1) := by rw [gath, if_pos h]
theorem gath_no {ps : List Pc} {res : Nat → List Int × Int} {j : Nat} {y : P42} {l : List P42} {acc : List Int} (h : (res j).2 = 0) (h2 : ((res j).1.length : Int) ≠ (rdPc ps y.i.toNat).n) : gath ps res j (y :: l) acc = ([], 5, j + 1) := by rw [gath, if_neg (by omega), if_pos h2]
theorem gath_ok {ps : List Pc} {res : Nat → List Int × Int} {j : Nat} {y : P42} {l : List P42} {acc : List Int} (h : (res j).2 = 0) (h2 : ((res j).1.length : Int) = (rdPc ps y.i.toNat).n) :
    gath ps res j (y :: l) acc = gath ps res (j + 1) l (acc ++ ((res j).1.take (y.b + y.n).toNat).drop y.b.toNat) := by rw [gath, if_neg (by omega), if_neg (by omega)]
theorem fn_nil18 (gok gat gw gx0 gb gs : Nat) (w : World) : Sem.run Try.prog (binOp .eql 57 (.func (.func 18) #[] #[.pointer (some ⟨gok, 0, none⟩), .pointer (some ⟨gat, 0, none⟩), .pointer (some ⟨gw, 0, none⟩), .pointer (some ⟨gx0, 0, none⟩), .pointer (some ⟨gb, 0, none⟩), .pointer (some ⟨gs, 0, none⟩)]) .nilFunc) w = .ok (.bool false) w := by
  first | rfl | kernel_rfl | (simp [go_sem, binOp]; done)
set_option maxHeartbeats 4000000 in
set_option maxRecDepth 100000 in
theorem gather_18 (wz w : World) (x : En) (A : Option Addr) (c : Nat) (gok gat gw gx0 gb gs : Nat) (c0 m : Int) (parts : List P42) (res : Nat → List Int × Int) (St : Nat → World → Prop)
    (hR : Kd.C kPc wz A x.ps.length x.ps) (h1 : Below wz.heap.size wz w) (hT : x.tree.length = 32) (hC : x.ps.length ≤ c) (hs : Sz1 x) (hpk : pickP x c0 m = (parts, 0))
    (hS0 : St 0 w) (hSt : ∀ j W W', St j W → (∀ k, k < w.heap.size → W'.heap[k]? = W.heap[k]?) → St j W')
    (hF : ∀ (j : Nat) (W : World), j < parts.length → St j W → Below wz.heap.size wz W → w.heap.size ≤ W.heap.size → Calls Try.prog 18 #[.int .i64 (rd_T42 parts (j : Int)).i, .pointer (some ⟨gok, 0, none⟩), .pointer (some ⟨gat, 0, none⟩), .pointer (some ⟨gw, 0, none⟩), .pointer (some ⟨gx0, 0, none⟩), .pointer (some ⟨gb, 0, none⟩), .pointer (some ⟨gs, 0, none⟩)] W fun e W' => ∃ (A' : Option Addr) (c' : Nat), e = .returned (.tuple #[.slice A' (res j).1.length c', .int .i64 (res j).2]) ∧ (res j).1.length ≤ c' ∧ Kd.C (Kd.int .u8) W' A' (res j).1.length (res j).1 ∧ St (j + 1) W' ∧ Below wz.heap.size wz W' ∧ Ab w.heap.size W W')
    (r : List Int) (er : Int) (jn : Nat) (hg : gath x.ps res 0 parts [] = (r, er, jn)) :
    Calls Try.prog 17 #[.agg (enV x A c).toArray, .int .i64 c0, .int .i64 m, .func (.func 18) #[] #[.pointer (some ⟨gok, 0, none⟩), .pointer (some ⟨gat, 0, none⟩), .pointer (some ⟨gw, 0, none⟩), .pointer (some ⟨gx0, 0, none⟩), .pointer (some ⟨gb, 0, none⟩), .pointer (some ⟨gs, 0, none⟩)]] w fun e w' => ∃ V, e = .returned (.tuple #[V, .int .i64 er]) ∧ Kd.R (Kd.int .u8) 5 w' w.heap.size (fun _ => True) V r ∧ St jn w' ∧ Below wz.heap.size wz w' ∧ w.heap.size ≤ w'.heap.size := by
  have HR1 := Aside0.mk hR
  have HR := Aside0.mk (Kd.C_below hR h1)
  have HZB := Aside0.mk h1.size
  have H1 := Aside0.mk h1
  have HT := Aside0.mk hT
  have HC := Aside0.mk hC
  have HS := Aside0.mk hs
  have HPK := Aside0.mk hpk
  have HS0 := Aside0.mk hS0
  have HST := Aside0.mk hSt
  have HF := Aside0.mk hF
  have HG := Aside0.mk hg
  have hfn := fn_nil18 gok gat gw gx0 gb gs
  have hln : parts.length ≤ 1000 := by have := pickP_len (x := x) (c := c0) (m := m); rw [hpk] at this; exact this
  have HOK := Aside0.mk (show ∀ y ∈ parts, ∃ k : Nat, k < x.ps.length ∧ y.i = (k : Int) ∧ 0 ≤ y.b ∧ 0 ≤ y.n ∧ y.b + y.n ≤ (rdPc x.ps k).n by have := pickP_ok (x := x) (c := c0) (m := m); rw [hpk] at this; exact this)
  have HIN := Aside0.mk (show ∀ y ∈ parts, In y.b ∧ In y.n by have := pickP_in (x := x) (c := c0) (m := m); rw [hpk] at this; exact this)
  have HNB := Aside0.mk (show ∀ p ∈ x.ps, p.n ≤ 4096 from fun p hp => (pick_fine hpk p hp))
  clear hR h1 hT hC hs hpk hS0 hSt hF hg
  go_enter Try.func17, Try.ntmps17
  go_wp2_with (first | ((with_reducible refine gate_dst (N := 4) rfl ?_); refine wpList_box rfl 26 (.tmp 0) rfl (enV x A c) rfl ?_; intro w1 hk hb hs; have E := Aside0.mk (EnAt.mk hk HT.out HC.out (Kd.C_below HR.out hb)); have HB := Aside0.mk hb; have HZZ := Aside0.mk hs; have z0 := E.out.cell (enV_0 x _ _); have z1 := E.out.cell (enV_1 x _ _); have z34 := E.out.cell (enV_34 x _ _ HT.out); clear hk hb hs) | ((with_reducible refine gate_dst (N := 20) rfl ?_); refine load_en rfl (.tmp 4) rfl w.heap.size rfl E.out ?_) | (go_at_call 14; with_reducible refine (tpick_calls E.out.K HS.out c0 m).mono ?_; rw [HPK.out]; rintro e w3 ⟨Vp, rfl, hv, hb⟩; obtain ⟨Ap, cp, rfl⟩ := Kd.R_slice hv; have HP := Aside0.mk (Kd.R_lower hv HB.out.size); clear hv; have nB_ := Aside0.mk (below_step HB.out hb); have nE_ := Aside0.mk (E.out.below hb); clear HB E z0 z1 z34 hb; have HB := nB_; have E := nE_; clear nB_ nE_; have z0 := E.out.cell (enV_0 x _ _); have z1 := E.out.cell (enV_1 x _ _); have z34 := E.out.cell (enV_34 x _ _ HT.out)) | ((with_reducible refine gate_dst (N := 12) rfl ?_); refine wpList_new_var rfl 53 rfl _ info53z ?_; intro w4 hko hb hsz; have KO := Aside0.mk hko; have nP_ := Aside0.mk (Kd.R_below HP.out hb); clear HP hko hsz; have HP := nP_; clear nP_; have HGX := Aside0.mk E.out.lt; have nB_ := Aside0.mk (below_step HB.out hb); have nE_ := Aside0.mk (E.out.below hb); clear HB E z0 z1 z34 hb; have HB := nB_; have E := nE_; clear nB_ nE_; have z0 := E.out.cell (enV_0 x _ _); have z1 := E.out.cell (enV_1 x _ _); have z34 := E.out.cell (enV_34 x _ _ HT.out)))
  have HJ0 := Aside0.mk (GJ.mk (below_step H1.out HB.out) HB.out.size E.out.blk KO.out (Kd.R_nil (Kd.int .u8) 5 _ w.heap.size (fun _ => True)) HP.out : GJ wz w4 w.heap.size w.heap.size w3.heap.size x A c (.slice Ap parts.length cp) (.slice none 0 0) parts [])
  have HS4 := Aside0.mk (HST.out 0 w w4 HS0.out (fun k hk => HB.out.block k hk))
  clear KO HP HB E z0 z1 z34 HR H1 HZZ
  generalize w3.heap.size = go at *
  have HGO := Aside0.mk (Nat.le_of_lt HGX.out)
  clear HGX
  go_loopw [34] (fun v34 wr => ∃ (j : Nat) (acc : List Int) (Vo : Value), j ≤ parts.length ∧ v34 = .int .i64 (j : Int) ∧ Aside0 (acc.length ≤ 4096 * j) ∧ Aside0 (gath x.ps res j (parts.drop j) acc = (r, er, jn)) ∧ Aside0 (St j wr) ∧ Aside0 (GJ wz wr w.heap.size w.heap.size go x A c (.slice Ap parts.length cp) Vo parts acc)) (fun v34 _ => parts.length - (intOf v34).toNat)
  case atStart => exact ⟨0, [], _, Nat.zero_le _, rfl, ⟨Nat.zero_le _⟩, ⟨by rw [List.drop_zero]; exact HG.out⟩, HS4, HJ0⟩
  case round =>
    obtain ⟨j, acc, Vo, hj, rfl, HAL, HGJ, SJ, J⟩ := hrel
    clear HS4 HJ0 HG
    by_cases hlt : j < parts.length
    · have hltb : decide ((j : Int) < (parts.length : Int)) = true := decide_eq_true (lt_lt hlt)
      have p1 : (0 ≤ (j : Int)) = True := eq_true (Int.natCast_nonneg _)
      have p2 : ((j : Int) < (parts.length : Int)) = True := eq_true (lt_lt hlt)
      have hst := HGJ.out
      rw [drop_P42 hlt] at hst
      have HFJ := Aside0.mk (fun W => HF.out j W hlt)
      obtain ⟨k, hk1, hk2, hk3, hk4, hk5⟩ := HOK.out _ (rd42_mem hlt)
      have hyin := HIN.out _ (rd42_mem hlt)
      obtain ⟨ad, hap, hx0, hx1⟩ := at_T42 (Kd.R_reads' J.out.hp).2.2 (j : Int) (Int.natCast_nonneg _) (lt_lt hlt)
      subst hap
      rw [Int.toNat_natCast] at hx0 hx1
      generalize rd_T42 parts (j : Int) = y at *
      obtain ⟨yi, yb, yn⟩ := y
      dsimp only at *
      subst hk2
      obtain ⟨bs, e2, hres⟩ : ∃ bs e2, res j = (bs, e2) := ⟨_, _, rfl⟩
      rw [hres] at HFJ
      dsimp only at HFJ
      have HRES := Aside0.mk hres
      have HK1 := Aside0.mk hk1
      have HYI := Aside0.mk hyin
      obtain ⟨nn, hnn⟩ : ∃ nn, nn = (rdPc x.ps k).n := ⟨_, rfl⟩
      rw [← hnn] at hk5
      have hwi : wrap64 ((j : Int) + 1) = (j : Int) + 1 := wi hlt hln
      by_cases he2 : e2 = 0
      · subst he2
        by_cases hbl : (bs.length : Int) = nn
        · have HST2 := Aside0.mk (show gath x.ps res (j + 1) (parts.drop (j + 1)) (acc ++ (bs.take (yb + yn).toNat).drop yb.toNat) = (r, er, jn) by
            rw [← hst, gath_ok (by rw [hres]) (by rw [hres]; dsimp only; rw [Int.toNat_natCast, ← hnn]; exact hbl), hres])
          have hnb : nn ≤ 4096 := by rw [hnn]; exact HNB.out _ (rdPc_mem hk1)
          have HAL2 := Aside0.mk (show (acc ++ (bs.take (yb + yn).toNat).drop yb.toNat).length ≤ 4096 * (j + 1) by rw [List.length_append, List.length_drop, List.length_take]; have := HAL.out; omega)
          have HALB := Aside0.mk (show acc.length + bs.length ≤ 1099511627776 by have := HAL.out; omega)
          have HBN := Aside0.mk (show yb + yn ≤ (bs.length : Int) by omega)
          have HNN := Aside0.mk hnn.symm
          have HBL := Aside0.mk hbl
          clear hst hres hk1 hk3 hk4 hk5 hnn hbl hyin hnb
          go_wp2_with (first | ((with_reducible refine gate_dst (N := 15) rfl ?_); refine wpList_new_row rfl rfl 49 rfl (.agg #[.int .i64 0, .complex .f64 0 0]) info49z (.tmp 15) (.tmp 37) rfl rfl [.int .i64 (k : Int), Cx yb yn] rfl info49s rfl one49 ?_; intro w5 hkp hb hsz; have KP := Aside0.mk hkp; have nS_ := Aside0.mk (HST.out j wr w5 SJ.out (fun k hk => hb.block k (Nat.lt_of_lt_of_le hk J.out.hB))); have nJ_ := Aside0.mk (J.out.new hb); have HBP := Aside0.mk J.out.hB; clear SJ J hkp hb hsz hx0 hx1; have SJ := nS_; have J := nJ_; clear nS_ nJ_; have y0 := (blk_cell KP.out 0).trans rfl; have y1 := (blk_cell KP.out 1).trans rfl) | (go_at_call 18; with_reducible refine (HFJ.out w5 SJ.out J.out.h1 J.out.hB).mono ?_; rintro e w6 ⟨A6, c6, rfl, hc6, hC6, hS6, hb6, ha6⟩; have HC6 := Aside0.mk hC6; have HCC6 := Aside0.mk hc6; have nK_ := Aside0.mk (blk_above KP.out HBP.out ha6); have nJ_ := Aside0.mk (J.out.above (Nat.le_refl _) HGO.out hb6 ha6); clear SJ J KP y0 y1 hC6 hc6 hb6 ha6; have SJ := Aside0.mk hS6; have J := nJ_; have KP := nK_; clear hS6 nJ_ nK_; have y0 := (blk_cell KP.out 0).trans rfl; have y1 := (blk_cell KP.out 1).trans rfl) | (go_at_call 26; with_reducible refine (put26_ok wz w6 w.heap.size w.heap.size go x A c acc bs Vo A6 c6 k yb yn nn HR1.out J.out.h1 J.out.hB HZB.out HT.out J.out.kx J.out.ko HGO.out J.out.ho HC6.out HCC6.out HK1.out HYI.out.1 HYI.out.2 HNN.out HBL.out HBN.out HALB.out).mono ?_; rintro e w7 ⟨rfl, V8, hko, ho8, hkp8⟩; have nS_ := Aside0.mk (HST.out (j + 1) w6 w7 SJ.out (fun k hk => hkp8.block k (Nat.lt_of_lt_of_le hk J.out.hB) (Nat.ne_of_lt (Nat.lt_of_lt_of_le hk HGO.out)) (fun e9 => by have := own_low J.out.ho k e9.symm; omega))); have nJ_ := Aside0.mk (J.out.put HZB.out HGO.out hkp8 hko ho8); clear SJ J KP y0 y1 hko ho8 hkp8; have SJ := nS_; have J := nJ_; clear nS_ nJ_))
          go_roundw
          case rel => exact ⟨j + 1, _, V8, hlt, by go_num, HAL2, HST2, SJ, J⟩
          case measure => simp [intOf]; exact left_less hlt
        · have HST2 := Aside0.mk (show (([] : List Int), (5 : Int), j + 1) = (r, er, jn) by
            rw [← hst, gath_no (by rw [hres]) (by rw [hres]; dsimp only; rw [Int.toNat_natCast, ← hnn]; exact hbl)])
          have HNN := Aside0.mk hnn.symm
          have HBL := Aside0.mk hbl
          clear hst hres hk1 hk3 hk4 hk5 hnn hbl hyin
          go_wp2_with (first | ((with_reducible refine gate_dst (N := 15) rfl ?_); refine wpList_new_row rfl rfl 49 rfl (.agg #[.int .i64 0, .complex .f64 0 0]) info49z (.tmp 15) (.tmp 37) rfl rfl [.int .i64 (k : Int), Cx yb yn] rfl info49s rfl one49 ?_; intro w5 hkp hb hsz; have KP := Aside0.mk hkp; have nS_ := Aside0.mk (HST.out j wr w5 SJ.out (fun k hk => hb.block k (Nat.lt_of_lt_of_le hk J.out.hB))); have nJ_ := Aside0.mk (J.out.new hb); have HBP := Aside0.mk J.out.hB; clear SJ J hkp hb hsz hx0 hx1; have SJ := nS_; have J := nJ_; clear nS_ nJ_; have y0 := (blk_cell KP.out 0).trans rfl; have y1 := (blk_cell KP.out 1).trans rfl) | (go_at_call 18; with_reducible refine (HFJ.out w5 SJ.out J.out.h1 J.out.hB).mono ?_; rintro e w6 ⟨A6, c6, rfl, hc6, hC6, hS6, hb6, ha6⟩; have HC6 := Aside0.mk hC6; have HCC6 := Aside0.mk hc6; have nK_ := Aside0.mk (blk_above KP.out HBP.out ha6); have nJ_ := Aside0.mk (J.out.above (Nat.le_refl _) HGO.out hb6 ha6); clear SJ J KP y0 y1 hC6 hc6 hb6 ha6; have SJ := Aside0.mk hS6; have J := nJ_; have KP := nK_; clear hS6 nJ_ nK_; have y0 := (blk_cell KP.out 0).trans rfl; have y1 := (blk_cell KP.out 1).trans rfl) | (go_at_call 26; with_reducible refine (put26_no wz w6 w.heap.size w.heap.size go x A c acc bs Vo A6 c6 k yb yn nn HR1.out J.out.h1 J.out.hB HZB.out HT.out J.out.kx J.out.ko HGO.out J.out.ho HC6.out HCC6.out HK1.out HYI.out.1 HYI.out.2 HNN.out HBL.out).mono ?_; rintro e w7 ⟨rfl, hb7⟩; have nS_ := Aside0.mk (HST.out (j + 1) w6 w7 SJ.out (fun k hk => hb7.block k (Nat.lt_of_lt_of_le hk J.out.hB))); have nJ_ := Aside0.mk (J.out.new hb7); clear SJ J KP y0 y1 hb7; have SJ := nS_; have J := nJ_; clear nS_ nJ_))
          go_ret2
          have hq := HST2.out
          injection hq with hq1 hq2
          injection hq2 with hq2 hq3
          subst hq1 hq2 hq3
          exact ⟨_, rfl, Kd.R_nil _ _ _ _ _, SJ.out, J.out.h1, J.out.hB⟩
      · have HST2 := Aside0.mk (show (([] : List Int), e2, j + 1) = (r, er, jn) by
          rw [← hst, gath_err (by rw [hres]; exact he2), hres])
        have b1 : (e2 != 0) = true := bne_iff_ne.mpr he2
        have b2 : (e2 == 0) = false := beq_eq_false_iff_ne.mpr he2
        clear hst hres hk1 hk3 hk4 hk5 hnn hyin he2
        go_wp2_with (first | ((with_reducible refine gate_dst (N := 15) rfl ?_); refine wpList_new_row rfl rfl 49 rfl (.agg #[.int .i64 0, .complex .f64 0 0]) info49z (.tmp 15) (.tmp 37) rfl rfl [.int .i64 (k : Int), Cx yb yn] rfl info49s rfl one49 ?_; intro w5 hkp hb hsz; have KP := Aside0.mk hkp; have nS_ := Aside0.mk (HST.out j wr w5 SJ.out (fun k hk => hb.block k (Nat.lt_of_lt_of_le hk J.out.hB))); have nJ_ := Aside0.mk (J.out.new hb); have HBP := Aside0.mk J.out.hB; clear SJ J hkp hb hsz hx0 hx1; have SJ := nS_; have J := nJ_; clear nS_ nJ_; have y0 := (blk_cell KP.out 0).trans rfl; have y1 := (blk_cell KP.out 1).trans rfl) | (go_at_call 18; with_reducible refine (HFJ.out w5 SJ.out J.out.h1 J.out.hB).mono ?_; rintro e w6 ⟨A6, c6, rfl, hc6, hC6, hS6, hb6, ha6⟩; have HC6 := Aside0.mk hC6; have HCC6 := Aside0.mk hc6; have nK_ := Aside0.mk (blk_above KP.out HBP.out ha6); have nJ_ := Aside0.mk (J.out.above (Nat.le_refl _) HGO.out hb6 ha6); clear SJ J KP y0 y1 hC6 hc6 hb6 ha6; have SJ := Aside0.mk hS6; have J := nJ_; have KP := nK_; clear hS6 nJ_ nK_; have y0 := (blk_cell KP.out 0).trans rfl; have y1 := (blk_cell KP.out 1).trans rfl))
        go_ret2
        have hq := HST2.out
        injection hq with hq1 hq2
        injection hq2 with hq2 hq3
        subst hq1 hq2 hq3
        exact ⟨_, rfl, Kd.R_nil _ _ _ _ _, SJ.out, J.out.h1, J.out.hB⟩
    · obtain rfl : j = parts.length := by omega
      have hltb : decide ((parts.length : Int) < (parts.length : Int)) = false := decide_eq_false (Int.lt_irrefl _)
      have hst := HGJ.out
      rw [List.drop_length, gath] at hst
      have HST2 := Aside0.mk hst
      have zo := (blk_cell J.out.ko 0).trans rfl
      clear hst
      go_wp2
      go_ret2
      have hq := HST2.out
      injection hq with hq1 hq2
      injection hq2 with hq2 hq3
      subst hq1 hq2 hq3
      exact ⟨_, rfl, J.out.ho, SJ.out, J.out.h1, J.out.hB⟩
theorem fn_nil20 (gx0 : Nat) (w : World) : Sem.run Try.prog (binOp .eql 57 (.func (.func 20) #[] #[.pointer (some ⟨gx0, 0, none⟩)]) .nilFunc) w = .ok (.bool false) w := by
  first | rfl | kernel_rfl | (simp [go_sem, binOp]; done)
set_option maxHeartbeats 4000000 in
set_option maxRecDepth 100000 in
theorem gather_20 (wz w : World) (x : En) (A : Option Addr) (c : Nat) (gx0 : Nat) (c0 m : Int) (parts : List P42) (res : Nat → List Int × Int) (St : Nat → World → Prop)
    (hR : Kd.C kPc wz A x.ps.length x.ps) (h1 : Below wz.heap.size wz w) (hT : x.tree.length = 32) (hC : x.ps.length ≤ c) (hs : Sz1 x) (hpk : pickP x c0 m = (parts, 0))
    (hS0 : St 0 w) (hSt : ∀ j W W', St j W → (∀ k, k < w.heap.size → W'.heap[k]? = W.heap[k]?) → St j W')
    (hF : ∀ (j : Nat) (W : World), j < parts.length → St j W → Below wz.heap.size wz W → w.heap.size ≤ W.heap.size → Calls Try.prog 20 #[.int .i64 (rd_T42 parts (j : Int)).i, .pointer (some ⟨gx0, 0, none⟩)] W fun e W' => ∃ (A' : Option Addr) (c' : Nat), e = .returned (.tuple #[.slice A' (res j).1.length c', .int .i64 (res j).2]) ∧ (res j).1.length ≤ c' ∧ Kd.C (Kd.int .u8) W' A' (res j).1.length (res j).1 ∧ St (j + 1) W' ∧ Below wz.heap.size wz W' ∧ Ab w.heap.size W W')
    (r : List Int) (er : Int) (jn : Nat) (hg : gath x.ps res 0 parts [] = (r, er, jn)) :
    Calls Try.prog 17 #[.agg (enV x A c).toArray, .int .i64 c0, .int .i64 m, .func (.func 20) #[] #[.pointer (some ⟨gx0, 0, none⟩)]] w fun e w' => ∃ V, e = .returned (.tuple #[V, .int .i64 er]) ∧ Kd.R (Kd.int .u8) 5 w' w.heap.size (fun _ => True) V r ∧ St jn w' ∧ Below wz.heap.size wz w' ∧ w.heap.size ≤ w'.heap.size := by
  have HR1 := Aside0.mk hR
  have HR := Aside0.mk (Kd.C_below hR h1)
  have HZB := Aside0.mk h1.size
  have H1 := Aside0.mk h1
  have HT := Aside0.mk hT
  have HC := Aside0.mk hC
  have HS := Aside0.mk hs
  have HPK := Aside0.mk hpk
  have HS0 := Aside0.mk hS0
  have HST := Aside0.mk hSt
  have HF := Aside0.mk hF
  have HG := Aside0.mk hg
  have hfn := fn_nil20 gx0
  have hln : parts.length ≤ 1000 := by have := pickP_len (x := x) (c := c0) (m := m); rw [hpk] at this; exact this
  have HOK := Aside0.mk (show ∀ y ∈ parts, ∃ k : Nat, k < x.ps.length ∧ y.i = (k : Int) ∧ 0 ≤ y.b ∧ 0 ≤ y.n ∧ y.b + y.n ≤ (rdPc x.ps k).n by have := pickP_ok (x := x) (c := c0) (m := m); rw [hpk] at this; exact this)
  have HIN := Aside0.mk (show ∀ y ∈ parts, In y.b ∧ In y.n by have := pickP_in (x := x) (c := c0) (m := m); rw [hpk] at this; exact this)
  have HNB := Aside0.mk (show ∀ p ∈ x.ps, p.n ≤ 4096 from fun p hp => (pick_fine hpk p hp))
  clear hR h1 hT hC hs hpk hS0 hSt hF hg
  go_enter Try.func17, Try.ntmps17
  go_wp2_with (first | ((with_reducible refine gate_dst (N := 4) rfl ?_); refine wpList_box rfl 26 (.tmp 0) rfl (enV x A c) rfl ?_; intro w1 hk hb hs; have E := Aside0.mk (EnAt.mk hk HT.out HC.out (Kd.C_below HR.out hb)); have HB := Aside0.mk hb; have HZZ := Aside0.mk hs; have z0 := E.out.cell (enV_0 x _ _); have z1 := E.out.cell (enV_1 x _ _); have z34 := E.out.cell (enV_34 x _ _ HT.out); clear hk hb hs) | ((with_reducible refine gate_dst (N := 20) rfl ?_); refine load_en rfl (.tmp 4) rfl w.heap.size rfl E.out ?_) | (go_at_call 14; with_reducible refine (tpick_calls E.out.K HS.out c0 m).mono ?_; rw [HPK.out]; rintro e w3 ⟨Vp, rfl, hv, hb⟩; obtain ⟨Ap, cp, rfl⟩ := Kd.R_slice hv; have HP := Aside0.mk (Kd.R_lower hv HB.out.size); clear hv; have nB_ := Aside0.mk (below_step HB.out hb); have nE_ := Aside0.mk (E.out.below hb); clear HB E z0 z1 z34 hb; have HB := nB_; have E := nE_; clear nB_ nE_; have z0 := E.out.cell (enV_0 x _ _); have z1 := E.out.cell (enV_1 x _ _); have z34 := E.out.cell (enV_34 x _ _ HT.out)) | ((with_reducible refine gate_dst (N := 12) rfl ?_); refine wpList_new_var rfl 53 rfl _ info53z ?_; intro w4 hko hb hsz; have KO := Aside0.mk hko; have nP_ := Aside0.mk (Kd.R_below HP.out hb); clear HP hko hsz; have HP := nP_; clear nP_; have HGX := Aside0.mk E.out.lt; have nB_ := Aside0.mk (below_step HB.out hb); have nE_ := Aside0.mk (E.out.below hb); clear HB E z0 z1 z34 hb; have HB := nB_; have E := nE_; clear nB_ nE_; have z0 := E.out.cell (enV_0 x _ _); have z1 := E.out.cell (enV_1 x _ _); have z34 := E.out.cell (enV_34 x _ _ HT.out)))
  have HJ0 := Aside0.mk (GJ.mk (below_step H1.out HB.out) HB.out.size E.out.blk KO.out (Kd.R_nil (Kd.int .u8) 5 _ w.heap.size (fun _ => True)) HP.out : GJ wz w4 w.heap.size w.heap.size w3.heap.size x A c (.slice Ap parts.length cp) (.slice none 0 0) parts [])
  have HS4 := Aside0.mk (HST.out 0 w w4 HS0.out (fun k hk => HB.out.block k hk))
  clear KO HP HB E z0 z1 z34 HR H1 HZZ
  generalize w3.heap.size = go at *
  have HGO := Aside0.mk (Nat.le_of_lt HGX.out)
  clear HGX
  go_loopw [34] (fun v34 wr => ∃ (j : Nat) (acc : List Int) (Vo : Value), j ≤ parts.length ∧ v34 = .int .i64 (j : Int) ∧ Aside0 (acc.length ≤ 4096 * j) ∧ Aside0 (gath x.ps res j (parts.drop j) acc = (r, er, jn)) ∧ Aside0 (St j wr) ∧ Aside0 (GJ wz wr w.heap.size w.heap.size go x A c (.slice Ap parts.length cp) Vo parts acc)) (fun v34 _ => parts.length - (intOf v34).toNat)
  case atStart => exact ⟨0, [], _, Nat.zero_le _, rfl, ⟨Nat.zero_le _⟩, ⟨by rw [List.drop_zero]; exact HG.out⟩, HS4, HJ0⟩
  case round =>
    obtain ⟨j, acc, Vo, hj, rfl, HAL, HGJ, SJ, J⟩ := hrel
    clear HS4 HJ0 HG
    by_cases hlt : j < parts.length
    · have hltb : decide ((j : Int) < (parts.length : Int)) = true := decide_eq_true (lt_lt hlt)
      have p1 : (0 ≤ (j : Int)) = True := eq_true (Int.natCast_nonneg _)
      have p2 : ((j : Int) < (parts.length : Int)) = True := eq_true (lt_lt hlt)
      have hst := HGJ.out
      rw [drop_P42 hlt] at hst
      have HFJ := Aside0.mk (fun W => HF.out j W hlt)
      obtain ⟨k, hk1, hk2, hk3, hk4, hk5⟩ := HOK.out _ (rd42_mem hlt)
      have hyin := HIN.out _ (rd42_mem hlt)
      obtain ⟨ad, hap, hx0, hx1⟩ := at_T42 (Kd.R_reads' J.out.hp).2.2 (j : Int) (Int.natCast_nonneg _) (lt_lt hlt)
      subst hap
      rw [Int.toNat_natCast] at hx0 hx1
      generalize rd_T42 parts (j : Int) = y at *
      obtain ⟨yi, yb, yn⟩ := y
      dsimp only at *
      subst hk2
      obtain ⟨bs, e2, hres⟩ : ∃ bs e2, res j = (bs, e2) := ⟨_, _, rfl⟩
      rw [hres] at HFJ
      dsimp only at HFJ
      have HRES := Aside0.mk hres
      have HK1 := Aside0.mk hk1
      have HYI := Aside0.mk hyin
      obtain ⟨nn, hnn⟩ : ∃ nn, nn = (rdPc x.ps k).n := ⟨_, rfl⟩
      rw [← hnn] at hk5
      have hwi : wrap64 ((j : Int) + 1) = (j : Int) + 1 := wi hlt hln
      by_cases he2 : e2 = 0
      · subst he2
        by_cases hbl : (bs.length : Int) = nn
        · have HST2 := Aside0.mk (show gath x.ps res (j + 1) (parts.drop (j + 1)) (acc ++ (bs.take (yb + yn).toNat).drop yb.toNat) = (r, er, jn) by
            rw [← hst, gath_ok (by rw [hres]) (by rw [hres]; dsimp only; rw [Int.toNat_natCast, ← hnn]; exact hbl), hres])
          have hnb : nn ≤ 4096 := by rw [hnn]; exact HNB.out _ (rdPc_mem hk1)
          have HAL2 := Aside0.mk (show (acc ++ (bs.take (yb + yn).toNat).drop yb.toNat).length ≤ 4096 * (j + 1) by rw [List.length_append, List.length_drop, List.length_take]; have := HAL.out; omega)
          have HALB := Aside0.mk (show acc.length + bs.length ≤ 1099511627776 by have := HAL.out; omega)
          have HBN := Aside0.mk (show yb + yn ≤ (bs.length : Int) by omega)
          have HNN := Aside0.mk hnn.symm
          have HBL := Aside0.mk hbl
          clear hst hres hk1 hk3 hk4 hk5 hnn hbl hyin hnb
          go_wp2_with (first | ((with_reducible refine gate_dst (N := 15) rfl ?_); refine wpList_new_row rfl rfl 49 rfl (.agg #[.int .i64 0, .complex .f64 0 0]) info49z (.tmp 15) (.tmp 37) rfl rfl [.int .i64 (k : Int), Cx yb yn] rfl info49s rfl one49 ?_; intro w5 hkp hb hsz; have KP := Aside0.mk hkp; have nS_ := Aside0.mk (HST.out j wr w5 SJ.out (fun k hk => hb.block k (Nat.lt_of_lt_of_le hk J.out.hB))); have nJ_ := Aside0.mk (J.out.new hb); have HBP := Aside0.mk J.out.hB; clear SJ J hkp hb hsz hx0 hx1; have SJ := nS_; have J := nJ_; clear nS_ nJ_; have y0 := (blk_cell KP.out 0).trans rfl; have y1 := (blk_cell KP.out 1).trans rfl) | (go_at_call 20; with_reducible refine (HFJ.out w5 SJ.out J.out.h1 J.out.hB).mono ?_; rintro e w6 ⟨A6, c6, rfl, hc6, hC6, hS6, hb6, ha6⟩; have HC6 := Aside0.mk hC6; have HCC6 := Aside0.mk hc6; have nK_ := Aside0.mk (blk_above KP.out HBP.out ha6); have nJ_ := Aside0.mk (J.out.above (Nat.le_refl _) HGO.out hb6 ha6); clear SJ J KP y0 y1 hC6 hc6 hb6 ha6; have SJ := Aside0.mk hS6; have J := nJ_; have KP := nK_; clear hS6 nJ_ nK_; have y0 := (blk_cell KP.out 0).trans rfl; have y1 := (blk_cell KP.out 1).trans rfl) | (go_at_call 26; with_reducible refine (put26_ok wz w6 w.heap.size w.heap.size go x A c acc bs Vo A6 c6 k yb yn nn HR1.out J.out.h1 J.out.hB HZB.out HT.out J.out.kx J.out.ko HGO.out J.out.ho HC6.out HCC6.out HK1.out HYI.out.1 HYI.out.2 HNN.out HBL.out HBN.out HALB.out).mono ?_; rintro e w7 ⟨rfl, V8, hko, ho8, hkp8⟩; have nS_ := Aside0.mk (HST.out (j + 1) w6 w7 SJ.out (fun k hk => hkp8.block k (Nat.lt_of_lt_of_le hk J.out.hB) (Nat.ne_of_lt (Nat.lt_of_lt_of_le hk HGO.out)) (fun e9 => by have := own_low J.out.ho k e9.symm; omega))); have nJ_ := Aside0.mk (J.out.put HZB.out HGO.out hkp8 hko ho8); clear SJ J KP y0 y1 hko ho8 hkp8; have SJ := nS_; have J := nJ_; clear nS_ nJ_))
          go_roundw
          case rel => exact ⟨j + 1, _, V8, hlt, by go_num, HAL2, HST2, SJ, J⟩
          case measure => simp [intOf]; exact left_less hlt
        · have HST2 := Aside0.mk (show (([] : List Int), (5 : Int), j + 1) = (r, er, jn) by
            rw [← hst, gath_no (by rw [hres]) (by rw [hres]; dsimp only; rw [Int.toNat_natCast, ← hnn]; exact hbl)])
          have HNN := Aside0.mk hnn.symm
          have HBL := Aside0.mk hbl
          clear hst hres hk1 hk3 hk4 hk5 hnn hbl hyin
          go_wp2_with (first | ((with_reducible refine gate_dst (N := 15) rfl ?_); refine wpList_new_row rfl rfl 49 rfl (.agg #[.int .i64 0, .complex .f64 0 0]) info49z (.tmp 15) (.tmp 37) rfl rfl [.int .i64 (k : Int), Cx yb yn] rfl info49s rfl one49 ?_; intro w5 hkp hb hsz; have KP := Aside0.mk hkp; have nS_ := Aside0.mk (HST.out j wr w5 SJ.out (fun k hk => hb.block k (Nat.lt_of_lt_of_le hk J.out.hB))); have nJ_ := Aside0.mk (J.out.new hb); have HBP := Aside0.mk J.out.hB; clear SJ J hkp hb hsz hx0 hx1; have SJ := nS_; have J := nJ_; clear nS_ nJ_; have y0 := (blk_cell KP.out 0).trans rfl; have y1 := (blk_cell KP.out 1).trans rfl) | (go_at_call 20; with_reducible refine (HFJ.out w5 SJ.out J.out.h1 J.out.hB).mono ?_; rintro e w6 ⟨A6, c6, rfl, hc6, hC6, hS6, hb6, ha6⟩; have HC6 := Aside0.mk hC6; have HCC6 := Aside0.mk hc6; have nK_ := Aside0.mk (blk_above KP.out HBP.out ha6); have nJ_ := Aside0.mk (J.out.above (Nat.le_refl _) HGO.out hb6 ha6); clear SJ J KP y0 y1 hC6 hc6 hb6 ha6; have SJ := Aside0.mk hS6; have J := nJ_; have KP := nK_; clear hS6 nJ_ nK_; have y0 := (blk_cell KP.out 0).trans rfl; have y1 := (blk_cell KP.out 1).trans rfl) | (go_at_call 26; with_reducible refine (put26_no wz w6 w.heap.size w.heap.size go x A c acc bs Vo A6 c6 k yb yn nn HR1.out J.out.h1 J.out.hB HZB.out HT.out J.out.kx J.out.ko HGO.out J.out.ho HC6.out HCC6.out HK1.out HYI.out.1 HYI.out.2 HNN.out HBL.out).mono ?_; rintro e w7 ⟨rfl, hb7⟩; have nS_ := Aside0.mk (HST.out (j + 1) w6 w7 SJ.out (fun k hk => hb7.block k (Nat.lt_of_lt_of_le hk J.out.hB))); have nJ_ := Aside0.mk (J.out.new hb7); clear SJ J KP y0 y1 hb7; have SJ := nS_; have J := nJ_; clear nS_ nJ_))
          go_ret2
          have hq := HST2.out
          injection hq with hq1 hq2
          injection hq2 with hq2 hq3
          subst hq1 hq2 hq3
          exact ⟨_, rfl, Kd.R_nil _ _ _ _ _, SJ.out, J.out.h1, J.out.hB⟩
      · have HST2 := Aside0.mk (show (([] : List Int), e2, j + 1) = (r, er, jn) by
          rw [← hst, gath_err (by rw [hres]; exact he2), hres])
        have b1 : (e2 != 0) = true := bne_iff_ne.mpr he2
        have b2 : (e2 == 0) = false := beq_eq_false_iff_ne.mpr he2
        clear hst hres hk1 hk3 hk4 hk5 hnn hyin he2
        go_wp2_with (first | ((with_reducible refine gate_dst (N := 15) rfl ?_); refine wpList_new_row rfl rfl 49 rfl (.agg #[.int .i64 0, .complex .f64 0 0]) info49z (.tmp 15) (.tmp 37) rfl rfl [.int .i64 (k : Int), Cx yb yn] rfl info49s rfl one49 ?_; intro w5 hkp hb hsz; have KP := Aside0.mk hkp; have nS_ := Aside0.mk (HST.out j wr w5 SJ.out (fun k hk => hb.block k (Nat.lt_of_lt_of_le hk J.out.hB))); have nJ_ := Aside0.mk (J.out.new hb); have HBP := Aside0.mk J.out.hB; clear SJ J hkp hb hsz hx0 hx1; have SJ := nS_; have J := nJ_; clear nS_ nJ_; have y0 := (blk_cell KP.out 0).trans rfl; have y1 := (blk_cell KP.out 1).trans rfl) | (go_at_call 20; with_reducible refine (HFJ.out w5 SJ.out J.out.h1 J.out.hB).mono ?_; rintro e w6 ⟨A6, c6, rfl, hc6, hC6, hS6, hb6, ha6⟩; have HC6 := Aside0.mk hC6; have HCC6 := Aside0.mk hc6; have nK_ := Aside0.mk (blk_above KP.out HBP.out ha6); have nJ_ := Aside0.mk (J.out.above (Nat.le_refl _) HGO.out hb6 ha6); clear SJ J KP y0 y1 hC6 hc6 hb6 ha6; have SJ := Aside0.mk hS6; have J := nJ_; have KP := nK_; clear hS6 nJ_ nK_; have y0 := (blk_cell KP.out 0).trans rfl; have y1 := (blk_cell KP.out 1).trans rfl))
        go_ret2
        have hq := HST2.out
        injection hq with hq1 hq2
        injection hq2 with hq2 hq3
        subst hq1 hq2 hq3
        exact ⟨_, rfl, Kd.R_nil _ _ _ _ _, SJ.out, J.out.h1, J.out.hB⟩
    · obtain rfl : j = parts.length := by omega
      have hltb : decide ((parts.length : Int) < (parts.length : Int)) = false := decide_eq_false (Int.lt_irrefl _)
      have hst := HGJ.out
      rw [List.drop_length, gath] at hst
      have HST2 := Aside0.mk hst
      have zo := (blk_cell J.out.ko 0).trans rfl
      clear hst
      go_wp2
      go_ret2
      have hq := HST2.out
      injection hq with hq1 hq2
      injection hq2 with hq2 hq3
      subst hq1 hq2 hq3
      exact ⟨_, rfl, J.out.ho, SJ.out, J.out.h1, J.out.hB⟩
set_option maxHeartbeats 4000000 in
set_option maxRecDepth 100000 in
theorem gather_err {x : En} {cs : List Value} {w : World} (h : kEn.K w x cs) (hs : Sz1 x) (c0 m : Int) (F : Value) (ps : List P42) (er : Int) (hp : pickP x c0 m = (ps, er)) (he : er ≠ 0) :
    Calls Try.prog 17 #[.agg cs.toArray, .int .i64 c0, .int .i64 m, F] w fun e w' => e = .returned (.tuple #[.slice none 0 0, .int .i64 er]) ∧ Below w.heap.size w w' := by
  obtain ⟨A, c, rfl, ht, hc, hr⟩ := kEn_open h
  have HT := Aside0.mk ht
  have HC := Aside0.mk hc
  have HR := Aside0.mk hr
  have HS := Aside0.mk hs
  have HPK := Aside0.mk hp
  have b1 : (er != 0) = true := bne_iff_ne.mpr he
  have b2 : (er == 0) = false := beq_eq_false_iff_ne.mpr he
  clear h ht hc hr hs hp he
  go_enter Try.func17, Try.ntmps17
  go_wp2_with (first | ((with_reducible refine gate_dst (N := 4) rfl ?_); refine wpList_box rfl 26 (.tmp 0) rfl (enV x A c) rfl ?_; intro w1 hk hb hs; have E := Aside0.mk (EnAt.mk hk HT.out HC.out (Kd.C_below HR.out hb)); have HB := Aside0.mk hb; have HZZ := Aside0.mk hs; have z0 := E.out.cell (enV_0 x _ _); have z1 := E.out.cell (enV_1 x _ _); have z34 := E.out.cell (enV_34 x _ _ HT.out); clear hk hb hs) | ((with_reducible refine gate_dst (N := 20) rfl ?_); refine load_en rfl (.tmp 4) rfl w.heap.size rfl E.out ?_) | (go_at_call 14; with_reducible refine (tpick_calls E.out.K HS.out c0 m).mono ?_; rw [HPK.out]; rintro e w3 ⟨Vp, rfl, hv, hb⟩; clear hv; have nB_ := Aside0.mk (below_step HB.out hb); have nE_ := Aside0.mk (E.out.below hb); clear HB E z0 z1 z34 hb; have HB := nB_; have E := nE_; clear nB_ nE_; have z0 := E.out.cell (enV_0 x _ _); have z1 := E.out.cell (enV_1 x _ _); have z34 := E.out.cell (enV_34 x _ _ HT.out)))
  go_ret2
  exact ⟨rfl, HB.out⟩
end Go.Proofs.Ytphpinfingaffaa.Law
