/- What the two Gets keep in memory: the Scan's variable, the row of entries; plain words. -/
import Derived.Test.YthpgbhpnlnpfnaaDoorQE

namespace Go.Proofs.YthpgbhpnlnpfnaaDoor.Law
open Go.RowKit Go.Proofs.YthpgbhpnlnpfnaaDoor Go.Proofs.YthpgbhpnlnpfnaaDoorW.PrintWords Go.Proofs.YthpgbhpnlnpfnaaDoorW.PrintLast Go.Proofs.YthpgbhpnlnpfnaaDoorW.PrintMore Go.Proofs.YthpgbhpnlnpfnaaDoor.E
set_option linter.unusedSimpArgs false
set_option linter.unusedVariables false
/-- how far the entries have been told -/
structure EJ (cnt : Nat) (l3 : List Int) (i : Nat) (xs : List En) (lr : List Int) : Prop where
  len : xs.length = i
  eq : ensG cnt l3 = (xs ++ (ensG (cnt - i) lr).1, (ensG (cnt - i) lr).2)
theorem EJ.zero (cnt : Nat) (l3 : List Int) : EJ cnt l3 0 [] l3 := ⟨rfl, by rw [List.nil_append, Nat.sub_zero]⟩
theorem EJ.step {cnt i : Nat} {l3 lr lq : List Int} {xs : List En} {p : En} (h : EJ cnt l3 i xs lr) (hi : i < cnt) (hp : enG lr = (p, lq, 0)) : EJ cnt l3 (i + 1) (xs ++ [p]) lq := by
  refine ⟨by rw [List.length_append, h.len]; rfl, ?_⟩
  rw [h.eq, show cnt - i = (cnt - (i + 1)) + 1 by omega]
  conv => lhs; unfold ensG
  rw [hp]
  dsimp only
  rw [if_neg (by decide), List.append_assoc]; rfl
theorem EJ.stop {cnt i : Nat} {l3 lr lq : List Int} {xs : List En} {p : En} {e : Int} (h : EJ cnt l3 i xs lr) (hi : i < cnt) (hp : enG lr = (p, lq, e)) (he : e ≠ 0) : ensG cnt l3 = (xs, lq, e) := by
  rw [h.eq, show cnt - i = (cnt - (i + 1)) + 1 by omega]
  conv => lhs; unfold ensG
  rw [hp]
  dsimp only
  rw [if_pos he, List.append_nil]
theorem EJ.done {cnt : Nat} {l3 lr : List Int} {xs : List En} (h : EJ cnt l3 cnt xs lr) : ensG cnt l3 = (xs, lr, 0) := by
  rw [h.eq, Nat.sub_self]
  unfold ensG
  rw [List.append_nil]
theorem strOf_size (l : List Int) : (strOfNums l).size = l.length := by
  unfold strOfNums
  show (l.map _).toArray.size = _
  simp
theorem text_most {l : List Int} {er most : Int} (h0 : 0 ≤ most) : ((textP l er most).1.length : Int) ≤ most := by
  unfold textP
  split
  · exact h0
  · split
    · exact h0
    · split
      · exact h0
      · rename_i h1 h2 h3
        dsimp only
        unfold fixP
        split
        · exact h0
        · dsimp only; rw [List.length_take]; omega
theorem pcsG_len : ∀ (n : Nat) (l : List Int), (pcsG n l).1.length ≤ n
  | 0, _ => Nat.le_refl _
  | n + 1, l => by
    unfold pcsG
    split
    · exact Nat.zero_le _
    · exact Nat.succ_le_succ (pcsG_len n _)
/-- what one entry may have -/
def Fit (x : En) : Prop := x.nm.size ≤ 32 ∧ x.ps.length ≤ 256
theorem en_fit {l : List Int} {x : En} {r : List Int} {e : Int} (h : enG l = (x, r, e)) : Fit x := by
  have hx : x = (enG l).1 := by rw [h]
  have ht : ((textP l 0 32).1.length : Int) ≤ 32 := text_most (by decide)
  have hs : (strOfNums (textP l 0 32).1).size ≤ 32 := by rw [strOf_size]; omega
  rw [hx]
  unfold enG Fit
  dsimp only
  split
  · exact ⟨hs, Nat.zero_le _⟩
  · split
    · exact ⟨hs, Nat.zero_le _⟩
    · rename_i h1 h2
      refine ⟨hs, Nat.le_trans (pcsG_len _ _) ?_⟩
      have := num_bd (by have h3 := h2; rw [Decidable.not_not] at h3; exact h3)
      omega
theorem fit_szd {xs : List En} (h : ∀ x ∈ xs, Fit x) (hl : xs.length ≤ 32) : Szd xs := ⟨by omega, fun x hx => ⟨Nat.le_trans (h x hx).1 (by decide), Nat.le_trans (h x hx).2 (by decide)⟩⟩
theorem fit_snoc {xs : List En} {x : En} (h : ∀ x ∈ xs, Fit x) (hx : Fit x) : ∀ y ∈ xs ++ [x], Fit y := fun y hy => by
  rcases List.mem_append.mp hy with hy | hy
  · exact h y hy
  · rw [List.mem_singleton.mp hy]; exact hx
/-- a Scan's variable at block g, of type t -/
structure Sv (t : TypeId) (w0 w wr : World) (g : Nat) (l : List Int) (e : Int) (S : Option Addr) (cs : Nat) : Prop where
  k1 : wr.heap[g]? = some (.cells (scV S l.length cs e).toArray t (0, 0))
  sc : Scn w0 (.agg (scV S l.length cs e).toArray) l e
  b0 : Below w0.heap.size w0 wr
  bl : Below w.heap.size w wr
  lo : w.heap.size ≤ g
  l0 : w0.heap.size ≤ g
theorem Sv.lt {t : TypeId} {w0 w wr : World} {g : Nat} {l : List Int} {e : Int} {S : Option Addr} {cs : Nat} (h : Sv t w0 w wr g l e S cs) : g + 1 ≤ wr.heap.size := blk_lt h.k1
theorem Sv.bel {t : TypeId} {w0 w wr w' : World} {g : Nat} {l : List Int} {e : Int} {S : Option Addr} {cs : Nat} (h : Sv t w0 w wr g l e S cs) (hb : Below (g + 1) wr w') : Sv t w0 w w' g l e S cs :=
  ⟨(hb.block _ (by omega)).trans h.k1, h.sc, h.b0.trans (Below.mono hb (by have := h.l0; omega)), h.bl.trans (Below.mono hb (by have := h.lo; omega)), h.lo, h.l0⟩
theorem Sv.below {t : TypeId} {w0 w wr w' : World} {g : Nat} {l : List Int} {e : Int} {S : Option Addr} {cs : Nat} (h : Sv t w0 w wr g l e S cs) (hb : Below wr.heap.size wr w') : Sv t w0 w w' g l e S cs := h.bel (Below.mono hb h.lt)
theorem Sv.put {t : TypeId} {w0 w wr : World} {g : Nat} {l : List Int} {e : Int} {S : Option Addr} {cs : Nat} (h : Sv t w0 w wr g l e S cs) {l' : List Int} {e' : Int} {S' : Option Addr} {cs' : Nat} (hs : Scn w0 (.agg (scV S' l'.length cs' e').toArray) l' e') :
    Sv t w0 w ((wr.setCell ⟨g, 0, none⟩ (.slice S' l'.length cs')).setCell ⟨g, 1, none⟩ (.int .i64 e')) g l' e' S' cs' := by
  have ho := ((Only.refl g wr).set 0 (.slice S' l'.length cs')).set 1 (.int .i64 e')
  exact ⟨blk_put (blk_put h.k1 0 _ rfl) 1 _ rfl, hs, h.b0.trans (ho.below h.l0), h.bl.trans (ho.below h.lo), h.lo, h.l0⟩
theorem Sv.scn {t : TypeId} {w0 w wr : World} {g : Nat} {l : List Int} {e : Int} {S : Option Addr} {cs : Nat} (h : Sv t w0 w wr g l e S cs) : Scn wr (.agg (scV S l.length cs e).toArray) l e := h.sc.below h.b0
/-- entries above b, none of whose rows is block k (k: a variable, or one that is not yet) -/
def FarE (b k : Nat) (wr : World) (V : Value) (xs : List En) : Prop := kEn.R 75 wr b (fun j => b ≤ j ∧ j ≠ k) V xs
theorem FarE.new {b : Nat} {wr wa : World} {V : Value} {xs : List En} (h : kEn.R 75 wr b (fun _ => True) V xs) (hb : Below wr.heap.size wr wa) : FarE b wr.heap.size wa V xs :=
  Kd.R_below (Kd.R_mono (Kd.R_bound h) (fun k hk => ⟨hk.2.1, by have := hk.2.2.1; omega⟩)) hb
theorem FarE.below {b k : Nat} {wr wa : World} {V : Value} {xs : List En} (h : FarE b k wr V xs) (hb : Below wr.heap.size wr wa) : FarE b k wa V xs := Kd.R_below h hb
theorem FarE.only {b g k : Nat} {wr wa : World} {V : Value} {xs : List En} (h : FarE b g wr V xs) (ho : Only k wr wa) (hk : k < b ∨ k = g) : FarE b g wa V xs :=
  Kd.R_step h (fun j hj _ => ho.block j (by rcases hk with hk | hk; omega; exact hk ▸ hj.2))
/-- an entry all of whose rows lie from n on -/
def NewM (b n : Nat) (wr : World) (x : En) (vs : List Value) : Prop := kEn.M wr b (fun k => n ≤ k) x vs
theorem NewM.mk {b : Nat} {wa wr : World} {x : En} {vs : List Value} (h : kEn.M wr wa.heap.size (fun _ => True) x vs) (hb : b ≤ wa.heap.size) : NewM b wa.heap.size wr x vs :=
  kEn.M_mono (fun k hk => hk.2.1) (kEn.M_lower hb (kEn.M_bound h))
theorem NewM.below {b n : Nat} {wr w' : World} {x : En} {vs : List Value} (h : NewM b n wr x vs) (hb : Below wr.heap.size wr w') : NewM b n w' x vs := Kd.M_below h hb
theorem NewM.only {b n k : Nat} {wr w' : World} {x : En} {vs : List Value} (h : NewM b n wr x vs) (ho : Only k wr w') (hk : k < n) : NewM b n w' x vs := Kd.M_step h (fun j hj _ => ho.block j (by omega))
/-- the row's block is of the world in which it was made -/
theorem FarE.lt {b k : Nat} {wr : World} {V : Value} {xs : List En} (h : FarE b k wr V xs) : ∀ j, V.ownBlock = some j → j < wr.heap.size := fun j hj => by
  obtain ⟨_, ho⟩ := Kd.R_own h
  exact own_lt ho j hj
theorem info75a : (Tryd.prog.info? 75).map (fun i => (i.zero, i.size, i.bytes)) = some (some (.agg (enV zEn none 0).toArray), kEn.sz, 80) := by kernel_rfl
theorem getP_few {l : List Int} {c ec : Int} {k : Nat} (h : numP l 0 0 32 = (c, k, ec)) (he : ec ≠ 0) : getP l = ([], ec) := by
  unfold getP
  rw [h]
  dsimp only
  rw [if_pos he]
theorem getP_stop {l : List Int} {c : Int} {k : Nat} {xs : List En} {r : List Int} {e : Int} (h : numP l 0 0 32 = (c, k, 0)) (hg : ensG c.toNat (l.drop k) = (xs, r, e)) (he : e ≠ 0) : getP l = ([], e) := by
  unfold getP
  rw [h]
  dsimp only
  rw [if_neg (by decide), hg]
  dsimp only
  rw [if_pos he]
theorem getP_end {l : List Int} {c : Int} {k : Nat} {xs : List En} {r : List Int} (h : numP l 0 0 32 = (c, k, 0)) (hg : ensG c.toNat (l.drop k) = (xs, r, 0)) : getP l = if endP r 0 ≠ 0 then ([], endP r 0) else if risingP xs ≠ 0 then ([], 5) else (xs, 0) := by
  unfold getP
  rw [h]
  dsimp only
  rw [if_neg (by decide), hg]
  dsimp only
  rw [if_neg (by decide)]
end Go.Proofs.YthpgbhpnlnpfnaaDoor.Law

namespace Go.Proofs.YthpgbhpnlnpfnaaDoor.Law
open Go.RowKit Go.Proofs.YthpgbhpnlnpfnaaDoor Go.Proofs.YthpgbhpnlnpfnaaDoorW.PrintWords Go.Proofs.YthpgbhpnlnpfnaaDoorW.PrintLast Go.Proofs.YthpgbhpnlnpfnaaDoorW.PrintMore Go.Proofs.YthpgbhpnlnpfnaaDoor.E
set_option linter.unusedSimpArgs false
set_option linter.unusedVariables false
theorem Scn.nil (w : World) : Scn w (.agg (scV none 0 0 0).toArray) [] 0 := ⟨none, 0, rfl, Kd.C_nil _ w, Nat.le_refl _, fun x hx => by cases hx⟩
theorem Sv.new {t : TypeId} {w w1 w2 : World} (h1 : Below w.heap.size w w1) (h2 : Below w1.heap.size w1 w2) : Sv t w1 w (w2.alloc (.cells (scV none 0 0 0).toArray t)) w2.heap.size [] 0 none 0 :=
  ⟨heap_alloc_new w2 _, Scn.nil _, below_alloc h2 _, below_alloc (below_step h1 h2) _, Nat.le_trans h1.size h2.size, h2.size⟩
theorem enV_whole (x y : En) (A B : Option Addr) (c d : Nat) (hx : x.tree.length = 32) (hy : y.tree.length = 32) : (enV x A c).take 0 ++ enV y B d ++ (enV x A c).drop (0 + (enV y B d).length) = enV y B d := by
  rw [List.take_zero, List.nil_append, Nat.zero_add, List.drop_eq_nil_of_le (by rw [enV_len _ _ _ hx, enV_len _ _ _ hy]; exact Nat.le_refl _), List.append_nil]
theorem new_ok {g5 g7 n : Nat} {V : Value} (h : g5 + 1 ≤ g7) (h7 : g7 < n) (hV : ∀ j, V.ownBlock = some j → j < n) : ∀ k, n ≤ k → (g5 + 1 ≤ k ∧ k ≠ g7) ∧ some k ≠ V.ownBlock := fun k hk =>
  ⟨⟨by omega, by omega⟩, fun e => by have := hV k e.symm; omega⟩
theorem new_fresh {g5 g7 : Nat} {W : World} {o : Obj} (h : g5 + 1 ≤ g7) (hb : W.heap[g7]? = some o) : ∀ k, W.heap.size ≤ k → g5 + 1 ≤ k ∧ k ≠ g7 := fun k hk => by
  have := blk_lt hb
  omega
theorem pcsG_left : ∀ (n : Nat) (l : List Int), (pcsG n l).2.1.length ≤ l.length
  | 0, _ => Nat.le_refl _
  | n + 1, l => by
    have h1 : (pcG l).2.1.length ≤ l.length := by unfold pcG; simp only [List.length_drop]; omega
    unfold pcsG
    split
    · exact h1
    · exact Nat.le_trans (pcsG_left n _) h1
theorem enG_left {l : List Int} {x : En} {r : List Int} {e : Int} (h : enG l = (x, r, e)) : r.length ≤ l.length := by
  have hx : r = (enG l).2.1 := by rw [h]
  rw [hx]
  unfold enG
  dsimp only
  split
  · simp only [List.length_drop]; omega
  · split
    · simp only [List.length_drop]; omega
    · refine Nat.le_trans (pcsG_left _ _) ?_
      simp only [List.length_drop]; omega
/-- what a Get answers -/
def GetOut (w : World) (l : List Int) (e : Ending) (w' : World) : Prop :=
  ∃ V', e = .returned (.tuple #[V', .int .i64 (getP l).2]) ∧ Kd.R kEn 75 w' w.heap.size (fun _ => True) V' (getP l).1 ∧ Below w.heap.size w w'
theorem GetOut.no {w w' : World} {l : List Int} {e : Int} (h : getP l = ([], e)) (hb : Below w.heap.size w w') : GetOut w l (.returned (.tuple #[.slice none 0 0, .int .i64 e])) w' := by
  unfold GetOut; rw [h]; exact ⟨_, rfl, Kd.R_nil _ _ _ _ _, hb⟩
theorem GetOut.yes {w w' : World} {l : List Int} {xs : List En} {V : Value} (h : getP l = (xs, 0)) (hr : Kd.R kEn 75 w' w.heap.size (fun _ => True) V xs) (hb : Below w.heap.size w w') : GetOut w l (.returned (.tuple #[V, .int .i64 0])) w' := by
  unfold GetOut; rw [h]; exact ⟨_, rfl, hr, hb⟩
theorem endP_ne (l : List Int) {e : Int} (h : e ≠ 0) : endP l e = e := by unfold endP; rw [if_neg h]
set_option maxHeartbeats 4000000 in
set_option maxRecDepth 100000 in
theorem nget_few {w : World} {V : Value} {l : List Int} {c : Int} {k : Nat} {ec : Int} {l1 : List Int} (h : Rd w V l) (hby : Bytes l) (hm : l.length < 140737488355000) (hn : numP l 0 0 32 = (c, k, ec)) (hl1 : l.drop k = l1) (hec : ec ≠ 0) :
    Calls Tryd.prog 32 #[V] w (GetOut w l) := by
  have H := Aside0.mk h
  have HM := Aside0.mk (show l.length < 140737488355328 by omega)
  have HBY := Aside0.mk hby
  have HN := Aside0.mk hn
  have HL1 := Aside0.mk hl1
  have HG := Aside0.mk (getP_few hn hec)
  obtain rfl : c = 0 := by have := num_err (l := l) (er := 0) (a := 0) (b := 32) (by rw [hn]; exact hec); rw [hn] at this; exact this
  have HEC := Aside0.mk hec
  have HEN := Aside0.mk (endP_ne l1 hec)
  have b2 : (ec != 0) = true := bne_iff_ne.mpr hec
  have b3 : (ec == 0) = false := beq_eq_false_iff_ne.mpr hec
  clear h hby hm hn hl1 hec
  go_enter Tryd.func32, Tryd.ntmps32
  go_wp2_with (first
    | (go_at_call 51; (with_reducible refine (from_calls H.out HM.out).mono ?_); rintro e w1 ⟨V1, rfl, hr, hb⟩; have HR := Aside0.mk hr; have HB1 := Aside0.mk hb; clear hr hb)
    | (go_at_call 52; (with_reducible refine (num_calls (Scn.own HR.out HBY.out 0) (Below.refl w1.heap.size w1) 0 32).mono ?_); rw [HN.out]; dsimp only; rw [HL1.out]; rintro e w2 ⟨v2, rfl, hs, hb⟩; obtain ⟨S2, cs2, rfl⟩ := hs.open; have HSC := Aside0.mk hs; have HB2 := Aside0.mk hb; clear hs hb)
    | ((with_reducible refine gate_dst (N := 5) rfl ?_); refine wpList_alloc_zero rfl 82 rfl _ info82z ?_; have E := Aside0.mk (Sv.new (t := 82) HB1.out HB2.out); (try dsimp only [Value.cells]); generalize w2.alloc (.cells (scV none 0 0 0).toArray 82) = w3 at *; generalize w2.heap.size = g5 at *; have f0 := blk_frozen E.out.k1 0; have f1 := blk_frozen E.out.k1 1; have c0 := (blk_cell E.out.k1 0).trans rfl; have c1 := (blk_cell E.out.k1 1).trans rfl)
    )
  have n0_ := Aside0.mk (E.out.put HSC.out)
  clear E f0 f1 c0 c1 HSC HB2 HR H
  have E := n0_
  clear n0_
  generalize (w3.setCell ⟨g5, 0, none⟩ (.slice S2 l1.length cs2)).setCell ⟨g5, 1, none⟩ (.int .i64 ec) = wq at *
  go_loopw [6, 16] (fun v6 v16 wr => v6 = .slice none 0 0 ∧ v16 = .int .i64 0 ∧ wr = wq) (fun _ _ _ => 0)
  case atStart => exact ⟨rfl, rfl, rfl⟩
  case round =>
    obtain ⟨rfl, rfl, rfl⟩ := hrel
    obtain ⟨wq, rfl⟩ : ∃ x : World, x = wr := ⟨_, rfl⟩
    have f0 := blk_frozen E.out.k1 0
    have f1 := blk_frozen E.out.k1 1
    have c0 := (blk_cell E.out.k1 0).trans rfl
    have c1 := (blk_cell E.out.k1 1).trans rfl
    go_wp2_with (first
    | (go_at_call 55; (with_reducible refine (end_calls E.out.scn).mono ?_); rw [HEN.out]; rintro e w4 ⟨rfl, hb⟩; have HB4 := Aside0.mk (below_step E.out.bl hb); clear hb))
    go_ret2
    exact GetOut.no HG.out HB4.out
set_option maxHeartbeats 4000000 in
set_option maxRecDepth 100000 in
theorem nget_ok {w : World} {V : Value} {l : List Int} {m : Nat} {k : Nat} {l1 : List Int} (h : Rd w V l) (hby : Bytes l) (hm : l.length < 140737488355000) (hn : numP l 0 0 32 = (((m : Nat) : Int), k, 0)) (hl1 : l.drop k = l1)  :
    Calls Tryd.prog 32 #[V] w (GetOut w l) := by
  have H := Aside0.mk h
  have HM := Aside0.mk (show l.length < 140737488355328 by omega)
  have HBY := Aside0.mk hby
  have HN := Aside0.mk hn
  have HL1 := Aside0.mk hl1
  have HC0 := Aside0.mk hm
  have HM1 := Aside0.mk (show l1.length < 140737488355000 by rw [← hl1, List.length_drop]; omega)
  have HMC := Aside0.mk (show m ≤ 32 by have := (num_bd (l := l) (er := 0) (a := 0) (b := 32) (by rw [hn])).2; rw [hn] at this; dsimp only at this; omega)
  clear h hby hm hn hl1
  go_enter Tryd.func32, Tryd.ntmps32
  go_wp2_with (first
    | (go_at_call 51; (with_reducible refine (from_calls H.out HM.out).mono ?_); rintro e w1 ⟨V1, rfl, hr, hb⟩; have HR := Aside0.mk hr; have HB1 := Aside0.mk hb; clear hr hb)
    | (go_at_call 52; (with_reducible refine (num_calls (Scn.own HR.out HBY.out 0) (Below.refl w1.heap.size w1) 0 32).mono ?_); rw [HN.out]; dsimp only; rw [HL1.out]; rintro e w2 ⟨v2, rfl, hs, hb⟩; obtain ⟨S2, cs2, rfl⟩ := hs.open; have HSC := Aside0.mk hs; have HB2 := Aside0.mk hb; clear hs hb)
    | ((with_reducible refine gate_dst (N := 5) rfl ?_); refine wpList_alloc_zero rfl 82 rfl _ info82z ?_; have E := Aside0.mk (Sv.new (t := 82) HB1.out HB2.out); (try dsimp only [Value.cells]); generalize w2.alloc (.cells (scV none 0 0 0).toArray 82) = w3 at *; generalize w2.heap.size = g5 at *; have f0 := blk_frozen E.out.k1 0; have f1 := blk_frozen E.out.k1 1; have c0 := (blk_cell E.out.k1 0).trans rfl; have c1 := (blk_cell E.out.k1 1).trans rfl)
    )
  have n0_ := Aside0.mk (E.out.put HSC.out)
  clear E f0 f1 c0 c1 HSC HB2 HR H
  have E := n0_
  clear n0_
  generalize (w3.setCell ⟨g5, 0, none⟩ (.slice S2 l1.length cs2)).setCell ⟨g5, 1, none⟩ (.int .i64 0) = wq at *
  have HV := Aside0.mk (Kd.R_nil kEn 75 wq (g5 + 1) (fun _ => True))
  have HJ := Aside0.mk (EJ.zero m l1)
  have HF := Aside0.mk (show ∀ x ∈ ([] : List En), Fit x from fun x hx => by cases hx)
  go_loopw [6, 16] (fun v6 v16 wr => ∃ (i : Nat) (xs : List En) (lr : List Int) (S : Option Addr) (cs : Nat), v16 = .int .i64 i ∧ i ≤ m ∧ Aside0 (Sv 82 w1 w wr g5 lr 0 S cs) ∧ Aside0 (kEn.R 75 wr (g5 + 1) (fun _ => True) v6 xs) ∧ Aside0 (EJ m l1 i xs lr) ∧ Aside0 (lr.length < 140737488355000) ∧ Aside0 (∀ x ∈ xs, Fit x)) (fun _ v16 _ => m - (intOf v16).toNat)
  case atStart => exact ⟨0, [], l1, S2, cs2, rfl, Nat.zero_le _, E, HV, HJ, HM1, HF⟩
  case round =>
    obtain ⟨i, xs, lr, S4, cs4, rfl, hi, En_, HVn, HJn, HMn, HFn⟩ := hrel
    clear E HV HJ HM1 HF
    have E := En_
    have HV := HVn
    have HJ := HJn
    have HM1 := HMn
    have HF := HFn
    clear En_ HVn HJn HMn HFn
    obtain ⟨wo, rfl⟩ : ∃ x : World, x = wr := ⟨_, rfl⟩
    obtain ⟨V8, rfl⟩ : ∃ V, V = u6 := ⟨_, rfl⟩
    by_cases hlt : i < m
    · have hltb : decide ((i : Int) < (m : Int)) = true := decide_eq_true (by omega)
      have hltn : decide (i < m) = true := decide_eq_true hlt
      have hltp : (i < m) = True := eq_true hlt
      have hwi : wrap64 ((i : Int) + 1) = (i : Int) + 1 := n64 (by omega) (by have := HMC.out; omega)
      have HLT := Aside0.mk hlt
      obtain ⟨x5, l5, e5, he⟩ : ∃ x5 l5 e5, enG lr = (x5, l5, e5) := ⟨_, _, _, rfl⟩
      have HE := Aside0.mk he
      have HFX := Aside0.mk (en_fit he)
      have HM5 := Aside0.mk (show l5.length < 140737488355000 by have := HM1.out; have := enG_left he; omega)
      clear he hlt hi
      by_cases he5 : e5 = 0
      · have hnb : (e5 != 0) = false := by rw [he5]; rfl
        have hnb2 : (e5 == 0) = true := by rw [he5]; rfl
        have HE5 := Aside0.mk he5
        clear he5
        go_wp2_with (first
            | ((with_reducible refine gate_dst (N := 7) rfl ?_); refine wpList_alloc_zero rfl 75 rfl _ info75z ?_; have K7 := Aside0.mk (heap_alloc_new wo (.cells (enV zEn none 0).toArray 75)); have n0_ := Aside0.mk (E.out.below (below_alloc (Below.refl _ _) (.cells (enV zEn none 0).toArray 75))); have n1_ := Aside0.mk (FarE.new HV.out (below_alloc (Below.refl _ _) (.cells (enV zEn none 0).toArray 75))); have HG := Aside0.mk E.out.lt; have hg1 := Nat.ne_of_gt (Nat.lt_of_succ_le HG.out); have hg2 := hg1.symm; clear E HV; have E := n0_; have HV := n1_; clear n0_ n1_; (try dsimp only [Value.cells]); generalize wo.alloc (.cells (enV zEn none 0).toArray 75) = wa at *; generalize wo.heap.size = g7 at *; have f0 := blk_frozen E.out.k1 0; have f1 := blk_frozen E.out.k1 1; have c0 := (blk_cell E.out.k1 0).trans rfl; have c1 := (blk_cell E.out.k1 1).trans rfl)
            | (go_at_call 53; (with_reducible refine (entry_calls E.out.sc E.out.b0 HM1.out).mono ?_); rintro e w4 ⟨x4, A4, c4, v4, rfl, ht, hs, hb, hx⟩; rw [HE.out] at hs hx; dsimp only at hs hx; obtain ⟨S5, cs5, rfl⟩ := hs.open; have HSC := Aside0.mk hs; have HT4 := Aside0.mk ht; have HG7 := Aside0.mk (blk_lt K7.out); have HXX := Aside0.mk (hx HE5.out).1; have HNM := Aside0.mk (NewM.mk (b := g5 + 1) (hx HE5.out).2 (by have := HG.out; have := HG7.out; omega));  have HVB := Aside0.mk HV.out.lt; have n0_ := Aside0.mk (E.out.below hb); have n1_ := Aside0.mk (HV.out.below hb); have n2_ := Aside0.mk (blk_below K7.out hb); clear E HV K7; have E := n0_; have HV := n1_; have K7 := n2_; clear n0_ n1_ n2_; clear hs hb hx ht f0 f1 c0 c1)
            | ((with_reducible refine gate_store (t := 75) (p := 7) (v := .tmp 21) rfl ?_); refine wpList_store_blk rfl 75 (.tmp 7) (.tmp 21) rfl g7 0 rfl (.agg (enV x4 A4 c4).toArray) (enV x4 A4 c4) rfl rfl (by rw [enV_len _ _ _ HT4.out]; exact info26) (enV_one _ _ _) _ 75 K7.out (by rw [enV_len _ _ _ HT4.out]; exact Nat.le_refl _) ?_; rw [enV_whole zEn x4 none A4 0 c4 rfl HT4.out]; intro w5 hk ho; have n9_ := Aside0.mk (HNM.out.only ho HG7.out); clear HNM; have HNM := n9_; clear n9_; have n0_ := Aside0.mk (E.out.bel (ho.below HG.out)); have n1_ := Aside0.mk (HV.out.only ho (Or.inr rfl)); clear E HV; have E := n0_; have HV := n1_; clear n0_ n1_; clear K7 ho; have K7 := Aside0.mk hk; clear hk; have f0 := blk_frozen E.out.k1 0; have f1 := blk_frozen E.out.k1 1; have c0 := (blk_cell E.out.k1 0).trans rfl; have c1 := (blk_cell E.out.k1 1).trans rfl)
            | (go_at_call 54; have HOS := ((Only.refl g5 w5).set 0 (.slice S5 l5.length cs5)).set 1 (.int .i64 e5); have n9_ := Aside0.mk (HNM.out.only HOS (by have := HG.out; have := HG7.out; omega)); clear HNM; have HNM := n9_; clear n9_; have n0_ := Aside0.mk (E.out.put HSC.out); have n1_ := Aside0.mk (HV.out.only HOS (Or.inl (Nat.lt_succ_self _))); have n2_ := Aside0.mk ((HOS.block g7 (by have := HG.out; omega)).trans K7.out); clear E HV K7; have E := n0_; have HV := n1_; have K7 := n2_; clear n0_ n1_ n2_; clear HOS f0 f1 c0 c1 HSC; (with_reducible refine (err_calls E.out.scn).mono ?_); rintro e w6 ⟨rfl, hb⟩; have n9_ := Aside0.mk (HNM.out.below hb); clear HNM; have HNM := n9_; clear n9_; have n0_ := Aside0.mk (E.out.below hb); have n1_ := Aside0.mk (HV.out.below hb); have n2_ := Aside0.mk (blk_below K7.out hb); clear E HV K7; have E := n0_; have HV := n1_; have K7 := n2_; clear n0_ n1_ n2_; clear hb; have c0 := (blk_cell E.out.k1 0).trans rfl; have c1 := (blk_cell E.out.k1 1).trans rfl)
            | ((with_reducible refine gate_dst (N := 29) rfl ?_); refine wpList_load_part rfl 75 (.tmp 7) rfl g7 0 rfl (enV x4 A4 c4) _ (fun j v hv => by rw [Nat.zero_add, blk_cell K7.out, List.getElem?_toArray, hv]) Tryd.underlying75 rfl (by rw [enV_len _ _ _ HT4.out]; exact info26) ?_)
            | ((with_reducible refine gate_dst (N := 30) rfl ?_); refine one_row rfl 47 75 35 _ Tryd.underlying47 info75b (by decide) (by decide) rfl (.tmp 29) rfl (enV x4 A4 c4) (enV_len _ _ _ HT4.out) rfl ?_)
            | ((with_reducible refine gate_builtin (b := .append) (xs := #[.tmp 28, .tmp 30]) rfl ?_); at_builtin; refine Kd.R_append kEn (w0 := w6) (g5 + 1) rfl (.tmp 28) (.tmp 30) 47 75 _ 80 rfl Tryd.underlying47 info75a rfl (by decide) (by decide) V8 xs x4 (enV x4 A4 c4) (fun k => g5 + 1 ≤ k ∧ k ≠ g7) (fun k => wa.heap.size ≤ k) rfl rfl HNM.out (new_ok HG.out HG7.out HVB.out) (new_fresh HG.out K7.out) HV.out (Below.refl _ _) E.out.lt (by have := HJ.out.len; have := HLT.out; have := HMC.out; omega) ?_; intro V9 w7 ho hb9 hg hat; obtain ⟨xs9, hp9⟩ : ∃ q, xs ++ [x4] = q := ⟨_, rfl⟩; rw [hp9] at ho; have HP9 := Aside0.mk hp9; have n0_ := Aside0.mk (E.out.bel hb9); have n1_ := Aside0.mk (Kd.R_mono ho (fun _ _ => trivial)); clear E HV K7 ho hb9 hg hat c0 c1 hp9; have E := n0_; have HV := n1_; clear n0_ n1_)
          )
        have HJ2 := Aside0.mk (HJ.out.step HLT.out (show enG lr = (x4, l5, 0) by rw [HE.out, HXX.out, HE5.out]))
        have HF2 := Aside0.mk (fit_snoc HF.out (HXX.out ▸ HFX.out))
        rw [HP9.out] at HJ2 HF2
        rw [HE5.out] at E
        clear HJ HF
        (try simp only [hwi])
        go_roundw
        case rel => exact ⟨i + 1, xs9, l5, S5, cs5, by go_num, by have := HLT.out; omega, E, HV, HJ2, HM5, HF2⟩
        case measure => simp [intOf]; have := HLT.out; omega
      · have hnb : (e5 != 0) = true := bne_iff_ne.mpr he5
        have hnb2 : (e5 == 0) = false := beq_eq_false_iff_ne.mpr he5
        have HE5 := Aside0.mk he5
        clear he5
        have HG9 := Aside0.mk (getP_stop HN.out (by rw [HL1.out, Int.toNat_natCast]; exact HJ.out.stop HLT.out HE.out HE5.out) HE5.out)
        go_wp2_with (first
            | ((with_reducible refine gate_dst (N := 7) rfl ?_); refine wpList_alloc_zero rfl 75 rfl _ info75z ?_; have K7 := Aside0.mk (heap_alloc_new wo (.cells (enV zEn none 0).toArray 75)); have n0_ := Aside0.mk (E.out.below (below_alloc (Below.refl _ _) (.cells (enV zEn none 0).toArray 75))); have n1_ := Aside0.mk (FarE.new HV.out (below_alloc (Below.refl _ _) (.cells (enV zEn none 0).toArray 75))); have HG := Aside0.mk E.out.lt; have hg1 := Nat.ne_of_gt (Nat.lt_of_succ_le HG.out); have hg2 := hg1.symm; clear E HV; have E := n0_; have HV := n1_; clear n0_ n1_; (try dsimp only [Value.cells]); generalize wo.alloc (.cells (enV zEn none 0).toArray 75) = wa at *; generalize wo.heap.size = g7 at *; have f0 := blk_frozen E.out.k1 0; have f1 := blk_frozen E.out.k1 1; have c0 := (blk_cell E.out.k1 0).trans rfl; have c1 := (blk_cell E.out.k1 1).trans rfl)
            | (go_at_call 53; (with_reducible refine (entry_calls E.out.sc E.out.b0 HM1.out).mono ?_); rintro e w4 ⟨x4, A4, c4, v4, rfl, ht, hs, hb, hx⟩; rw [HE.out] at hs hx; dsimp only at hs hx; obtain ⟨S5, cs5, rfl⟩ := hs.open; have HSC := Aside0.mk hs; have HT4 := Aside0.mk ht; have HG7 := Aside0.mk (blk_lt K7.out);  have HVB := Aside0.mk HV.out.lt; have n0_ := Aside0.mk (E.out.below hb); have n1_ := Aside0.mk (HV.out.below hb); have n2_ := Aside0.mk (blk_below K7.out hb); clear E HV K7; have E := n0_; have HV := n1_; have K7 := n2_; clear n0_ n1_ n2_; clear hs hb hx ht f0 f1 c0 c1)
            | ((with_reducible refine gate_store (t := 75) (p := 7) (v := .tmp 21) rfl ?_); refine wpList_store_blk rfl 75 (.tmp 7) (.tmp 21) rfl g7 0 rfl (.agg (enV x4 A4 c4).toArray) (enV x4 A4 c4) rfl rfl (by rw [enV_len _ _ _ HT4.out]; exact info26) (enV_one _ _ _) _ 75 K7.out (by rw [enV_len _ _ _ HT4.out]; exact Nat.le_refl _) ?_; rw [enV_whole zEn x4 none A4 0 c4 rfl HT4.out]; intro w5 hk ho; have n0_ := Aside0.mk (E.out.bel (ho.below HG.out)); have n1_ := Aside0.mk (HV.out.only ho (Or.inr rfl)); clear E HV; have E := n0_; have HV := n1_; clear n0_ n1_; clear K7 ho; have K7 := Aside0.mk hk; clear hk; have f0 := blk_frozen E.out.k1 0; have f1 := blk_frozen E.out.k1 1; have c0 := (blk_cell E.out.k1 0).trans rfl; have c1 := (blk_cell E.out.k1 1).trans rfl)
            | (go_at_call 54; have HOS := ((Only.refl g5 w5).set 0 (.slice S5 l5.length cs5)).set 1 (.int .i64 e5); have n0_ := Aside0.mk (E.out.put HSC.out); have n1_ := Aside0.mk (HV.out.only HOS (Or.inl (Nat.lt_succ_self _))); have n2_ := Aside0.mk ((HOS.block g7 (by have := HG.out; omega)).trans K7.out); clear E HV K7; have E := n0_; have HV := n1_; have K7 := n2_; clear n0_ n1_ n2_; clear HOS f0 f1 c0 c1 HSC; (with_reducible refine (err_calls E.out.scn).mono ?_); rintro e w6 ⟨rfl, hb⟩; have n0_ := Aside0.mk (E.out.below hb); have n1_ := Aside0.mk (HV.out.below hb); have n2_ := Aside0.mk (blk_below K7.out hb); clear E HV K7; have E := n0_; have HV := n1_; have K7 := n2_; clear n0_ n1_ n2_; clear hb; have c0 := (blk_cell E.out.k1 0).trans rfl; have c1 := (blk_cell E.out.k1 1).trans rfl)
            | (go_at_call 54; (with_reducible refine (err_calls E.out.scn).mono ?_); rintro e w7 ⟨rfl, hb⟩; have n0_ := Aside0.mk (E.out.below hb); clear E; have E := n0_; clear n0_; clear hb)
          )
        go_ret2
        exact GetOut.no HG9.out E.out.bl
    · obtain rfl : i = m := by omega
      have hltb : decide ((i : Int) < (i : Int)) = false := decide_eq_false (by omega)
      have HG9 := Aside0.mk (getP_end HN.out (by rw [HL1.out, Int.toNat_natCast]; exact HJ.out.done))
      have HSZ := Aside0.mk (fit_szd HF.out (by rw [HJ.out.len]; exact HMC.out))
      obtain ⟨A8, c8, rfl, hcc, hC⟩ := Kd.R_reads HV.out
      have HCR := Aside0.mk hC
      clear hcc hC hi HJ HF
      have f0 := blk_frozen E.out.k1 0
      have f1 := blk_frozen E.out.k1 1
      have c0 := (blk_cell E.out.k1 0).trans rfl
      have c1 := (blk_cell E.out.k1 1).trans rfl
      by_cases hen : endP lr 0 = 0
      · have b2 : (endP lr 0 != 0) = false := by rw [hen]; rfl
        have b3 : (endP lr 0 == 0) = true := by rw [hen]; rfl
        have HEN := Aside0.mk hen
        by_cases hri : risingP xs = 0
        · have b4 : (risingP xs != 0) = false := by rw [hri]; rfl
          have b5 : (risingP xs == 0) = true := by rw [hri]; rfl
          have HG2 := Aside0.mk (show getP l = (xs, 0) by rw [HG9.out, if_neg (by rw [hen]; decide), if_neg (by rw [hri]; decide)])
          clear hri hen
          go_wp2_with (first
              | (go_at_call 55; (with_reducible refine (end_calls E.out.scn).mono ?_); rintro e w4 ⟨rfl, hb⟩; have n0_ := Aside0.mk (E.out.below hb); have n1_ := Aside0.mk (Kd.R_below HV.out hb); have n2_ := Aside0.mk (Kd.C_below HCR.out hb); clear E HV HCR; have E := n0_; have HV := n1_; have HCR := n2_; clear n0_ n1_ n2_; clear hb)
              | (go_at_call 45; (with_reducible refine (rising_calls HCR.out HSZ.out).mono ?_); rintro e w5 ⟨rfl, hb⟩; have n0_ := Aside0.mk (E.out.below hb); have n1_ := Aside0.mk (Kd.R_below HV.out hb); have n2_ := Aside0.mk (Kd.C_below HCR.out hb); clear E HV HCR; have E := n0_; have HV := n1_; have HCR := n2_; clear n0_ n1_ n2_; clear hb)
            )
          go_ret2
          exact GetOut.yes HG2.out (Kd.R_lower HV.out (Nat.le_succ_of_le E.out.lo)) E.out.bl
        · have b4 : (risingP xs != 0) = true := bne_iff_ne.mpr hri
          have b5 : (risingP xs == 0) = false := beq_eq_false_iff_ne.mpr hri
          have HG2 := Aside0.mk (show getP l = ([], 5) by rw [HG9.out, if_neg (by rw [hen]; decide), if_pos hri])
          clear hri hen
          go_wp2_with (first
              | (go_at_call 55; (with_reducible refine (end_calls E.out.scn).mono ?_); rintro e w4 ⟨rfl, hb⟩; have n0_ := Aside0.mk (E.out.below hb); have n1_ := Aside0.mk (Kd.R_below HV.out hb); have n2_ := Aside0.mk (Kd.C_below HCR.out hb); clear E HV HCR; have E := n0_; have HV := n1_; have HCR := n2_; clear n0_ n1_ n2_; clear hb)
              | (go_at_call 45; (with_reducible refine (rising_calls HCR.out HSZ.out).mono ?_); rintro e w5 ⟨rfl, hb⟩; have n0_ := Aside0.mk (E.out.below hb); have n1_ := Aside0.mk (Kd.R_below HV.out hb); have n2_ := Aside0.mk (Kd.C_below HCR.out hb); clear E HV HCR; have E := n0_; have HV := n1_; have HCR := n2_; clear n0_ n1_ n2_; clear hb)
            )
          go_ret2
          exact GetOut.no HG2.out E.out.bl
      · have b2 : (endP lr 0 != 0) = true := bne_iff_ne.mpr hen
        have b3 : (endP lr 0 == 0) = false := beq_eq_false_iff_ne.mpr hen
        have HG2 := Aside0.mk (show getP l = ([], endP lr 0) by rw [HG9.out, if_pos hen])
        clear hen
        go_wp2_with (first
              | (go_at_call 55; (with_reducible refine (end_calls E.out.scn).mono ?_); rintro e w4 ⟨rfl, hb⟩; have n0_ := Aside0.mk (E.out.below hb); have n1_ := Aside0.mk (Kd.R_below HV.out hb); have n2_ := Aside0.mk (Kd.C_below HCR.out hb); clear E HV HCR; have E := n0_; have HV := n1_; have HCR := n2_; clear n0_ n1_ n2_; clear hb)
              | (go_at_call 45; (with_reducible refine (rising_calls HCR.out HSZ.out).mono ?_); rintro e w5 ⟨rfl, hb⟩; have n0_ := Aside0.mk (E.out.below hb); have n1_ := Aside0.mk (Kd.R_below HV.out hb); have n2_ := Aside0.mk (Kd.C_below HCR.out hb); clear E HV HCR; have E := n0_; have HV := n1_; have HCR := n2_; clear n0_ n1_ n2_; clear hb)
          )
        go_ret2
        exact GetOut.no HG2.out E.out.bl
theorem nget_calls {w : World} {V : Value} {l : List Int} (h : Rd w V l) (hby : Bytes l) (hm : l.length < 140737488355000) : Calls Tryd.prog 32 #[V] w (GetOut w l) := by
  obtain ⟨c, k, ec, hn⟩ : ∃ c k ec, numP l 0 0 32 = (c, k, ec) := ⟨_, _, _, rfl⟩
  by_cases hec : ec = 0
  · subst hec
    obtain ⟨m, rfl⟩ : ∃ m : Nat, c = m := ⟨c.toNat, by have := (num_bd (l := l) (er := 0) (a := 0) (b := 32) (by rw [hn])).1; rw [hn] at this; dsimp only at this; omega⟩
    exact nget_ok h hby hm hn rfl
  · exact nget_few h hby hm hn rfl hec
end Go.Proofs.YthpgbhpnlnpfnaaDoor.Law
