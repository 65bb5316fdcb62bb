/- Words for the walk of the document's Get. -/
import Derived.Test.YthpgbhpnlnpfnaaDoorQF
import Derived.Test.YthpgbhpnlnpfnaaDoorQA

namespace Go.Proofs.YthpgbhpnlnpfnaaDoor.Law
open Go.RowKit Go.Proofs.YthpgbhpnlnpfnaaDoor Go.Proofs.YthpgbhpnlnpfnaaDoorW.PrintWords Go.Proofs.YthpgbhpnlnpfnaaDoorW.PrintLast Go.Proofs.YthpgbhpnlnpfnaaDoorW.PrintMore Go.Proofs.YthpgbhpnlnpfnaaDoor.E
set_option linter.unusedSimpArgs false
set_option linter.unusedVariables false
/-- a row from lo on, all of whose blocks are elder than n -/
def Old {α : Type} (d : Kd α) (e lo n : Nat) (wr : World) (V : Value) (xs : List α) : Prop := d.R e wr lo (fun j => j < n) V xs
theorem Old.new {α : Type} {d : Kd α} {e lo : Nat} {wr wa : World} {V : Value} {xs : List α} (h : d.R e wr lo (fun _ => True) V xs) (hb : Below wr.heap.size wr wa) : Old d e lo wr.heap.size wa V xs :=
  Kd.R_below (Kd.R_mono (Kd.R_bound h) (fun k hk => hk.2.2.1)) hb
theorem Old.below {α : Type} {d : Kd α} {e lo n : Nat} {wr wa : World} {V : Value} {xs : List α} (h : Old d e lo n wr V xs) (hb : Below wr.heap.size wr wa) : Old d e lo n wa V xs := Kd.R_below h hb
theorem Old.only {α : Type} {d : Kd α} {e lo n k : Nat} {wr wa : World} {V : Value} {xs : List α} (h : Old d e lo n wr V xs) (ho : Only k wr wa) (hk : k < lo ∨ n ≤ k) : Old d e lo n wa V xs :=
  Kd.R_mono (Kd.R_step (Kd.R_bound h) (fun j hj _ => ho.block j (by have := hj.1; have := hj.2.1; omega))) (fun _ hj => hj.1)
theorem Old.all {α : Type} {d : Kd α} {e lo n : Nat} {wr : World} {V : Value} {xs : List α} (h : Old d e lo n wr V xs) : d.R e wr lo (fun _ => True) V xs := Kd.R_mono h (fun _ _ => trivial)
/-- a round's state: the Scan at g5, the row of entries, the new entry at n -/
structure RG (w wr : World) (g5 n : Nat) (V : Value) (xs : List En) (l : List Int) (e : Int) (S : Option Addr) (cs : Nat) (x : En) (A : Option Addr) (c : Nat) : Prop where
  sv : Sv 90 w w wr g5 l e S cs
  hv : Old kEn 75 (g5 + 1) n wr V xs
  k8 : wr.heap[n]? = some (.cells (enV x A c).toArray 75 (0, 0))
  lo : g5 + 1 ≤ n
  tl : x.tree.length = 32
section
variable {w wr w' : World} {g5 n : Nat} {V : Value} {xs : List En} {l : List Int} {e : Int} {S : Option Addr} {cs : Nat} {x : En} {A : Option Addr} {c : Nat}
theorem RG.below (h : RG w wr g5 n V xs l e S cs x A c) (hb : Below wr.heap.size wr w') : RG w w' g5 n V xs l e S cs x A c := ⟨h.sv.below hb, h.hv.below hb, blk_below h.k8 hb, h.lo, h.tl⟩
theorem RG.high (h : RG w wr g5 n V xs l e S cs x A c) {k : Nat} (ho : Only k wr w') (hk : n < k) : RG w w' g5 n V xs l e S cs x A c :=
  ⟨h.sv.bel (ho.below (by have := h.lo; omega)), h.hv.only ho (Or.inr (by omega)), (ho.block _ (by omega)).trans h.k8, h.lo, h.tl⟩
theorem RG.scan (h : RG w wr g5 n V xs l e S cs x A c) {l' : List Int} {e' : Int} {S' : Option Addr} {cs' : Nat} (hs : Scn w (.agg (scV S' l'.length cs' e').toArray) l' e') :
    RG w ((wr.setCell ⟨g5, 0, none⟩ (.slice S' l'.length cs')).setCell ⟨g5, 1, none⟩ (.int .i64 e')) g5 n V xs l' e' S' cs' x A c := by
  have ho := ((Only.refl g5 wr).set 0 (.slice S' l'.length cs')).set 1 (.int .i64 e')
  exact ⟨h.sv.put hs, h.hv.only ho (Or.inl (Nat.lt_succ_self _)), (ho.block _ (by have := h.lo; omega)).trans h.k8, h.lo, h.tl⟩
theorem RG.en (h : RG w wr g5 n V xs l e S cs x A c) {x' : En} {A' : Option Addr} {c' : Nat} (ho : Only n wr w') (hk : w'.heap[n]? = some (.cells (enV x' A' c').toArray 75 (0, 0))) (ht : x'.tree.length = 32) : RG w w' g5 n V xs l e S cs x' A' c' :=
  ⟨h.sv.bel (ho.below h.lo), h.hv.only ho (Or.inr (Nat.le_refl _)), hk, h.lo, ht⟩
theorem RG.bel (h : RG w wr g5 n V xs l e S cs x A c) (hb : Below (n + 1) wr w') {row : Option Nat} (hg : wr.grownBy w' row) (hr : ∀ k, row = some k → n + 1 ≤ k) : RG w w' g5 n V xs l e S cs x A c :=
  ⟨h.sv.bel (Below.mono hb (by have := h.lo; omega)), Kd.R_grown h.hv hg (fun k hk he => by have := hr k he.symm; omega), (hb.block _ (by omega)).trans h.k8, h.lo, h.tl⟩
theorem RG.scn (h : RG w wr g5 n V xs l e S cs x A c) : Scn w (.agg (scV S l.length cs e).toArray) l e := h.sv.sc
theorem RG.vb (h : RG w wr g5 n V xs l e S cs x A c) : ∀ j, V.ownBlock = some j → j < n := h.hv.1
theorem RG.lt (h : RG w wr g5 n V xs l e S cs x A c) : n + 1 ≤ wr.heap.size := blk_lt h.k8
theorem RG.cell (h : RG w wr g5 n V xs l e S cs x A c) {j : Nat} {v : Value} (hv : (enV x A c)[j]? = some v) : wr.cell? ⟨n, j, none⟩ = some v := by
  rw [blk_cell h.k8 j, List.getElem?_toArray, hv]
/-- the entry's own rows, told from g5 + 1 on -/
theorem RG.m (h : RG w wr g5 n V xs l e S cs x A c) (hp : kPc.R 78 wr (n + 1) (fun _ => True) (.slice A x.ps.length c) x.ps) : kEn.M wr (g5 + 1) (fun k => n + 1 ≤ k) x (enV x A c) :=
  kEn_M h.tl (Kd.R_mono (Kd.R_bound (Kd.R_lower (base' := g5 + 1) (Kd.R_mono (Kd.R_bound hp) (fun k hk => hk.2.1)) (by have := h.lo; omega))) (fun k hk => hk.1))
theorem RG.new_ok (h : RG w wr g5 n V xs l e S cs x A c) : ∀ k, n + 1 ≤ k → True ∧ some k ≠ V.ownBlock := fun k hk => ⟨trivial, fun e => by have := h.vb k e.symm; omega⟩
end
/-- how far the list has been told, with the Scan's error -/
structure OJ (m : Nat) (ec : Int) (L l1 : List Int) (i : Nat) (xs : List En) (lr : List Int) (er : Int) : Prop where
  len : xs.length = i
  ok : er = 0 → EJ m l1 i xs lr ∧ ∀ x ∈ xs, Fit x
  ez : er = 0 → ec = 0
  no : er ≠ 0 → getP L = ([], er)
theorem OJ.start {m k : Nat} {L l1 : List Int} {ec : Int} (hn : numP L 0 0 32 = ((m : Int), k, ec)) : OJ m ec L l1 0 [] l1 ec :=
  ⟨rfl, fun _ => ⟨EJ.zero m l1, fun x hx => by cases hx⟩, fun h => h, fun h => getP_few hn h⟩
theorem OJ.next {m i k : Nat} {L l1 lr lq : List Int} {xs : List En} {x : En} {ec e : Int} (h : OJ m ec L l1 i xs lr 0) (hi : i < m) (hn : numP L 0 0 32 = ((m : Int), k, ec)) (hl : L.drop k = l1)
    (h0 : e = 0 → enG lr = (x, lq, 0)) (h1 : e ≠ 0 → (enG lr).2.2 = e) : OJ m ec L l1 (i + 1) (xs ++ [x]) lq e := by
  have hec : ec = 0 := h.ez rfl
  subst hec
  refine ⟨by rw [List.length_append, h.len]; rfl, fun he => ?_, fun _ => rfl, fun he => ?_⟩
  · exact ⟨(h.ok rfl).1.step hi (h0 he), fit_snoc (h.ok rfl).2 (en_fit (h0 he))⟩
  · have hp : enG lr = ((enG lr).1, (enG lr).2.1, e) := by rw [← h1 he]
    exact getP_stop hn (by rw [hl, Int.toNat_natCast]; exact (h.ok rfl).1.stop hi hp he) he
/-- how far an entry's pieces have been told; lr0: where the entry begins; e3: the error of their number -/
structure IJ (lr0 : List Int) (m2 : Nat) (l4 : List Int) (e3 : Int) (k : Nat) (ps : List Pc) (lr : List Int) (er : Int) : Prop where
  len : ps.length = k
  ok : er = 0 → e3 = 0 ∧ PJ m2 l4 k ps lr
  no : er ≠ 0 → (enG lr0).2.2 = er
/-- what is known of a file's entry -/
structure FI (lr0 : List Int) (nm : ByteArray) (m2 : Nat) (l4 : List Int) (e3 : Int) : Prop where
  ok : e3 = 0 → enG lr0 = (⟨nm, false, zeros32, (pcsG m2 l4).1⟩, (pcsG m2 l4).2)
  no : e3 ≠ 0 → (enG lr0).2.2 = e3 ∧ m2 = 0
  le : m2 ≤ 256
theorem IJ.start {lr0 l4 : List Int} {m2 : Nat} {nm : ByteArray} {e3 : Int} (h : FI lr0 nm m2 l4 e3) : IJ lr0 m2 l4 e3 0 [] l4 e3 := ⟨rfl, fun he => ⟨he, PJ.zero m2 l4⟩, fun he => (h.no he).1⟩
theorem IJ.next {lr0 l4 lr lq : List Int} {m2 k : Nat} {nm : ByteArray} {e3 e : Int} {ps : List Pc} {p : Pc} (hf : FI lr0 nm m2 l4 e3) (h : IJ lr0 m2 l4 e3 k ps lr 0) (hk : k < m2) (hp : pcG lr = (p, lq, e)) : IJ lr0 m2 l4 e3 (k + 1) (ps ++ [p]) lq e := by
  obtain ⟨h3, hj⟩ := h.ok rfl
  refine ⟨by rw [List.length_append, h.len]; rfl, fun he => ⟨h3, hj.step hk (by rw [hp, he])⟩, fun he => ?_⟩
  rw [hf.ok h3, hj.stop hk hp he]
theorem IJ.done {lr0 l4 lr : List Int} {m2 k : Nat} {nm : ByteArray} {e3 er : Int} {ps : List Pc} (hf : FI lr0 nm m2 l4 e3) (h : IJ lr0 m2 l4 e3 k ps lr er) (hk : er = 0 → k = m2) : (er = 0 → enG lr0 = (⟨nm, false, zeros32, ps⟩, lr, 0)) ∧ (er ≠ 0 → (enG lr0).2.2 = er) := by
  refine ⟨fun he => ?_, h.no⟩
  obtain ⟨h3, hj⟩ := h.ok he
  obtain rfl := hk he
  rw [hf.ok h3, hj.done]
theorem en_dir {l l1 l2 l3 t f : List Int} {kt kn fk : Nat} {et en ef : Int} (ht : textP l 0 32 = (t, kt, et)) (hl1 : l.drop kt = l1) (hn : numP l1 et 0 1 = (1, kn, en)) (hl2 : l1.drop kn = l2) (hf : fixP l2 en 32 = (f, fk, ef)) (hl3 : l2.drop fk = l3) :
    enG l = (⟨strOfNums t, true, ids f, []⟩, l3, ef) := by
  unfold enG
  simp only [ht, hl1, hn, hl2, hf, hl3, if_true]
theorem en_file {l l1 l2 l3 t : List Int} {kt kn ck m : Nat} {kd et en ec : Int} (ht : textP l 0 32 = (t, kt, et)) (hl1 : l.drop kt = l1) (hn : numP l1 et 0 1 = (kd, kn, en)) (hl2 : l1.drop kn = l2) (hkd : kd ≠ 1) (hc : numP l2 en 0 256 = ((m : Int), ck, ec)) (hl3 : l2.drop ck = l3) :
    FI l (strOfNums t) m l3 ec := by
  refine ⟨fun he => ?_, fun he => ⟨?_, ?_⟩, ?_⟩
  · unfold enG
    simp only [ht, hl1, hn, hl2, hkd, hc, hl3, he, if_false, ne_eq, not_true_eq_false, Int.toNat_natCast]
  · unfold enG
    simp only [ht, hl1, hn, hl2, hkd, hc, hl3, he, if_false, if_true, ne_eq, not_false_eq_true]
  · have := num_err (l := l2) (er := en) (a := 0) (b := 256) (by rw [hc]; exact he)
    rw [hc] at this
    dsimp only at this
    omega
  · by_cases he : ec = 0
    · have := (num_bd (l := l2) (er := en) (a := 0) (b := 256) (by rw [hc]; exact he)).2
      rw [hc] at this
      dsimp only at this
      omega
    · have := num_err (l := l2) (er := en) (a := 0) (b := 256) (by rw [hc]; exact he)
      rw [hc] at this
      dsimp only at this
      omega
theorem num_nat (l : List Int) (er a b : Int) (ha : 0 ≤ a) : ∃ m : Nat, (numP l er a b).1 = m := by
  by_cases h : (numP l er a b).2.2 = 0
  · exact ⟨(numP l er a b).1.toNat, by have := (num_bd h).1; omega⟩
  · exact ⟨0, num_err h⟩
theorem R_above {α : Type} {d : Kd α} {e lo n : Nat} {wr : World} {V : Value} {xs : List α} (h : Old d e lo n wr V xs) : ∀ k, V.ownBlock = some k → lo ≤ k := fun k hk => by
  obtain ⟨_, ho⟩ := Kd.R_own h
  exact own_base ho k hk
theorem info90z : (Tryd.prog.info? 90).map (·.zero) = some (some (.agg (scV none 0 0 0).toArray)) := by kernel_rfl
end Go.Proofs.YthpgbhpnlnpfnaaDoor.Law

namespace Go.Proofs.YthpgbhpnlnpfnaaDoor.Law
open Go.RowKit Go.Proofs.YthpgbhpnlnpfnaaDoor Go.Proofs.YthpgbhpnlnpfnaaDoorW.PrintWords Go.Proofs.YthpgbhpnlnpfnaaDoorW.PrintLast Go.Proofs.YthpgbhpnlnpfnaaDoorW.PrintMore Go.Proofs.YthpgbhpnlnpfnaaDoor.E
set_option linter.unusedSimpArgs false
set_option linter.unusedVariables false
set_option maxHeartbeats 16000000 in
set_option maxRecDepth 100000 in
theorem rget_calls {w : World} {V : Value} {L : List Int} (h : Rd w V L) (hby : Bytes L) (hm : L.length < 140737488355000) : Calls Tryd.prog 33 #[V] w (GetOut w L) := by
  have HS0 := Aside0.mk (Scn.of_rd h hby 0)
  obtain ⟨c, k, ec, hn⟩ : ∃ c k ec, numP L 0 0 32 = (c, k, ec) := ⟨_, _, _, rfl⟩
  obtain ⟨m, hm0⟩ := num_nat L 0 0 32 (by decide)
  rw [hn] at hm0
  dsimp only at hm0
  subst hm0
  have HN := Aside0.mk hn
  obtain ⟨l1, hl1⟩ : ∃ l1, L.drop k = l1 := ⟨_, rfl⟩
  have HL1 := Aside0.mk hl1
  have HM1 := Aside0.mk (show l1.length < 140737488355000 by rw [← hl1, List.length_drop]; omega)
  have HMC := Aside0.mk (show m ≤ 32 by
    by_cases he : ec = 0
    · have := (num_bd (l := L) (er := 0) (a := 0) (b := 32) (by rw [hn]; exact he)).2; rw [hn] at this; dsimp only at this; omega
    · have := num_err (l := L) (er := 0) (a := 0) (b := 32) (by rw [hn]; exact he); rw [hn] at this; dsimp only at this; omega)
  obtain ⟨A0, cc0, rfl, _, _⟩ := h
  clear hby hm hn hl1
  go_enter Tryd.func33, Tryd.ntmps33
  go_wp2_with (first
    | (go_at_call 56; (with_reducible refine (rnum_calls HS0.out (Below.refl w.heap.size w) 0 32).mono ?_); rw [HN.out]; dsimp only; rw [HL1.out]; rintro e w2 ⟨v2, rfl, hs, hb⟩; obtain ⟨S2, cs2, rfl⟩ := hs.open; have HSC := Aside0.mk hs; have HB2 := Aside0.mk hb; clear hs hb)
    | ((with_reducible refine gate_dst (N := 5) rfl ?_); refine wpList_alloc_zero rfl 90 rfl _ info90z ?_; have E := Aside0.mk (Sv.new (t := 90) (Below.refl w.heap.size w) HB2.out); (try dsimp only [Value.cells]); generalize w2.alloc (.cells (scV none 0 0 0).toArray 90) = w3 at *; generalize w2.heap.size = g5 at *; have f0 : w3.frozen? ⟨g5, 0, none⟩ = false := blk_frozen E.out.k1 0; have f1 : w3.frozen? ⟨g5, 1, none⟩ = false := blk_frozen E.out.k1 1; have c0 := (blk_cell E.out.k1 0).trans rfl; have c1 := (blk_cell E.out.k1 1).trans rfl)
    )
  have n0_ := Aside0.mk (E.out.put HSC.out)
  clear E f0 f1 c0 c1 HSC HB2 HS0
  have E := n0_
  clear n0_
  generalize (w3.setCell ⟨g5, 0, none⟩ (.slice S2 l1.length cs2)).setCell ⟨g5, 1, none⟩ (.int .i64 ec) = wq at *
  have HV := Aside0.mk (Kd.R_nil kEn 75 wq (g5 + 1) (fun _ => True))
  have HJ := Aside0.mk (OJ.start (l1 := l1) HN.out)
  go_loopw [6, 7] (fun v6 v7 wr => ∃ (i : Nat) (xs : List En) (lr : List Int) (er : Int) (S : Option Addr) (cs : Nat), v7 = .int .i64 i ∧ i ≤ m ∧ Aside0 (Sv 90 w w wr g5 lr er S cs) ∧ Aside0 (kEn.R 75 wr (g5 + 1) (fun _ => True) v6 xs) ∧ Aside0 (OJ m ec L l1 i xs lr er) ∧ Aside0 (lr.length < 140737488355000)) (fun _ v7 _ => m - (intOf v7).toNat)
  case atStart => exact ⟨0, [], l1, ec, S2, cs2, rfl, Nat.zero_le _, E, HV, HJ, HM1⟩
  case round =>
    obtain ⟨i, xs, lr, er, S4, cs4, rfl, hi, En_, HVn, HJn, HMn⟩ := hrel
    clear E HV HJ HM1
    have E := En_
    have HV := HVn
    have HJ := HJn
    have HM1 := HMn
    clear En_ HVn HJn HMn
    obtain ⟨wo, rfl⟩ : ∃ x : World, x = wr := ⟨_, rfl⟩
    obtain ⟨V8, rfl⟩ : ∃ V, V = u6 := ⟨_, rfl⟩
    have f0 : wo.frozen? ⟨g5, 0, none⟩ = false := blk_frozen E.out.k1 0
    have f1 : wo.frozen? ⟨g5, 1, none⟩ = false := blk_frozen E.out.k1 1
    have c0 := (blk_cell E.out.k1 0).trans rfl
    have c1 := (blk_cell E.out.k1 1).trans rfl
    by_cases hlt : i < m
    · have hltb : decide ((i : Int) < (m : Int)) = true := decide_eq_true (by omega)
      have hltn : decide (i < m) = true := decide_eq_true hlt
      have hltp : (i < m) = True := eq_true hlt
      by_cases her : er = 0
      · have hwi : wrap64 ((i : Int) + 1) = (i : Int) + 1 := n64 (by omega) (by have := HMC.out; omega)
        have HLT := Aside0.mk hlt
        subst her
        clear hlt hi
        obtain ⟨t, kt, et, ht⟩ : ∃ t kt et, textP lr 0 32 = (t, kt, et) := ⟨_, _, _, rfl⟩
        have HT := Aside0.mk ht
        obtain ⟨l2, hl2⟩ : ∃ l2, lr.drop kt = l2 := ⟨_, rfl⟩
        have HL2 := Aside0.mk hl2
        obtain ⟨kd, kn, en, hn⟩ : ∃ kd kn en, numP l2 et 0 1 = (kd, kn, en) := ⟨_, _, _, rfl⟩
        have HN2 := Aside0.mk hn
        obtain ⟨l3, hl3⟩ : ∃ l3, l2.drop kn = l3 := ⟨_, rfl⟩
        have HL3 := Aside0.mk hl3
        have HM3 := Aside0.mk (show l3.length < 140737488355000 by have := HM1.out; rw [← hl3, ← hl2, List.length_drop, List.length_drop]; omega)
        clear ht hl2 hn hl3
        by_cases hkd : kd = 1
        · have hkb : (kd == 1) = true := beq_iff_eq.mpr hkd
          obtain ⟨f, fk, e5, hf⟩ : ∃ f fk ef, fixP l3 en 32 = (f, fk, ef) := ⟨_, _, _, rfl⟩
          have HF := Aside0.mk hf
          obtain ⟨l5, hl5⟩ : ∃ l5, l3.drop fk = l5 := ⟨_, rfl⟩
          have HL5 := Aside0.mk hl5
          have HM5 := Aside0.mk (show l5.length < 140737488355000 by have := HM3.out; rw [← hl5, List.length_drop]; omega)
          have HEG := Aside0.mk (en_dir HT.out HL2.out (hkd ▸ HN2.out) HL3.out hf hl5)
          clear hf hl5 hkd
          go_wp2_with (first
            | ((with_reducible refine gate_dst (N := 8) rfl ?_); refine new_en rfl rfl rfl (.tmp 8) (.tmp 32) rfl rfl zEn none 0 rfl rfl ?_; intro wa hka hba hsa; have B := Aside0.mk (RG.mk (E.out.below hba) (Old.new HV.out hba) hka E.out.lt rfl); clear E HV hka hba hsa f0 f1 c0 c1; have hg1 := Nat.ne_of_gt (Nat.lt_of_succ_le B.out.lo); have hg2 := hg1.symm; generalize wo.heap.size = n0 at *; have f0 : wa.frozen? ⟨g5, 0, none⟩ = false := blk_frozen B.out.sv.k1 0; have f1 : wa.frozen? ⟨g5, 1, none⟩ = false := blk_frozen B.out.sv.k1 1; have c0 := (blk_cell B.out.sv.k1 0).trans rfl; have c1 := (blk_cell B.out.sv.k1 1).trans rfl)
            | (go_at_call 57; (with_reducible refine (rtext_calls B.out.scn B.out.sv.b0 32).mono ?_); rw [HT.out]; dsimp only; rw [HL2.out]; rintro e w4 ⟨V1, v4, rfl, hv, hs, hb⟩; obtain ⟨S5, cs5, rfl⟩ := hs.open; have HSC := Aside0.mk hs; have HVT := Aside0.mk hv; have n0_ := Aside0.mk (B.out.below hb); clear B; have B := n0_; clear n0_; clear hs hv hb f0 f1 c0 c1)
            | ((with_reducible refine gate_dst (N := 10) rfl ?_); refine wpList_alloc_zero rfl 90 rfl _ info90z ?_; have K10 := Aside0.mk (heap_alloc_new w4 (.cells (scV none 0 0 0).toArray 90)); have HG10 := Aside0.mk B.out.lt; have n0_ := Aside0.mk (B.out.below (below_alloc (Below.refl _ _) (.cells (scV none 0 0 0).toArray 90))); clear B; have B := n0_; clear n0_; have hg3 := Nat.ne_of_gt (Nat.lt_of_succ_le HG10.out); have hg4 := hg3.symm; have hg5 := Nat.ne_of_gt (Nat.lt_trans (Nat.lt_of_succ_le B.out.lo) (Nat.lt_of_succ_le HG10.out)); have hg6 := hg5.symm; (try dsimp only [Value.cells]); generalize w4.alloc (.cells (scV none 0 0 0).toArray 90) = wb at *; generalize w4.heap.size = g10 at *; have fa0 := blk_frozen K10.out 0; have fa1 := blk_frozen K10.out 1; have ca0 := (blk_cell K10.out 0).trans rfl; have ca1 := (blk_cell K10.out 1).trans rfl)
            | (go_at_call 56; have HO1 := ((Only.refl g10 wb).set 0 (.slice S5 l2.length cs5)).set 1 (.int .i64 et); have n0_ := Aside0.mk (B.out.high HO1 (Nat.lt_of_succ_le HG10.out)); have n1_ := Aside0.mk (blk_put (blk_put K10.out 0 (.slice S5 l2.length cs5) rfl) 1 (.int .i64 et) rfl); clear B K10; have B := n0_; have K10 := n1_; clear n0_ n1_; clear HO1 fa0 fa1 ca0 ca1; (with_reducible refine (rnum_calls HSC.out B.out.sv.b0 0 1).mono ?_); rw [HN2.out]; dsimp only; rw [HL3.out]; rintro e w5 ⟨v5, rfl, hs, hb⟩; clear HSC; obtain ⟨S6, cs6, rfl⟩ := hs.open; have HSC := Aside0.mk hs; have n0_ := Aside0.mk (B.out.below hb); have n1_ := Aside0.mk (blk_below K10.out hb); clear B K10; have B := n0_; have K10 := n1_; clear n0_ n1_; clear hs hb; have fb0 := blk_frozen K10.out 0; have fb1 := blk_frozen K10.out 1; have cb0 := (blk_cell K10.out 0).trans rfl; have cb1 := (blk_cell K10.out 1).trans rfl)
            | ((with_reducible refine gate_dst (N := 44) rfl ?_); have HO1 := ((Only.refl g10 w5).set 0 (.slice S6 l3.length cs6)).set 1 (.int .i64 en); have n0_ := Aside0.mk (B.out.high HO1 (Nat.lt_of_succ_le HG10.out)); have n1_ := Aside0.mk (blk_put (blk_put K10.out 0 (.slice S6 l3.length cs6) rfl) 1 (.int .i64 en) rfl); clear B K10; have B := n0_; have K10 := n1_; clear n0_ n1_; clear HO1 fb0 fb1 cb0 cb1; generalize (w5.setCell ⟨g10, 0, none⟩ (.slice S6 l3.length cs6)).setCell ⟨g10, 1, none⟩ (.int .i64 en) = w6 at *; refine wpList_str rfl (.tmp 43) rfl V1 t rfl (HVT.out.below B.out.sv.b0) ?_; have g0 : w6.frozen? ⟨n0, 0, none⟩ = false := blk_frozen B.out.k8 0; have g1 : w6.frozen? ⟨n0, 1, none⟩ = false := blk_frozen B.out.k8 1; have d0 : w6.cell? ⟨n0, 0, none⟩ = some (.string ByteArray.empty) := (blk_cell B.out.k8 0).trans rfl; have d1 : w6.cell? ⟨n0, 1, none⟩ = some (.bool false) := (blk_cell B.out.k8 1).trans rfl; have cb0 : w6.cell? ⟨g10, 0, none⟩ = some (.slice S6 l3.length cs6) := (blk_cell K10.out 0).trans rfl; have cb1 : w6.cell? ⟨g10, 1, none⟩ = some (.int .i64 en) := (blk_cell K10.out 1).trans rfl; have f0 : w6.frozen? ⟨g5, 0, none⟩ = false := blk_frozen B.out.sv.k1 0; have f1 : w6.frozen? ⟨g5, 1, none⟩ = false := blk_frozen B.out.sv.k1 1; have c0 := (blk_cell B.out.sv.k1 0).trans rfl; have c1 := (blk_cell B.out.sv.k1 1).trans rfl)
            | (go_at_call 58; have HO1 := ((Only.refl n0 w6).set 0 (.string (strOfNums t))).set 1 (.bool true); have n0_ := Aside0.mk (B.out.en (x' := ⟨strOfNums t, true, zeros32, []⟩) (A' := none) (c' := 0) HO1 (blk_put (blk_put B.out.k8 0 (.string (strOfNums t)) rfl) 1 (.bool true) rfl) rfl); clear B; have B := n0_; clear n0_; clear HO1; have n0_ := Aside0.mk (B.out.scan HSC.out); clear B; have B := n0_; clear n0_; clear g0 g1 d0 d1 cb0 cb1 f0 f1 c0 c1 K10; (with_reducible refine (rid_calls B.out.scn B.out.sv.b0).mono ?_); rw [HF.out]; dsimp only; rw [HL5.out]; rintro e w7 ⟨v7, rfl, hs, hb⟩; clear HSC; obtain ⟨S7, cs7, rfl⟩ := hs.open; have HSC := Aside0.mk hs; have n0_ := Aside0.mk (B.out.below hb); clear B; have B := n0_; clear n0_; clear hs hb)
            | ((with_reducible refine gate_store (t := 72) (p := 57) (v := .tmp 55) rfl ?_); refine wpList_store_blk rfl 72 (.tmp 57) (.tmp 55) rfl n0 2 rfl (.agg (u8s (ids f)).toArray) (u8s (ids f)) rfl rfl (by rw [u8s_len, ids_len]; exact info23) (u8s_one _) _ 75 B.out.k8 (by rw [u8s_len, ids_len, enV_len _ _ _ B.out.tl]; decide) ?_; rw [enV_put_tree _ none 0 (ids f) rfl (ids_len f)]; intro w8 hk ho; have n0_ := Aside0.mk (B.out.en ho hk (ids_len f)); clear B; have B := n0_; clear n0_; clear ho hk; have f0 : w8.frozen? ⟨g5, 0, none⟩ = false := blk_frozen B.out.sv.k1 0; have f1 : w8.frozen? ⟨g5, 1, none⟩ = false := blk_frozen B.out.sv.k1 1; have c0 := (blk_cell B.out.sv.k1 0).trans rfl; have c1 := (blk_cell B.out.sv.k1 1).trans rfl)
            | ((with_reducible refine gate_dst (N := 93) rfl ?_); have n0_ := Aside0.mk (B.out.scan HSC.out); clear B; have B := n0_; clear n0_; clear HSC f0 f1 c0 c1; generalize (w8.setCell ⟨g5, 0, none⟩ (.slice S7 l5.length cs7)).setCell ⟨g5, 1, none⟩ (.int .i64 e5) = w9 at *; have HQ := Aside0.mk (Kd.R_nil kPc 78 w9 (n0 + 1) (fun _ => True)); refine wpList_load_part rfl 75 (.tmp 8) rfl n0 0 rfl (enV ⟨strOfNums t, true, ids f, []⟩ none 0) _ (fun j v hv => by rw [Nat.zero_add]; exact B.out.cell hv) Tryd.underlying75 rfl (by rw [enV_len _ _ _ (ids_len f)]; exact info26) ?_)
            | ((with_reducible refine gate_dst (N := 94) rfl ?_); refine one_row rfl 47 75 35 _ Tryd.underlying47 info75b (by decide) (by decide) rfl (.tmp 93) rfl (enV ⟨strOfNums t, true, ids f, []⟩ none 0) (enV_len _ _ _ B.out.tl) rfl ?_)
            | ((with_reducible refine gate_builtin (b := .append) (xs := #[.tmp 92, .tmp 94]) rfl ?_); at_builtin; refine Kd.R_append kEn (w0 := w9) (g5 + 1) rfl (.tmp 92) (.tmp 94) 47 75 _ 80 rfl Tryd.underlying47 info75a rfl (by decide) (by decide) V8 xs ⟨strOfNums t, true, ids f, []⟩ (enV ⟨strOfNums t, true, ids f, []⟩ none 0) (fun _ => True) (fun k => n0 + 1 ≤ k) rfl rfl (B.out.m HQ.out) B.out.new_ok (fun _ _ => trivial) B.out.hv.all (Below.refl _ _) B.out.sv.lt (by have := HJ.out.len; have := HLT.out; have := HMC.out; omega) ?_; intro V9 wf ho hb9 hg hat; obtain ⟨xs9, hp9⟩ : ∃ q, xs ++ [⟨strOfNums t, true, ids f, []⟩] = q := ⟨_, rfl⟩; rw [hp9] at ho; have HXS := Aside0.mk hp9; have E := Aside0.mk (B.out.sv.bel hb9); have HV := Aside0.mk ho; clear B HQ ho hb9 hg hat hp9)
            )
          have HJ2 : Aside0 (OJ m ec L l1 (i + 1) (xs ++ [⟨strOfNums t, true, ids f, []⟩]) l5 e5) := Aside0.mk (HJ.out.next HLT.out HN.out HL1.out (fun h0 => by rw [HEG.out, h0]) (fun _ => by rw [HEG.out]))
          rw [HXS.out] at HJ2
          clear HJ
          (try simp only [hwi])
          go_roundw
          case rel => exact ⟨i + 1, xs9, l5, e5, S7, cs7, by go_num, by have := HLT.out; omega, E, HV, HJ2, HM5⟩
          case measure => simp [intOf]; have := HLT.out; omega
        · have hkb : (kd == 1) = false := beq_false_of_ne hkd
          obtain ⟨c2, k3, e3, hc⟩ : ∃ c2 k3 e3, numP l3 en 0 256 = (c2, k3, e3) := ⟨_, _, _, rfl⟩
          obtain ⟨m2, hm2⟩ := num_nat l3 en 0 256 (by decide)
          rw [hc] at hm2
          dsimp only at hm2
          subst hm2
          have HC := Aside0.mk hc
          obtain ⟨l4, hl4⟩ : ∃ l4, l3.drop k3 = l4 := ⟨_, rfl⟩
          have HL4 := Aside0.mk hl4
          have HM4 := Aside0.mk (show l4.length < 140737488355000 by have := HM3.out; rw [← hl4, List.length_drop]; omega)
          have HFI := Aside0.mk (en_file HT.out HL2.out HN2.out HL3.out hkd hc hl4)
          clear hc hl4 hkd
          go_wp2_with (first
            | ((with_reducible refine gate_dst (N := 8) rfl ?_); refine new_en rfl rfl rfl (.tmp 8) (.tmp 32) rfl rfl zEn none 0 rfl rfl ?_; intro wa hka hba hsa; have B := Aside0.mk (RG.mk (E.out.below hba) (Old.new HV.out hba) hka E.out.lt rfl); clear E HV hka hba hsa f0 f1 c0 c1; have hg1 := Nat.ne_of_gt (Nat.lt_of_succ_le B.out.lo); have hg2 := hg1.symm; generalize wo.heap.size = n0 at *; have f0 : wa.frozen? ⟨g5, 0, none⟩ = false := blk_frozen B.out.sv.k1 0; have f1 : wa.frozen? ⟨g5, 1, none⟩ = false := blk_frozen B.out.sv.k1 1; have c0 := (blk_cell B.out.sv.k1 0).trans rfl; have c1 := (blk_cell B.out.sv.k1 1).trans rfl)
            | (go_at_call 57; (with_reducible refine (rtext_calls B.out.scn B.out.sv.b0 32).mono ?_); rw [HT.out]; dsimp only; rw [HL2.out]; rintro e w4 ⟨V1, v4, rfl, hv, hs, hb⟩; obtain ⟨S5, cs5, rfl⟩ := hs.open; have HSC := Aside0.mk hs; have HVT := Aside0.mk hv; have n0_ := Aside0.mk (B.out.below hb); clear B; have B := n0_; clear n0_; clear hs hv hb f0 f1 c0 c1)
            | ((with_reducible refine gate_dst (N := 10) rfl ?_); refine wpList_alloc_zero rfl 90 rfl _ info90z ?_; have K10 := Aside0.mk (heap_alloc_new w4 (.cells (scV none 0 0 0).toArray 90)); have HG10 := Aside0.mk B.out.lt; have n0_ := Aside0.mk (B.out.below (below_alloc (Below.refl _ _) (.cells (scV none 0 0 0).toArray 90))); clear B; have B := n0_; clear n0_; have hg3 := Nat.ne_of_gt (Nat.lt_of_succ_le HG10.out); have hg4 := hg3.symm; have hg5 := Nat.ne_of_gt (Nat.lt_trans (Nat.lt_of_succ_le B.out.lo) (Nat.lt_of_succ_le HG10.out)); have hg6 := hg5.symm; (try dsimp only [Value.cells]); generalize w4.alloc (.cells (scV none 0 0 0).toArray 90) = wb at *; generalize w4.heap.size = g10 at *; have fa0 := blk_frozen K10.out 0; have fa1 := blk_frozen K10.out 1; have ca0 := (blk_cell K10.out 0).trans rfl; have ca1 := (blk_cell K10.out 1).trans rfl)
            | (go_at_call 56; have HO1 := ((Only.refl g10 wb).set 0 (.slice S5 l2.length cs5)).set 1 (.int .i64 et); have n0_ := Aside0.mk (B.out.high HO1 (Nat.lt_of_succ_le HG10.out)); have n1_ := Aside0.mk (blk_put (blk_put K10.out 0 (.slice S5 l2.length cs5) rfl) 1 (.int .i64 et) rfl); clear B K10; have B := n0_; have K10 := n1_; clear n0_ n1_; clear HO1 fa0 fa1 ca0 ca1; (with_reducible refine (rnum_calls HSC.out B.out.sv.b0 0 1).mono ?_); rw [HN2.out]; dsimp only; rw [HL3.out]; rintro e w5 ⟨v5, rfl, hs, hb⟩; clear HSC; obtain ⟨S6, cs6, rfl⟩ := hs.open; have HSC := Aside0.mk hs; have n0_ := Aside0.mk (B.out.below hb); have n1_ := Aside0.mk (blk_below K10.out hb); clear B K10; have B := n0_; have K10 := n1_; clear n0_ n1_; clear hs hb; have fb0 := blk_frozen K10.out 0; have fb1 := blk_frozen K10.out 1; have cb0 := (blk_cell K10.out 0).trans rfl; have cb1 := (blk_cell K10.out 1).trans rfl)
            | ((with_reducible refine gate_dst (N := 44) rfl ?_); have HO1 := ((Only.refl g10 w5).set 0 (.slice S6 l3.length cs6)).set 1 (.int .i64 en); have n0_ := Aside0.mk (B.out.high HO1 (Nat.lt_of_succ_le HG10.out)); have n1_ := Aside0.mk (blk_put (blk_put K10.out 0 (.slice S6 l3.length cs6) rfl) 1 (.int .i64 en) rfl); clear B K10; have B := n0_; have K10 := n1_; clear n0_ n1_; clear HO1 fb0 fb1 cb0 cb1; generalize (w5.setCell ⟨g10, 0, none⟩ (.slice S6 l3.length cs6)).setCell ⟨g10, 1, none⟩ (.int .i64 en) = w6 at *; refine wpList_str rfl (.tmp 43) rfl V1 t rfl (HVT.out.below B.out.sv.b0) ?_; have g0 : w6.frozen? ⟨n0, 0, none⟩ = false := blk_frozen B.out.k8 0; have g1 : w6.frozen? ⟨n0, 1, none⟩ = false := blk_frozen B.out.k8 1; have d0 : w6.cell? ⟨n0, 0, none⟩ = some (.string ByteArray.empty) := (blk_cell B.out.k8 0).trans rfl; have d1 : w6.cell? ⟨n0, 1, none⟩ = some (.bool false) := (blk_cell B.out.k8 1).trans rfl; have cb0 : w6.cell? ⟨g10, 0, none⟩ = some (.slice S6 l3.length cs6) := (blk_cell K10.out 0).trans rfl; have cb1 : w6.cell? ⟨g10, 1, none⟩ = some (.int .i64 en) := (blk_cell K10.out 1).trans rfl; have f0 : w6.frozen? ⟨g5, 0, none⟩ = false := blk_frozen B.out.sv.k1 0; have f1 : w6.frozen? ⟨g5, 1, none⟩ = false := blk_frozen B.out.sv.k1 1; have c0 := (blk_cell B.out.sv.k1 0).trans rfl; have c1 := (blk_cell B.out.sv.k1 1).trans rfl)
            | (go_at_call 56; have HO1 := ((Only.refl n0 w6).set 0 (.string (strOfNums t))).set 1 (.bool false); have n0_ := Aside0.mk (B.out.en (x' := ⟨strOfNums t, false, zeros32, []⟩) (A' := none) (c' := 0) HO1 (blk_put (blk_put B.out.k8 0 (.string (strOfNums t)) rfl) 1 (.bool false) rfl) rfl); clear B; have B := n0_; clear n0_; clear HO1; have n0_ := Aside0.mk (B.out.scan HSC.out); clear B; have B := n0_; clear n0_; clear g0 g1 d0 d1 cb0 cb1 f0 f1 c0 c1 K10; (with_reducible refine (rnum_calls B.out.scn B.out.sv.b0 0 256).mono ?_); rw [HC.out]; dsimp only; rw [HL4.out]; rintro e w7 ⟨v7, rfl, hs, hb⟩; clear HSC; obtain ⟨S5, cs5, rfl⟩ := hs.open; have HSC := Aside0.mk hs; have n0_ := Aside0.mk (B.out.below hb); clear B; have B := n0_; clear n0_; clear hs hb; have f0 : w7.frozen? ⟨g5, 0, none⟩ = false := blk_frozen B.out.sv.k1 0; have f1 : w7.frozen? ⟨g5, 1, none⟩ = false := blk_frozen B.out.sv.k1 1; have c0 := (blk_cell B.out.sv.k1 0).trans rfl; have c1 := (blk_cell B.out.sv.k1 1).trans rfl)
            )
          have n0_ := Aside0.mk (B.out.scan HSC.out)
          clear B f0 f1 c0 c1 HSC
          have B := n0_
          clear n0_
          generalize (w7.setCell ⟨g5, 0, none⟩ (.slice S5 l4.length cs5)).setCell ⟨g5, 1, none⟩ (.int .i64 e3) = w8 at *
          have HQ := Aside0.mk (Kd.R_nil kPc 78 w8 (n0 + 1) (fun _ => True))
          have HI := Aside0.mk (IJ.start HFI.out)
          go_loopw [13] (fun v13 wr => ∃ (k : Nat) (ps : List Pc) (lq : List Int) (eq : Int) (S : Option Addr) (cs : Nat) (A : Option Addr) (c : Nat), v13 = .int .i64 k ∧ k ≤ m2 ∧ Aside0 (RG w wr g5 n0 V8 xs lq eq S cs ⟨strOfNums t, false, zeros32, ps⟩ A c) ∧ Aside0 (kPc.R 78 wr (n0 + 1) (fun _ => True) (.slice A ps.length c) ps) ∧ Aside0 (IJ lr m2 l4 e3 k ps lq eq) ∧ Aside0 (lq.length < 140737488355000)) (fun v13 _ => m2 - (intOf v13).toNat)
          case atStart => exact ⟨0, [], l4, e3, S5, cs5, none, 0, rfl, Nat.zero_le _, B, HQ, HI, HM4⟩
          case round =>
            obtain ⟨k, ps, lq, eq, S6, cs6, A6, c6, rfl, hk, Bn, HQn, HIn, HMn⟩ := hrel
            clear B HQ HI HM4
            have B := Bn
            have HQ := HQn
            have HI := HIn
            have HM4 := HMn
            clear Bn HQn HIn HMn
            obtain ⟨wi, rfl⟩ : ∃ x : World, x = wr := ⟨_, rfl⟩
            have f0 : wi.frozen? ⟨g5, 0, none⟩ = false := blk_frozen B.out.sv.k1 0
            have f1 : wi.frozen? ⟨g5, 1, none⟩ = false := blk_frozen B.out.sv.k1 1
            have c0 := (blk_cell B.out.sv.k1 0).trans rfl
            have c1 := (blk_cell B.out.sv.k1 1).trans rfl
            by_cases hkt : k < m2
            · have hktb : decide ((k : Int) < (m2 : Int)) = true := decide_eq_true (by omega)
              have hktn : decide (k < m2) = true := decide_eq_true hkt
              have hktp : (k < m2) = True := eq_true hkt
              by_cases heq : eq = 0
              · have hwk : wrap64 ((k : Int) + 1) = (k : Int) + 1 := n64 (by omega) (by have := HFI.out.le; omega)
                have HKT := Aside0.mk hkt
                subst heq
                clear hkt hk
                obtain ⟨f, fk, ef, hf⟩ : ∃ f fk ef, fixP lq 0 32 = (f, fk, ef) := ⟨_, _, _, rfl⟩
                have HF := Aside0.mk hf
                obtain ⟨l5, hl5⟩ : ∃ l5, lq.drop fk = l5 := ⟨_, rfl⟩
                have HL5 := Aside0.mk hl5
                obtain ⟨n, nk, e6, hn6⟩ : ∃ n nk e6, numP l5 ef 1 4096 = (n, nk, e6) := ⟨_, _, _, rfl⟩
                have HN6 := Aside0.mk hn6
                obtain ⟨l6, hl6⟩ : ∃ l6, l5.drop nk = l6 := ⟨_, rfl⟩
                have HL6 := Aside0.mk hl6
                have HPG := Aside0.mk (show pcG lq = (⟨ids f, n⟩, l6, e6) by unfold pcG; simp only [hf, hl5, hn6, hl6])
                have HM6 := Aside0.mk (show l6.length < 140737488355000 by have := HM4.out; rw [← hl6, ← hl5, List.length_drop, List.length_drop]; omega)
                clear hf hl5 hn6 hl6
                go_wp2_with (first
                  | ((with_reducible refine gate_dst (N := 14) rfl ?_); refine new_pc rfl rfl rfl (.tmp 14) (.tmp 73) rfl rfl ⟨zeros32, 0⟩ rfl rfl ?_; intro wa hka hba hsa; have K14 := Aside0.mk hka.blk; have HG14 := Aside0.mk B.out.lt; have n0_ := Aside0.mk (B.out.below hba); have n1_ := Aside0.mk (Old.new HQ.out hba); clear B HQ hka hba hsa f0 f1 c0 c1; have B := n0_; have HQ := n1_; clear n0_ n1_; have hg3 := Nat.ne_of_gt (Nat.lt_of_succ_le HG14.out); have hg4 := hg3.symm; have hg5 := Nat.ne_of_gt (Nat.lt_trans (Nat.lt_of_succ_le B.out.lo) (Nat.lt_of_succ_le HG14.out)); have hg6 := hg5.symm; generalize wi.heap.size = g14 at *; have f0 : wa.frozen? ⟨g5, 0, none⟩ = false := blk_frozen B.out.sv.k1 0; have f1 : wa.frozen? ⟨g5, 1, none⟩ = false := blk_frozen B.out.sv.k1 1; have c0 := (blk_cell B.out.sv.k1 0).trans rfl; have c1 := (blk_cell B.out.sv.k1 1).trans rfl)
                  | (go_at_call 58; (with_reducible refine (rid_calls B.out.scn B.out.sv.b0).mono ?_); rw [HF.out]; dsimp only; rw [HL5.out]; rintro e w9 ⟨v9, rfl, hs, hb⟩; obtain ⟨S8, cs8, rfl⟩ := hs.open; have HSC := Aside0.mk hs; have n0_ := Aside0.mk (B.out.below hb); have n1_ := Aside0.mk (HQ.out.below hb); have n2_ := Aside0.mk (blk_below K14.out hb); clear B HQ K14; have B := n0_; have HQ := n1_; have K14 := n2_; clear n0_ n1_ n2_; clear hs hb f0 f1 c0 c1)
                  | ((with_reducible refine gate_store (t := 72) (p := 79) (v := .tmp 77) rfl ?_); refine wpList_store_blk rfl 72 (.tmp 79) (.tmp 77) rfl g14 0 rfl (.agg (u8s (ids f)).toArray) (u8s (ids f)) rfl rfl (by rw [u8s_len, ids_len]; exact info23) (u8s_one _) _ 78 K14.out (by rw [u8s_len, ids_len]; decide) ?_; rw [pcV_put_id ⟨zeros32, 0⟩ (ids f) rfl (ids_len f)]; intro w10 hk ho; have n0_ := Aside0.mk (B.out.high ho (Nat.lt_of_succ_le HG14.out)); have n1_ := Aside0.mk (HQ.out.only ho (Or.inr (Nat.le_refl _))); clear B HQ; have B := n0_; have HQ := n1_; clear n0_ n1_; clear K14 ho; have K14 := Aside0.mk hk; clear hk; have f0 : w10.frozen? ⟨g5, 0, none⟩ = false := blk_frozen B.out.sv.k1 0; have f1 : w10.frozen? ⟨g5, 1, none⟩ = false := blk_frozen B.out.sv.k1 1; have c0 := (blk_cell B.out.sv.k1 0).trans rfl; have c1 := (blk_cell B.out.sv.k1 1).trans rfl)
                  | (go_at_call 56; have HOS := ((Only.refl g5 w10).set 0 (.slice S8 l5.length cs8)).set 1 (.int .i64 ef); have n0_ := Aside0.mk (HQ.out.only HOS (Or.inl (Nat.lt_succ_of_lt (Nat.lt_of_succ_le B.out.lo)))); have n1_ := Aside0.mk ((HOS.block g14 hg5).trans K14.out); clear HQ K14; have HQ := n0_; have K14 := n1_; clear n0_ n1_; have n0_ := Aside0.mk (B.out.scan HSC.out); clear B; have B := n0_; clear n0_; clear HOS f0 f1 c0 c1; (with_reducible refine (rnum_calls B.out.scn B.out.sv.b0 1 4096).mono ?_); rw [HN6.out]; dsimp only; rw [HL6.out]; rintro e w11 ⟨v11, rfl, hs, hb⟩; clear HSC; obtain ⟨S9, cs9, rfl⟩ := hs.open; have HSC := Aside0.mk hs; have n0_ := Aside0.mk (B.out.below hb); have n1_ := Aside0.mk (HQ.out.below hb); have n2_ := Aside0.mk (blk_below K14.out hb); clear B HQ K14; have B := n0_; have HQ := n1_; have K14 := n2_; clear n0_ n1_ n2_; clear hs hb; have f0 : w11.frozen? ⟨g5, 0, none⟩ = false := blk_frozen B.out.sv.k1 0; have f1 : w11.frozen? ⟨g5, 1, none⟩ = false := blk_frozen B.out.sv.k1 1; have c0 := (blk_cell B.out.sv.k1 0).trans rfl; have c1 := (blk_cell B.out.sv.k1 1).trans rfl; have f8 := blk_frozen K14.out 32; have c8 : w11.cell? ⟨g14, 32, none⟩ = some (.int .i64 0) := (blk_cell K14.out 32).trans (by rw [List.getElem?_toArray]; exact pcV_32 (ids_len f)); have d34 : w11.cell? ⟨n0, 34, none⟩ = some (.slice A6 ps.length c6) := B.out.cell (enV_34 _ _ _ B.out.tl))
                  | ((with_reducible refine gate_dst (N := 88) rfl ?_); have HO8 := (Only.refl g14 w11).set 32 (.int .i64 n); have n0_ := Aside0.mk (B.out.high HO8 (Nat.lt_of_succ_le HG14.out)); have n1_ := Aside0.mk (HQ.out.only HO8 (Or.inr (Nat.le_refl _))); have n2_ := Aside0.mk (blk_put K14.out 32 (.int .i64 n) (pcV_set (ids f) n (ids_len f))); clear B HQ K14; have B := n0_; have HQ := n1_; have K14 := n2_; clear n0_ n1_ n2_; clear HO8 f8 c8; have HOS := ((Only.refl g5 (w11.setCell ⟨g14, 32, none⟩ (.int .i64 n))).set 0 (.slice S9 l6.length cs9)).set 1 (.int .i64 e6); have n0_ := Aside0.mk (HQ.out.only HOS (Or.inl (Nat.lt_succ_of_lt (Nat.lt_of_succ_le B.out.lo)))); have n1_ := Aside0.mk ((HOS.block g14 hg5).trans K14.out); clear HQ K14; have HQ := n0_; have K14 := n1_; clear n0_ n1_; have n0_ := Aside0.mk (B.out.scan HSC.out); clear B; have B := n0_; clear n0_; clear HOS HSC f0 f1 c0 c1 d34; generalize ((w11.setCell ⟨g14, 32, none⟩ (.int .i64 n)).setCell ⟨g5, 0, none⟩ (.slice S9 l6.length cs9)).setCell ⟨g5, 1, none⟩ (.int .i64 e6) = w13 at *; refine wpList_load_part rfl 78 (.tmp 14) rfl g14 0 rfl (pcV ⟨ids f, n⟩) _ (fun j v hv => by rw [Nat.zero_add, blk_cell K14.out, List.getElem?_toArray, hv]) Tryd.underlying78 rfl (by rw [pcV_len (p := ⟨ids f, n⟩) (ids_len f)]; exact info62) ?_)
                  | ((with_reducible refine gate_dst (N := 89) rfl ?_); refine one_row rfl 73 78 33 _ Tryd.underlying73 info78b (by decide) (by decide) rfl (.tmp 88) rfl (pcV ⟨ids f, n⟩) (pcV_len (p := ⟨ids f, n⟩) (ids_len f)) rfl ?_)
                  | ((with_reducible refine gate_builtin (b := .append) (xs := #[.tmp 87, .tmp 89]) rfl ?_); at_builtin; refine Kd.R_append kPc (w0 := w13) (n0 + 1) rfl (.tmp 87) (.tmp 89) 73 78 _ 40 rfl Tryd.underlying73 info78a rfl (by decide) (by decide) (.slice A6 ps.length c6) ps ⟨ids f, n⟩ (pcV ⟨ids f, n⟩) (fun _ => True) (fun _ => False) rfl rfl (kPc_M (ids_len f)) (fun _ h => h.elim) (fun _ _ => trivial) HQ.out.all (Below.refl _ _) B.out.lt (by have := HI.out.len; have := HKT.out; have := HFI.out.le; omega) ?_; intro V9 w14 ho hb9 hg hat; obtain ⟨ps9, hp9⟩ : ∃ q, ps ++ [(⟨ids f, n⟩ : Pc)] = q := ⟨_, rfl⟩; rw [hp9] at ho; have HP9 := Aside0.mk hp9; have n0_ := Aside0.mk (B.out.bel hb9 hg (R_above HQ.out)); have n1_ := Aside0.mk ho; clear B HQ K14 ho hb9 hg hat hp9; have B := n0_; have HQ := n1_; clear n0_ n1_; obtain ⟨A9, c9, rfl⟩ := Kd.R_slice HQ.out; have g34 : w14.frozen? ⟨n0, 34, none⟩ = false := blk_frozen B.out.k8 34; have d34 : w14.cell? ⟨n0, 34, none⟩ = some (.slice A6 ps.length c6) := B.out.cell (enV_34 _ _ _ B.out.tl))
                  )
                have HO9 := (Only.refl n0 w14).set 34 (.slice A9 ps9.length c9)
                have BNEW := Aside0.mk (B.out.en (x' := ⟨strOfNums t, false, zeros32, ps9⟩) (A' := A9) (c' := c9) HO9 (blk_put B.out.k8 34 (.slice A9 ps9.length c9) (enV_set _ _ _ _ _ _ rfl)) rfl)
                have HQN := Aside0.mk (R_only HQ.out HO9 (Nat.lt_succ_self _))
                have HI2 := Aside0.mk (HI.out.next HFI.out HKT.out HPG.out)
                rw [HP9.out] at HI2
                clear B HQ HO9 HI g34 d34
                (try simp only [hwk])
                go_roundw
                case rel => exact ⟨k + 1, ps9, l6, e6, S9, cs9, A9, c9, by go_num, by have := HKT.out; omega, BNEW, HQN, HI2, HM6⟩
                case measure => simp [intOf]; have := HKT.out; omega
              · have heb : (eq == 0) = false := beq_eq_false_iff_ne.mpr heq
                have HDN := Aside0.mk (HI.out.done HFI.out (fun h => absurd h heq))
                clear hkt hk heq
                go_wp2_with (first
                  | ((with_reducible refine gate_dst (N := 93) rfl ?_); refine wpList_load_part rfl 75 (.tmp 8) rfl n0 0 rfl (enV ⟨strOfNums t, false, zeros32, ps⟩ A6 c6) _ (fun j v hv => by rw [Nat.zero_add]; exact B.out.cell hv) Tryd.underlying75 rfl (by rw [enV_len _ _ _ B.out.tl]; exact info26) ?_)
                  | ((with_reducible refine gate_dst (N := 94) rfl ?_); refine one_row rfl 47 75 35 _ Tryd.underlying47 info75b (by decide) (by decide) rfl (.tmp 93) rfl (enV ⟨strOfNums t, false, zeros32, ps⟩ A6 c6) (enV_len _ _ _ B.out.tl) rfl ?_)
                  | ((with_reducible refine gate_builtin (b := .append) (xs := #[.tmp 92, .tmp 94]) rfl ?_); at_builtin; refine Kd.R_append kEn (w0 := wi) (g5 + 1) rfl (.tmp 92) (.tmp 94) 47 75 _ 80 rfl Tryd.underlying47 info75a rfl (by decide) (by decide) V8 xs ⟨strOfNums t, false, zeros32, ps⟩ (enV ⟨strOfNums t, false, zeros32, ps⟩ A6 c6) (fun _ => True) (fun k => n0 + 1 ≤ k) rfl rfl (B.out.m HQ.out) B.out.new_ok (fun _ _ => trivial) B.out.hv.all (Below.refl _ _) B.out.sv.lt (by have := HJ.out.len; have := HLT.out; have := HMC.out; omega) ?_; intro V9 wf ho hb9 hg hat; obtain ⟨xs9, hp9⟩ : ∃ q, xs ++ [⟨strOfNums t, false, zeros32, ps⟩] = q := ⟨_, rfl⟩; rw [hp9] at ho; have HXS := Aside0.mk hp9; have E := Aside0.mk (B.out.sv.bel hb9); have HV := Aside0.mk ho; clear B HQ ho hb9 hg hat hp9)
                )
                have HJ2 := Aside0.mk (HJ.out.next HLT.out HN.out HL1.out HDN.out.1 HDN.out.2)
                rw [HXS.out] at HJ2
                clear HJ
                (try simp only [hwi])
                go_roundw
                case rel => exact ⟨i + 1, xs9, lq, eq, S6, cs6, by go_num, by have := HLT.out; omega, E, HV, HJ2, HM4⟩
                case measure => simp [intOf]; have := HLT.out; omega
            · obtain rfl : k = m2 := by omega
              have hktb : decide ((k : Int) < (k : Int)) = false := decide_eq_false (by omega)
              have HDN := Aside0.mk (HI.out.done HFI.out (fun _ => rfl))
              clear hkt hk
              go_wp2_with (first
                | ((with_reducible refine gate_dst (N := 93) rfl ?_); refine wpList_load_part rfl 75 (.tmp 8) rfl n0 0 rfl (enV ⟨strOfNums t, false, zeros32, ps⟩ A6 c6) _ (fun j v hv => by rw [Nat.zero_add]; exact B.out.cell hv) Tryd.underlying75 rfl (by rw [enV_len _ _ _ B.out.tl]; exact info26) ?_)
                | ((with_reducible refine gate_dst (N := 94) rfl ?_); refine one_row rfl 47 75 35 _ Tryd.underlying47 info75b (by decide) (by decide) rfl (.tmp 93) rfl (enV ⟨strOfNums t, false, zeros32, ps⟩ A6 c6) (enV_len _ _ _ B.out.tl) rfl ?_)
                | ((with_reducible refine gate_builtin (b := .append) (xs := #[.tmp 92, .tmp 94]) rfl ?_); at_builtin; refine Kd.R_append kEn (w0 := wi) (g5 + 1) rfl (.tmp 92) (.tmp 94) 47 75 _ 80 rfl Tryd.underlying47 info75a rfl (by decide) (by decide) V8 xs ⟨strOfNums t, false, zeros32, ps⟩ (enV ⟨strOfNums t, false, zeros32, ps⟩ A6 c6) (fun _ => True) (fun k => n0 + 1 ≤ k) rfl rfl (B.out.m HQ.out) B.out.new_ok (fun _ _ => trivial) B.out.hv.all (Below.refl _ _) B.out.sv.lt (by have := HJ.out.len; have := HLT.out; have := HMC.out; omega) ?_; intro V9 wf ho hb9 hg hat; obtain ⟨xs9, hp9⟩ : ∃ q, xs ++ [⟨strOfNums t, false, zeros32, ps⟩] = q := ⟨_, rfl⟩; rw [hp9] at ho; have HXS := Aside0.mk hp9; have E := Aside0.mk (B.out.sv.bel hb9); have HV := Aside0.mk ho; clear B HQ ho hb9 hg hat hp9)
              )
              have HJ2 := Aside0.mk (HJ.out.next HLT.out HN.out HL1.out HDN.out.1 HDN.out.2)
              rw [HXS.out] at HJ2
              clear HJ
              (try simp only [hwi])
              go_roundw
              case rel => exact ⟨i + 1, xs9, lq, eq, S6, cs6, by go_num, by have := HLT.out; omega, E, HV, HJ2, HM4⟩
              case measure => simp [intOf]; have := HLT.out; omega
      · have heb : (er == 0) = false := beq_eq_false_iff_ne.mpr her
        have hnb : (endP lr er != 0) = true := by rw [endP_ne lr her]; exact bne_iff_ne.mpr her
        have hnb2 : (endP lr er == 0) = false := by rw [endP_ne lr her]; exact heb
        have HG := Aside0.mk (show getP L = ([], endP lr er) by rw [endP_ne lr her]; exact HJ.out.no her)
        clear hlt hi her
        go_wp2_with (first
          | (go_at_call 59; (with_reducible refine (rend_calls E.out.scn).mono ?_); rintro e w4 ⟨rfl, hb⟩; have n0_ := Aside0.mk (E.out.below hb); clear E; have E := n0_; clear n0_; clear hb c0 c1 f0 f1; have c0 := (blk_cell E.out.k1 0).trans rfl; have c1 := (blk_cell E.out.k1 1).trans rfl)
          | (go_at_call 59; (with_reducible refine (rend_calls E.out.scn).mono ?_); rintro e w5 ⟨rfl, hb⟩; have n0_ := Aside0.mk (E.out.below hb); clear E; have E := n0_; clear n0_; clear hb)
          )
        go_ret2
        exact GetOut.no HG.out E.out.bl
    · obtain rfl : i = m := by omega
      have hltb : decide ((i : Int) < (i : Int)) = false := decide_eq_false (by omega)
      clear hlt hi
      by_cases hee : endP lr er = 0
      · obtain rfl : er = 0 := by
          by_cases h : er = 0
          · exact h
          · rw [endP_ne lr h] at hee; exact hee
        have hnb : (endP lr 0 != 0) = false := by rw [hee]; rfl
        have hnb2 : (endP lr 0 == 0) = true := by rw [hee]; rfl
        have HG := Aside0.mk (show getP L = if risingP xs ≠ 0 then ([], 5) else (xs, 0) by
          by_cases hec : ec = 0
          · have e := getP_end (by have h := HN.out; rw [hec] at h; exact h) (by rw [HL1.out, Int.toNat_natCast]; exact (HJ.out.ok rfl).1.done)
            rw [e, if_neg (by rw [hee]; decide)]
          · exact absurd (HJ.out.ez rfl) hec)
        have HSZ := Aside0.mk (fit_szd (HJ.out.ok rfl).2 (by rw [HJ.out.len]; exact HMC.out))
        have HX32 := Aside0.mk (show xs.length ≤ 32 by rw [HJ.out.len]; exact HMC.out)
        obtain ⟨A8, c8, rfl, hcc, hC⟩ := Kd.R_reads HV.out
        have HCR := Aside0.mk hC
        clear hcc hC hee HJ
        go_wp2_with (first
          | (go_at_call 59; (with_reducible refine (rend_calls E.out.scn).mono ?_); rintro e w4 ⟨rfl, hb⟩; have n0_ := Aside0.mk (E.out.below hb); have n1_ := Aside0.mk (Kd.R_below HV.out hb); have n2_ := Aside0.mk (Kd.C_below HCR.out hb); clear E HV HCR; have E := n0_; have HV := n1_; have HCR := n2_; clear n0_ n1_ n2_; clear hb c0 c1 f0 f1)
          )
        have HMD := Aside0.mk (show ∀ x ∈ xs.take 0, mayB x = true from fun x hx => by cases hx)
        go_loopw [15] (fun v15 wr => ∃ j : Nat, v15 = .int .i64 j ∧ j ≤ xs.length ∧ Aside0 (∀ x ∈ xs.take j, mayB x = true) ∧ Aside0 (Sv 90 w w wr g5 lr 0 S4 cs4) ∧ Aside0 (kEn.R 75 wr (g5 + 1) (fun _ => True) (.slice A8 xs.length c8) xs) ∧ Aside0 (Kd.C kEn wr A8 xs.length xs)) (fun v15 _ => xs.length - (intOf v15).toNat)
        case atStart => exact ⟨0, rfl, Nat.zero_le _, HMD, E, HV, HCR⟩
        case round =>
          obtain ⟨j, rfl, hj, HPn, En_, HVn, HCn⟩ := hrel
          clear HMD E HV HCR
          have HMD := HPn
          have E := En_
          have HV := HVn
          have HCR := HCn
          clear HPn En_ HVn HCn
          by_cases hlt : j < xs.length
          · have hltb : decide ((j : Int) < (xs.length : Int)) = true := decide_eq_true (by omega)
            have p1 : (0 ≤ (j : Int)) = True := eq_true (by omega)
            have p2 : ((j : Int) < (xs.length : Int)) = True := eq_true (by omega)
            have hwi : wrap64 ((j : Int) + 1) = (j : Int) + 1 := n64 (by omega) (by have := HX32.out; omega)
            obtain ⟨ad, A', c', rfl, hxt, hxl, hxp, hxc, _⟩ := at_En HCR.out hlt
            have HXT := Aside0.mk hxt
            have HXC := Aside0.mk hxc
            have HK := Aside0.mk (kEn_mk (w := wr) hxt hxl hxp)
            have HIN := Aside0.mk (rdEn_mem hlt)
            have HSX := Aside0.mk (HSZ.out.2 _ (rdEn_mem hlt))
            have HTK := Aside0.mk (take_rdEn hlt)
            clear hxt hxl hxp hxc
            generalize rdEn xs j = x at *
            cases hmx : mayB x with
            | false =>
              have HM := Aside0.mk hmx
              have HG2 := Aside0.mk (show getP L = ([], 5) by rw [HG.out, if_pos (by rw [rising_no HIN.out hmx]; decide)])
              clear hmx
              go_wp2_with (first
                | ((with_reducible refine gate_dst (N := 110) rfl ?_); refine load_enAt rfl (.tmp 109) rfl (ad.add (j * 35)) rfl x A' c' HXT.out HXC.out ?_)
                | (go_at_call 48; with_reducible refine (may_calls HK.out HSX.out.1 HSX.out.2).mono ?_; rw [HM.out]; rintro e w5 ⟨rfl, hb⟩; have n0_ := Aside0.mk (E.out.below hb); have n1_ := Aside0.mk (Kd.R_below HV.out hb); have n2_ := Aside0.mk (Kd.C_below HCR.out hb); clear E HV HCR; have E := n0_; have HV := n1_; have HCR := n2_; clear n0_ n1_ n2_; clear hb)
                )
              go_ret2
              exact GetOut.no HG2.out E.out.bl
            | true =>
              have HM := Aside0.mk hmx
              have HP2 := Aside0.mk (show ∀ y ∈ xs.take (j + 1), mayB y = true from fun y hy => by
                rw [HTK.out] at hy
                rcases List.mem_append.mp hy with h | h
                · exact HMD.out y h
                · rw [List.mem_singleton.mp h]; exact HM.out)
              clear hmx
              go_wp2_with (first
                | ((with_reducible refine gate_dst (N := 110) rfl ?_); refine load_enAt rfl (.tmp 109) rfl (ad.add (j * 35)) rfl x A' c' HXT.out HXC.out ?_)
                | (go_at_call 48; with_reducible refine (may_calls HK.out HSX.out.1 HSX.out.2).mono ?_; rw [HM.out]; rintro e w5 ⟨rfl, hb⟩; have n0_ := Aside0.mk (E.out.below hb); have n1_ := Aside0.mk (Kd.R_below HV.out hb); have n2_ := Aside0.mk (Kd.C_below HCR.out hb); clear E HV HCR; have E := n0_; have HV := n1_; have HCR := n2_; clear n0_ n1_ n2_; clear hb)
                )
              (try simp only [hwi])
              go_roundw
              case rel => exact ⟨j + 1, by go_num, by omega, HP2, E, HV, HCR⟩
              case measure => simp [intOf]; omega
          · obtain rfl : j = xs.length := by omega
            have hltb : decide ((xs.length : Int) < (xs.length : Int)) = false := decide_eq_false (by omega)
            have HMA := Aside0.mk (show ∀ y ∈ xs, mayB y = true by have := HMD.out; rwa [List.take_length] at this)
            clear HMD hlt hj
            cases hrd : decide (RiseP xs) with
            | false =>
              have HRD := Aside0.mk hrd
              have HG2 := Aside0.mk (show getP L = ([], 5) by
                have hn : ¬ RiseP xs := of_decide_eq_false hrd
                rw [HG.out, if_pos (by unfold risingP; rw [if_pos HMA.out, if_neg hn]; decide)])
              clear hrd
              go_wp2_with (first
                | (go_at_call 49; with_reducible refine (rise_calls HCR.out HSZ.out).mono ?_; rw [HRD.out]; rintro e w6 ⟨rfl, hb⟩; have n0_ := Aside0.mk (E.out.below hb); have n1_ := Aside0.mk (Kd.R_below HV.out hb); have n2_ := Aside0.mk (Kd.C_below HCR.out hb); clear E HV HCR; have E := n0_; have HV := n1_; have HCR := n2_; clear n0_ n1_ n2_; clear hb)
                )
              go_ret2
              exact GetOut.no HG2.out E.out.bl
            | true =>
              have HRD := Aside0.mk hrd
              have HG2 := Aside0.mk (show getP L = (xs, 0) by
                rw [HG.out, if_neg (by rw [rising_ok HMA.out (of_decide_eq_true hrd)]; decide)])
              clear hrd
              go_wp2_with (first
                | (go_at_call 49; with_reducible refine (rise_calls HCR.out HSZ.out).mono ?_; rw [HRD.out]; rintro e w6 ⟨rfl, hb⟩; have n0_ := Aside0.mk (E.out.below hb); have n1_ := Aside0.mk (Kd.R_below HV.out hb); have n2_ := Aside0.mk (Kd.C_below HCR.out hb); clear E HV HCR; have E := n0_; have HV := n1_; have HCR := n2_; clear n0_ n1_ n2_; clear hb)
                )
              go_ret2
              exact GetOut.yes HG2.out (Kd.R_lower HV.out (Nat.le_succ_of_le E.out.lo)) E.out.bl
      · have hnb : (endP lr er != 0) = true := bne_iff_ne.mpr hee
        have hnb2 : (endP lr er == 0) = false := beq_eq_false_iff_ne.mpr hee
        have HG := Aside0.mk (show getP L = ([], endP lr er) by
          by_cases her : er = 0
          · subst her
            by_cases hec : ec = 0
            · have e := getP_end (by have h := HN.out; rw [hec] at h; exact h) (by rw [HL1.out, Int.toNat_natCast]; exact (HJ.out.ok rfl).1.done)
              rw [e, if_pos hee]
            · exact absurd (HJ.out.ez rfl) hec
          · rw [endP_ne lr her]; exact HJ.out.no her)
        clear hee HJ
        go_wp2_with (first
          | (go_at_call 59; (with_reducible refine (rend_calls E.out.scn).mono ?_); rintro e w4 ⟨rfl, hb⟩; have n0_ := Aside0.mk (E.out.below hb); clear E; have E := n0_; clear n0_; clear hb c0 c1 f0 f1; have c0 := (blk_cell E.out.k1 0).trans rfl; have c1 := (blk_cell E.out.k1 1).trans rfl)
          | (go_at_call 59; (with_reducible refine (rend_calls E.out.scn).mono ?_); rintro e w5 ⟨rfl, hb⟩; have n0_ := Aside0.mk (E.out.below hb); clear E; have E := n0_; clear n0_; clear hb)
          )
        go_ret2
        exact GetOut.no HG.out E.out.bl
end Go.Proofs.YthpgbhpnlnpfnaaDoor.Law
