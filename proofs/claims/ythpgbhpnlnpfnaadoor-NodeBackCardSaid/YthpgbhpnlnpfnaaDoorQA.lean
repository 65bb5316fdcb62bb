/- Put: a folder's text: the program's walk. -/
import Derived.Test.YthpgbhpnlnpfnaaDoorQ8
import Derived.Test.YthpgbhpnlnpfnaaDoorQ7
import Derived.Deep.Slices
import Derived.OpenShut
import Derived.WideLaws
import Derived.SizedLaws

namespace Go.Proofs.YthpgbhpnlnpfnaaDoor.Law
open Go.RowKit Go.Proofs.YthpgbhpnlnpfnaaDoor Go.Proofs.YthpgbhpnlnpfnaaDoorW.PrintWords Go.Proofs.YthpgbhpnlnpfnaaDoorW.PrintLast Go.Proofs.YthpgbhpnlnpfnaaDoorW.PrintMore Go.Proofs.YthpgbhpnlnpfnaaDoor.E
set_option linter.unusedSimpArgs false
set_option linter.unusedVariables false
theorem bytesOf_len (s : ByteArray) : (bytesOf s).length = s.size := bytesOf_length s
theorem bytesOf_get {s : ByteArray} {j : Nat} (hj : j < s.size) : (bytesOf s).getD j 0 = ((s.data.toList.getD j 0).toNat : Int) := by
  unfold bytesOf
  simp [List.getD_eq_getElem?_getD, hj]
theorem bytesOf_bytes (s : ByteArray) : Bytes (bytesOf s) := fun x hx => by
  unfold bytesOf at hx
  obtain ⟨b, _, rfl⟩ := List.mem_map.mp hx
  have := b.toNat_lt
  constructor
  · exact Int.natCast_nonneg _
  · omega
/-- a text as bytes: a row of the call's own -/
theorem wpList_bytes {ops : Array Oper} {rest : List Oper} {o : Oper} {a : Act} {w : World} {Q : Exit → Act → World → Prop} (hgd : o.guard = none) (x : Operand) (ho : o.op = .convert 9 25 x) (s : ByteArray) (hx : a.eval x = .string s) (hs : s.size ≤ 140737488355328)
    (h : ∀ (V : Value) (w1 : World), Rd w1 V (bytesOf s) → Below w.heap.size w w1 → wpList Tryd.prog ops Q rest (a.put o.dst V) w1) : wpList Tryd.prog ops Q (o :: rest) a w := by
  refine wpList_plain hgd fun K hK => ?_
  have hr := Lib.run_convert_string_bytes (P := Tryd.prog) w 9 25 5 s Tryd.underlying9 Tryd.underlying25 Tryd.underlying5
  have hcap : s.size ≤ grownCap w s.size 0 5 := grownCap_ge w s.size 0 5
  have hbel : Below w.heap.size w (Lib.bytesWorld w 5 s) := ⟨rfl, by simp [Lib.bytesWorld, World.freeze, World.alloc, World.drew, -World.alloc_eq, -World.drew_eq], rfl, by rw [Lib.bytesWorld_size]; omega, fun k hk => Lib.bytesWorld_at_old w 5 s k hk⟩
  have hrd : Rd (Lib.bytesWorld w 5 s) (.slice (some ⟨w.heap.size, 0, none⟩) s.size (grownCap w s.size 0 5)) (bytesOf s) := by
    refine ⟨_, grownCap w s.size 0 5, by rw [bytesOf_len], Kd.C_of_reads (enc := Value.int .u8) (d := (0 : Int)) (h1 := fun _ => rfl) ⟨rfl, by rw [bytesOf_len]; omega, fun _ => ⟨_, rfl, fun j hj => ?_⟩⟩, by rw [bytesOf_len]; exact hcap⟩
    rw [bytesOf_len] at hj
    rw [addr_add, Nat.zero_add, Lib.bytesWorld_cell w 5 s j hj, bytesOf_get hj]
  unfold Oper.wp execOp
  simp only [ho, hx, Sem.run_bind, Sem.run_pure, Result.andThen_ok, hr]
  exact hK _ _ (h _ _ hrd hbel)
theorem EnAt.treeC {w : World} {g : Nat} {x : En} {A : Option Addr} {c : Nat} (h : EnAt w g x A c) : Kd.C (Kd.int .u8) w (some ⟨g, 2, none⟩) 32 x.tree :=
  Kd.C_of_reads (enc := Value.int .u8) (d := (0 : Int)) (h1 := fun _ => rfl) ⟨h.tl, by decide, fun _ => ⟨_, rfl, fun j hj => by rw [addr_add]; exact h.cell (enV_id x A c h.tl j hj)⟩⟩
theorem PcAt.idC {w : World} {g : Nat} {p : Pc} (h : PcAt w g p) : Kd.C (Kd.int .u8) w (some ⟨g, 0, none⟩) 32 p.id :=
  Kd.C_of_reads (enc := Value.int .u8) (d := (0 : Int)) (h1 := fun _ => rfl) ⟨h.il, by decide, fun _ => ⟨_, rfl, fun j hj => by rw [addr_add, Nat.zero_add]; exact h.cell (pcV_id h.il hj)⟩⟩
/-- a piece behind bytes; an entry behind bytes; a folder's text -/
def pcB (b : List Int) (p : Pc) : List Int := numB (b ++ p.id) p.n
def pcsB (b : List Int) (ps : List Pc) : List Int := ps.foldl pcB b
def entB (b : List Int) (x : En) : List Int := if x.dir then numB (textB b (bytesOf x.nm)) 1 ++ x.tree else pcsB (numB (numB (textB b (bytesOf x.nm)) 0) x.ps.length) x.ps
def putB (xs : List En) : List Int := xs.foldl entB (numB [] xs.length)
theorem pcsB_snoc (b : List Int) (l : List Pc) (p : Pc) : pcsB b (l ++ [p]) = numB (pcsB b l ++ p.id) p.n := by unfold pcsB; rw [List.foldl_append]; rfl
theorem pcsB_len {b : List Int} : ∀ (l : List Pc), (∀ p ∈ l, p.id.length = 32) → (pcsB b l).length ≤ b.length + 40 * l.length := by
  intro l
  induction l generalizing b with
  | nil => intro _; exact Nat.le_refl _
  | cons p l ih =>
    intro h
    have h1 := ih (b := pcB b p) (fun q hq => h q (List.mem_cons_of_mem _ hq))
    have h2 := h p List.mem_cons_self
    have h3 := (numB_len (b ++ p.id) p.n).2
    rw [List.length_append, h2] at h3
    show (pcsB (pcB b p) l).length ≤ _
    unfold pcB at h1 ⊢
    rw [List.length_cons]; omega
theorem entB_dir {b : List Int} {x : En} (h : x.dir = true) : entB b x = numB (textB b (bytesOf x.nm)) 1 ++ x.tree := by unfold entB; rw [h]; rfl
theorem entB_file {b : List Int} {x : En} (h : x.dir = false) : entB b x = pcsB (numB (numB (textB b (bytesOf x.nm)) 0) x.ps.length) x.ps := by unfold entB; rw [h]; rfl
theorem textB_len (l s : List Int) : (textB l s).length ≤ l.length + 8 + s.length := by
  have := (numB_len l s.length).2
  unfold textB; rw [List.length_append]; omega
theorem may_name {x : En} (h : mayB x = true) : x.nm.size ≤ 32 := by
  have hn : nameB x.nm = true := by
    unfold mayB at h
    rw [Bool.and_eq_true] at h; exact h.1
  exact (of_decide_eq_true hn : NameP x.nm).2.1
theorem may_file {x : En} (h : mayB x = true) (hd : x.dir = false) : FineP x := by
  unfold mayB at h
  rw [Bool.and_eq_true, hd] at h
  exact of_decide_eq_true h.2
theorem entB_len {b : List Int} {x : En} (h : mayB x = true) (ht : x.tree.length = 32) (hp : ∀ p ∈ x.ps, p.id.length = 32) : (entB b x).length ≤ b.length + 10400 := by
  have h1 := may_name h
  have h2 := textB_len b (bytesOf x.nm)
  rw [bytesOf_len] at h2
  cases hd : x.dir with
  | true =>
    rw [entB_dir hd, List.length_append, ht]
    have := (numB_len (textB b (bytesOf x.nm)) 1).2
    omega
  | false =>
    rw [entB_file hd]
    have h3 := (numB_len (textB b (bytesOf x.nm)) 0).2
    have h4 := (numB_len (numB (textB b (bytesOf x.nm)) 0) x.ps.length).2
    have h5 := pcsB_len (b := numB (numB (textB b (bytesOf x.nm)) 0) x.ps.length) x.ps hp
    have h6 := (may_file h hd).2.1
    omega
/-- the ids of a row of pieces have 32 bytes -/
theorem ids_C {w : World} {A : Option Addr} {ps : List Pc} (h : Kd.C kPc w A ps.length ps) : ∀ p ∈ ps, p.id.length = 32 := fun p hp => by
  obtain ⟨i, hi, rfl⟩ := List.getElem_of_mem hp
  obtain ⟨_, _, hl, _⟩ := at_Pc h hi
  unfold rdPc at hl
  rwa [List.getD_eq_getElem?_getD, List.getElem?_eq_getElem hi] at hl
/-- what Put tells -/
def putP (xs : List En) : List Int × Int := if 32 < xs.length then ([], 21) else if risingP xs ≠ 0 then ([], risingP xs) else (putB xs, 0)
theorem rising_all {xs : List En} (h : risingP xs = 0) : ∀ x ∈ xs, mayB x = true := by
  unfold risingP at h
  by_cases c : ∀ x ∈ xs, mayB x = true
  · exact c
  · rw [if_neg c] at h; exact absurd h (by decide)
theorem left_lt {i n : Nat} (h : i < n) : n - (i + 1) < n - i := by omega
theorem R_bd {e base : Nat} {w : World} {V : Value} {l : List Int} (h : Kd.R (Kd.int .u8) e w base (fun _ => True) V l) (m : List Int) (hm : m = l) : Kd.R (Kd.int .u8) e w base (fun _ => True) V m := by rw [hm]; exact h
set_option maxHeartbeats 4000000 in
set_option maxRecDepth 100000 in
theorem put_ok {A : Option Addr} {c : Nat} {xs : List En} {w : World} (h : Kd.C kEn w A xs.length xs) (hs : Szd xs) (h32 : xs.length ≤ 32) (hr : risingP xs = 0) :
    Calls Tryd.prog 30 #[.slice A xs.length c] w fun e w' => ∃ V, e = .returned (.tuple #[V, .int .i64 0]) ∧ Kd.R (Kd.int .u8) 5 w' w.heap.size (fun _ => True) V (putB xs) ∧ Below w.heap.size w w' := by
  have HL := Aside0.mk h
  have HSZ := Aside0.mk hs
  have HMA := Aside0.mk (rising_all hr)
  have HRS := Aside0.mk hr
  have HB := Aside0.mk (Below.refl w.heap.size w)
  have b1 : decide ((32 : Int) < (xs.length : Int)) = false := decide_eq_false (by omega)
  obtain ⟨b0, hb0⟩ : ∃ b0, b0 = numB [] (xs.length : Int) := ⟨_, rfl⟩
  have HB0 := Aside0.mk hb0
  have hb0l : b0.length ≤ 8 := by rw [hb0]; exact (numB_len [] (xs.length : Int)).2
  clear h hs hr hb0
  go_enter Tryd.func30, Tryd.ntmps30
  go_wp2_with (first | (go_at_call 45; with_reducible refine (rising_calls HL.out HSZ.out).mono ?_; rw [HRS.out]; rintro e w1 ⟨rfl, hb⟩; have n0_ := Aside0.mk (below_step HB.out hb); clear HB hb; have HB := n0_; clear n0_) | (go_at_call 46; (with_reducible refine (number_calls (Rd.nil _) ?hl (xs.length : Int)).mono ?_); (case hl => decide); rintro e w2 ⟨V0, rfl, hv, hb⟩; rw [← HB0.out] at hv; have HO := Aside0.mk (Kd.R_lower hv HB.out.size); clear hv; have n0_ := Aside0.mk (below_step (by repeat (first | (with_reducible first | exact HB.out | apply below_alloc | apply pw_below_drewN | apply below_drew1) | exact HB.out)) hb); clear HB hb; have HB := n0_; clear n0_))
  clear b1
  go_loopw [5, 23] (fun v5 v23 wr => ∃ (i : Nat) (cur : List Int), i ≤ xs.length ∧ cur.length ≤ 8 + i * 10400 ∧ v23 = .int .i64 i ∧ Aside0 (cur = (xs.take i).foldl entB b0) ∧ Aside0 (Kd.R (Kd.int .u8) 5 wr w.heap.size (fun _ => True) v5 cur) ∧ Aside0 (Below w.heap.size w wr)) (fun _ v23 _ => xs.length - (intOf v23).toNat)
  case atStart => exact ⟨0, b0, by omega, by omega, rfl, ⟨rfl⟩, HO, HB⟩
  case round =>
    obtain ⟨i, cur, hi, hcl, rfl, HCU, HOn, HBn⟩ := hrel
    clear HB HO
    have HB := HBn
    have HO := HOn
    clear HBn HOn
    by_cases hlt : i < xs.length
    · have hltb : decide ((i : Int) < (xs.length : Int)) = true := decide_eq_true (by omega)
      have p1 : (0 ≤ (i : Int)) = True := eq_true (by omega)
      have p2 : ((i : Int) < (xs.length : Int)) = True := eq_true (by omega)
      have hwi : wrap64 ((i : Int) + 1) = (i : Int) + 1 := n64 (by omega) (by omega)
      obtain ⟨ad, A', c', rfl, hxt, hxl, hxp, hxc, _⟩ := at_En HL.out hlt
      have HXT := Aside0.mk hxt
      have HXL := Aside0.mk hxl
      have HXP := Aside0.mk hxp
      have HXC := Aside0.mk (show ∀ j u, (enV (rdEn xs i) A' c')[j]? = some u → wr.cell? ((ad.add (i * 35)).add j) = some u from fun j u hu => (HB.out.cell (World.block_lt_of_cell? w _ (hxc j u hu))).trans (hxc j u hu))
      have hmay := HMA.out _ (rdEn_mem hlt)
      have HTK := Aside0.mk (take_rdEn hlt)
      have hen := entB_len (b := cur) hmay hxt (ids_C hxp)
      have HIDS := Aside0.mk (ids_C hxp)
      clear hxt hxl hxp hxc
      generalize rdEn xs i = x at *
      have hnm := may_name hmay
      have HNS := Aside0.mk (show x.nm.size ≤ 140737488355328 by omega)
      have HL1 := Aside0.mk (show cur.length + (bytesOf x.nm).length < 140737488355000 by rw [bytesOf_len]; omega)
      have htl := textB_len cur (bytesOf x.nm)
      rw [bytesOf_len] at htl
      obtain ⟨b1, hb1⟩ : ∃ b1, b1 = textB cur (bytesOf x.nm) := ⟨_, rfl⟩
      have HC1 := Aside0.mk hb1
      rw [← hb1] at htl
      clear hb1
      cases hd : x.dir with
      | true =>
        have HD := Aside0.mk hd
        obtain ⟨b2, hb2⟩ : ∃ b2, b2 = numB b1 1 := ⟨_, rfl⟩
        have HC2 := Aside0.mk hb2
        have hb2l : b2.length ≤ b1.length + 8 := by rw [hb2]; exact (numB_len b1 1).2
        obtain ⟨b3, hb3⟩ : ∃ b3, b3 = b2 ++ x.tree := ⟨_, rfl⟩
        have HC3 := Aside0.mk hb3
        have he : entB cur x = b3 := by rw [entB_dir hd, hb3, hb2, HC1.out]
        rw [he] at hen
        have HQ2 := Aside0.mk (show b3 = (xs.take (i + 1)).foldl entB b0 by rw [HTK.out, List.foldl_append, ← HCU.out, List.foldl_cons, List.foldl_nil, he])
        clear hd he hb2 hb3 hmay
        go_wp2_with (first | ((with_reducible refine gate_dst (N := 26) rfl ?_); refine load_enAt rfl (.tmp 25) rfl (ad.add (i * 35)) rfl x A' c' HXT.out HXC.out ?_) | ((with_reducible refine gate_dst (N := 7) rfl ?_); refine new_en rfl rfl rfl (.tmp 7) (.tmp 26) rfl rfl x A' c' HXT.out rfl ?_; intro w3 hk hb hsz; have E := Aside0.mk (EnAt.mk hk HXT.out HXL.out (Kd.C_below HXP.out (below_step HB.out hb))); have n0_ := Aside0.mk (below_step (by repeat (first | (with_reducible first | exact HB.out | apply below_alloc | apply pw_below_drewN | apply below_drew1) | exact HB.out)) hb); have n1_ := Aside0.mk (Kd.R_below (by (with_reducible repeat (first | apply Kd.R_alloc | apply Kd.R_drewN | apply Kd.R_drew)); exact HO.out) hb); clear HB HO hb; have HB := n0_; have HO := n1_; clear n0_ n1_; have z0 := E.out.cell (enV_0 x _ _); have z1 := (E.out.cell (enV_1 x _ _)).trans (congrArg (fun b => some (Value.bool b)) HD.out); have z34 := E.out.cell (enV_34 x _ _ HXT.out); clear hk hsz) | ((with_reducible refine gate_dst (N := 30) rfl ?_); refine wpList_bytes rfl (.tmp 29) rfl x.nm rfl HNS.out ?_; intro VS w4 hvs hb; have HVS := Aside0.mk hvs; have n0_ := Aside0.mk (below_step (by repeat (first | (with_reducible first | exact HB.out | apply below_alloc | apply pw_below_drewN | apply below_drew1) | exact HB.out)) hb); have n1_ := Aside0.mk (Kd.R_below (by (with_reducible repeat (first | apply Kd.R_alloc | apply Kd.R_drewN | apply Kd.R_drew)); exact HO.out) hb); have n2_ := Aside0.mk (E.out.below hb); clear HB HO E hb; have HB := n0_; have HO := n1_; have E := n2_; clear n0_ n1_ n2_; clear z0 z1 z34; have z0 := E.out.cell (enV_0 x _ _); have z1 := (E.out.cell (enV_1 x _ _)).trans (congrArg (fun b => some (Value.bool b)) HD.out); have z34 := E.out.cell (enV_34 x _ _ HXT.out); clear hvs) | (go_at_call 47; (with_reducible refine (puttext_calls (Rd.own HO.out) HVS.out ?hl).mono ?_); (case hl => exact HL1.out); rintro e w5 ⟨V1, rfl, hv, hb⟩; rw [← HC1.out] at hv; have HO1 := Aside0.mk (Kd.R_lower hv HB.out.size); clear HO hv; have HO := HO1; clear HO1; have n0_ := Aside0.mk (below_step (by repeat (first | (with_reducible first | exact HB.out | apply below_alloc | apply pw_below_drewN | apply below_drew1) | exact HB.out)) hb); have n1_ := Aside0.mk (E.out.below hb); clear HB E hb; have HB := n0_; have E := n1_; clear n0_ n1_; clear z0 z1 z34; have z0 := E.out.cell (enV_0 x _ _); have z1 := (E.out.cell (enV_1 x _ _)).trans (congrArg (fun b => some (Value.bool b)) HD.out); have z34 := E.out.cell (enV_34 x _ _ HXT.out)))
        refine start_ (n := 6) (S := fun w' => True) (ds := []) #[false, false, false, false, false, false] (by kernel_rfl) rfl rfl trivial (fun hHeld => ?_)
        refine pure_ (i := 0) (N := some 34) (v := ?_) (a' := ?_) #[true, false, false, false, false, false] rfl rfl (by kernel_rfl) (fun _ _ _ h => h) (Or.inl ⟨by rfl, ?_⟩) ?_ ?_
        rotate_left
        · intro w'
          go_simp
          with_reducible rfl
        rotate_left
        · simp only [Act.put, List.setIfInBounds_toArray, List.set_cons_zero, List.set_cons_succ, i64_w, i32_w]
          rfl
        refine pure_ (i := 2) (N := some 36) (v := ?_) (a' := ?_) #[true, false, true, false, false, false] rfl rfl (by kernel_rfl) (fun _ _ _ h => h) (Or.inl ⟨by rfl, ?_⟩) ?_ ?_
        rotate_left
        · intro w'
          go_simp
          with_reducible rfl
        rotate_left
        · simp only [Act.put, List.setIfInBounds_toArray, List.set_cons_zero, List.set_cons_succ, i64_w, i32_w]
          rfl
        refine pure_ (i := 3) (N := some 37) (v := ?_) (a' := ?_) #[true, false, true, true, false, false] rfl rfl (by kernel_rfl) (fun _ _ _ h => h) (Or.inl ⟨by rfl, ?_⟩) ?_ ?_
        rotate_left
        · intro w'
          go_simp
          with_reducible rfl
        rotate_left
        · simp only [Act.put, List.setIfInBounds_toArray, List.set_cons_zero, List.set_cons_succ, i64_w, i32_w]
          rfl
        refine one_ (i := 1) (N := some 35) #[true, true, true, true, false, false] rfl rfl (by kernel_rfl) (by decide) (fun K hK => ?_)
        refine goes_ Tryd.func46 (by kernel_rfl) rfl #[V1, .int .i64 1] (by rfl) rfl rfl (by simp only [List.map_toArray, List.map_cons, List.map_nil]; rfl) ?_
        with_reducible refine (number_calls (Rd.own (by (with_reducible repeat (first | apply Kd.R_alloc | apply Kd.R_drewN | apply Kd.R_drew)); exact HO.out)) (by omega) 1).mono ?_
        rintro e w6 ⟨V6, rfl, hv, hb⟩
        refine ⟨_, rfl, ?_⟩
        rw [← HC2.out] at hv
        have HO1 := Aside0.mk (Kd.R_lower hv (below_size (by repeat (first | (with_reducible first | exact HB.out | apply below_alloc | apply pw_below_drewN | apply below_drew1) | exact HB.out))))
        clear HO hv
        have HO := HO1
        clear HO1
        have n0_ := Aside0.mk (below_step (by repeat (first | (with_reducible first | exact HB.out | apply below_alloc | apply pw_below_drewN | apply below_drew1) | exact HB.out)) hb)
        have n1_ := Aside0.mk (E.out.below (below_step (below_drew1 (Below.refl _ _)) hb))
        clear HB E hb
        have HB := n0_
        have E := n1_
        clear n0_ n1_
        refine hK.out _ _ trivial (fun hHeld => ?_)
        clear hK K
        refine norm_ (a' := ?_) ?_ ?_
        rotate_left
        · show Act.put _ (some 35) _ = _
          simp only [Act.put, List.setIfInBounds_toArray, List.set_cons_zero, List.set_cons_succ, i64_w, i32_w]
          rfl
        refine one_ (i := 4) (N := some 38) #[true, true, true, true, true, false] rfl rfl (by kernel_rfl) (by decide) (fun K hK => ?_)
        refine Kd.R_append_rows_step (Kd.int .u8) (w0 := w) w.heap.size (by rfl) (.tmp 35) (.tmp 37) 25 5 (.int .u8 0) 1 rfl Tryd.underlying25 info5 rfl Nat.zero_lt_one Nat.zero_lt_one V6 b2 x.tree _ _ _ (fun _ => True) (fun _ => False) rfl rfl ?aO ?aR (fun _ _ h => h) (fun _ h => h.elim) ?aF ?aB ?aS ?aL ?_
        case aR => exact E.out.treeC
        case aB => exact (by repeat (first | (with_reducible first | exact HB.out | apply below_alloc | apply pw_below_drewN | apply below_drew1) | exact HB.out))
        case aF => exact (fun _ _ => trivial)
        case aO => exact (by (with_reducible repeat (first | apply Kd.R_alloc | apply Kd.R_drewN | apply Kd.R_drew)); exact HO.out)
        case aS => exact (below_size (by repeat (first | (with_reducible first | exact HB.out | apply below_alloc | apply pw_below_drewN | apply below_drew1) | exact HB.out)))
        case aL => omega
        intro V7 w7 ho hb9 hg hat
        rw [← HC3.out] at ho
        have n0_ := Aside0.mk hb9
        have n1_ := Aside0.mk ho
        clear HB HO ho hb9 hg hat
        have HB := n0_
        have HO := n1_
        clear n0_ n1_
        refine hK.out _ _ trivial (fun hHeld => ?_)
        clear hK K
        refine norm_ (a' := ?_) ?_ ?_
        rotate_left
        · show Act.put _ (some 38) _ = _
          simp only [Act.put, List.setIfInBounds_toArray, List.set_cons_zero, List.set_cons_succ, i64_w, i32_w]
          rfl
        refine pure_ (i := 5) (N := some 5) (v := ?_) (a' := ?_) #[true, true, true, true, true, true] rfl rfl (by kernel_rfl) (fun _ _ _ h => h) (Or.inl ⟨by rfl, ?_⟩) ?_ ?_
        rotate_left
        · intro w'
          go_simp
          with_reducible rfl
        rotate_left
        · simp only [Act.put, List.setIfInBounds_toArray, List.set_cons_zero, List.set_cons_succ, i64_w, i32_w]
          rfl
        refine done_ (by kernel_rfl) ?_
        go_wp2
        go_roundw
        case rel => exact ⟨i + 1, b3, hlt, by omega, by go_num, HQ2, HO, HB⟩
        case measure => simp [intOf]; exact left_lt hlt
      | false =>
        have HD := Aside0.mk hd
        have hfine := may_file hmay hd
        obtain ⟨b2, hb2⟩ : ∃ b2, b2 = numB b1 0 := ⟨_, rfl⟩
        have HC2 := Aside0.mk hb2
        have hb2l : b2.length ≤ b1.length + 8 := by rw [hb2]; exact (numB_len b1 0).2
        obtain ⟨b3, hb3⟩ : ∃ b3, b3 = numB b2 (x.ps.length : Int) := ⟨_, rfl⟩
        have HC3 := Aside0.mk hb3
        have hb3l : b3.length ≤ b2.length + 8 := by rw [hb3]; exact (numB_len b2 (x.ps.length : Int)).2
        have he : entB cur x = pcsB b3 x.ps := by rw [entB_file hd, hb3, hb2, HC1.out]
        have hpl : x.ps.length ≤ 256 := hfine.2.1
        have HQ2 := Aside0.mk (show pcsB b3 x.ps = (xs.take (i + 1)).foldl entB b0 by rw [HTK.out, List.foldl_append, ← HCU.out, List.foldl_cons, List.foldl_nil, he])
        rw [he] at hen
        have HEN := Aside0.mk hen
        clear hd he hb2 hb3 hmay hfine hen
        go_wp2_with (first | ((with_reducible refine gate_dst (N := 26) rfl ?_); refine load_enAt rfl (.tmp 25) rfl (ad.add (i * 35)) rfl x A' c' HXT.out HXC.out ?_) | ((with_reducible refine gate_dst (N := 7) rfl ?_); refine new_en rfl rfl rfl (.tmp 7) (.tmp 26) rfl rfl x A' c' HXT.out rfl ?_; intro w3 hk hb hsz; have E := Aside0.mk (EnAt.mk hk HXT.out HXL.out (Kd.C_below HXP.out (below_step HB.out hb))); have n0_ := Aside0.mk (below_step (by repeat (first | (with_reducible first | exact HB.out | apply below_alloc | apply pw_below_drewN | apply below_drew1) | exact HB.out)) hb); have n1_ := Aside0.mk (Kd.R_below (by (with_reducible repeat (first | apply Kd.R_alloc | apply Kd.R_drewN | apply Kd.R_drew)); exact HO.out) hb); clear HB HO hb; have HB := n0_; have HO := n1_; clear n0_ n1_; have z0 := E.out.cell (enV_0 x _ _); have z1 := (E.out.cell (enV_1 x _ _)).trans (congrArg (fun b => some (Value.bool b)) HD.out); have z34 := E.out.cell (enV_34 x _ _ HXT.out); clear hk hsz) | ((with_reducible refine gate_dst (N := 30) rfl ?_); refine wpList_bytes rfl (.tmp 29) rfl x.nm rfl HNS.out ?_; intro VS w4 hvs hb; have HVS := Aside0.mk hvs; have n0_ := Aside0.mk (below_step (by repeat (first | (with_reducible first | exact HB.out | apply below_alloc | apply pw_below_drewN | apply below_drew1) | exact HB.out)) hb); have n1_ := Aside0.mk (Kd.R_below (by (with_reducible repeat (first | apply Kd.R_alloc | apply Kd.R_drewN | apply Kd.R_drew)); exact HO.out) hb); have n2_ := Aside0.mk (E.out.below hb); clear HB HO E hb; have HB := n0_; have HO := n1_; have E := n2_; clear n0_ n1_ n2_; clear z0 z1 z34; have z0 := E.out.cell (enV_0 x _ _); have z1 := (E.out.cell (enV_1 x _ _)).trans (congrArg (fun b => some (Value.bool b)) HD.out); have z34 := E.out.cell (enV_34 x _ _ HXT.out); clear hvs) | (go_at_call 47; (with_reducible refine (puttext_calls (Rd.own HO.out) HVS.out ?hl).mono ?_); (case hl => exact HL1.out); rintro e w5 ⟨V1, rfl, hv, hb⟩; rw [← HC1.out] at hv; have HO1 := Aside0.mk (Kd.R_lower hv HB.out.size); clear HO hv; have HO := HO1; clear HO1; have n0_ := Aside0.mk (below_step (by repeat (first | (with_reducible first | exact HB.out | apply below_alloc | apply pw_below_drewN | apply below_drew1) | exact HB.out)) hb); have n1_ := Aside0.mk (E.out.below hb); clear HB E hb; have HB := n0_; have E := n1_; clear n0_ n1_; clear z0 z1 z34; have z0 := E.out.cell (enV_0 x _ _); have z1 := (E.out.cell (enV_1 x _ _)).trans (congrArg (fun b => some (Value.bool b)) HD.out); have z34 := E.out.cell (enV_34 x _ _ HXT.out)))
        refine start_ (n := 7) (S := fun w' => w'.cell? ⟨wr.heap.size, 34, none⟩ = some (.slice A' x.ps.length c')) (ds := []) #[false, false, false, false, false, false, false] (by kernel_rfl) rfl rfl (z34) (fun hHeld => ?_)
        refine pure_ (i := 0) (N := some 39) (v := ?_) (a' := ?_) #[true, false, false, false, false, false, false] rfl rfl (by kernel_rfl) (fun _ _ _ h => h) (Or.inl ⟨by rfl, ?_⟩) ?_ ?_
        rotate_left
        · intro w'
          go_simp
          with_reducible rfl
        rotate_left
        · simp only [Act.put, List.setIfInBounds_toArray, List.set_cons_zero, List.set_cons_succ, i64_w, i32_w]
          rfl
        refine pure_ (i := 2) (N := some 41) (v := ?_) (a' := ?_) #[true, false, true, false, false, false, false] rfl rfl (by kernel_rfl) (fun _ _ _ h => h) (Or.inl ⟨by rfl, ?_⟩) ?_ ?_
        rotate_left
        · intro w'
          go_simp
          with_reducible rfl
        rotate_left
        · simp only [Act.put, List.setIfInBounds_toArray, List.set_cons_zero, List.set_cons_succ, i64_w, i32_w]
          rfl
        refine take_ (i := 3) (N := some 42) (v := ?_) (a' := ?_) #[true, false, true, true, false, false, false] rfl rfl (by kernel_rfl) (fun _ _ _ h => h) (Or.inl ⟨by rfl, ?_⟩) hHeld ?_ ?_
        rotate_left
        · intro w' s0
          go_simp
          with_reducible rfl
        rotate_left
        · simp only [Act.put, List.setIfInBounds_toArray, List.set_cons_zero, List.set_cons_succ, i64_w, i32_w]
          rfl
        refine pure_ (i := 4) (N := some 43) (v := ?_) (a' := ?_) #[true, false, true, true, true, false, false] rfl rfl (by kernel_rfl) (fun _ _ _ h => h) (Or.inl ⟨by rfl, ?_⟩) ?_ ?_
        rotate_left
        · intro w'
          go_simp
          with_reducible rfl
        rotate_left
        · simp only [Act.put, List.setIfInBounds_toArray, List.set_cons_zero, List.set_cons_succ, i64_w, i32_w]
          rfl
        refine one_ (i := 1) (N := some 40) #[true, true, true, true, true, false, false] rfl rfl (by kernel_rfl) (by decide) (fun K hK => ?_)
        refine goes_ Tryd.func46 (by kernel_rfl) rfl #[V1, .int .i64 0] (by rfl) rfl rfl (by simp only [List.map_toArray, List.map_cons, List.map_nil]; rfl) ?_
        with_reducible refine (number_calls (Rd.own (by (with_reducible repeat (first | apply Kd.R_alloc | apply Kd.R_drewN | apply Kd.R_drew)); exact HO.out)) (by omega) 0).mono ?_
        rintro e w6 ⟨V6, rfl, hv, hb⟩
        refine ⟨_, rfl, ?_⟩
        rw [← HC2.out] at hv
        have HO1 := Aside0.mk (Kd.R_lower hv (below_size (by repeat (first | (with_reducible first | exact HB.out | apply below_alloc | apply pw_below_drewN | apply below_drew1) | exact HB.out))))
        clear HO hv
        have HO := HO1
        clear HO1
        have n0_ := Aside0.mk (below_step (by repeat (first | (with_reducible first | exact HB.out | apply below_alloc | apply pw_below_drewN | apply below_drew1) | exact HB.out)) hb)
        have n1_ := Aside0.mk (E.out.below (below_step (below_drew1 (Below.refl _ _)) hb))
        clear HB E hb
        have HB := n0_
        have E := n1_
        clear n0_ n1_
        refine hK.out _ _ (E.out.cell (enV_34 x _ _ HXT.out)) (fun hHeld => ?_)
        clear hK K
        refine norm_ (a' := ?_) ?_ ?_
        rotate_left
        · show Act.put _ (some 40) _ = _
          simp only [Act.put, List.setIfInBounds_toArray, List.set_cons_zero, List.set_cons_succ, i64_w, i32_w]
          rfl
        refine one_ (i := 5) (N := some 44) #[true, true, true, true, true, true, false] rfl rfl (by kernel_rfl) (by decide) (fun K hK => ?_)
        refine goes_ Tryd.func46 (by kernel_rfl) rfl #[V6, .int .i64 (x.ps.length : Int)] (by rfl) rfl rfl (by simp only [List.map_toArray, List.map_cons, List.map_nil]; rfl) ?_
        with_reducible refine (number_calls (Rd.own (by (with_reducible repeat (first | apply Kd.R_alloc | apply Kd.R_drewN | apply Kd.R_drew)); exact HO.out)) (by omega) (x.ps.length : Int)).mono ?_
        rintro e w7 ⟨V7, rfl, hv, hb⟩
        refine ⟨_, rfl, ?_⟩
        rw [← HC3.out] at hv
        have HO1 := Aside0.mk (Kd.R_lower hv (below_size (by repeat (first | (with_reducible first | exact HB.out | apply below_alloc | apply pw_below_drewN | apply below_drew1) | exact HB.out))))
        clear HO hv
        have HO := HO1
        clear HO1
        have n0_ := Aside0.mk (below_step (by repeat (first | (with_reducible first | exact HB.out | apply below_alloc | apply pw_below_drewN | apply below_drew1) | exact HB.out)) hb)
        have n1_ := Aside0.mk (E.out.below hb)
        clear HB E hb
        have HB := n0_
        have E := n1_
        clear n0_ n1_
        refine hK.out _ _ (E.out.cell (enV_34 x _ _ HXT.out)) (fun hHeld => ?_)
        clear hK K
        refine norm_ (a' := ?_) ?_ ?_
        rotate_left
        · show Act.put _ (some 44) _ = _
          simp only [Act.put, List.setIfInBounds_toArray, List.set_cons_zero, List.set_cons_succ, i64_w, i32_w]
          rfl
        refine pure_ (i := 6) (N := some 5) (v := ?_) (a' := ?_) #[true, true, true, true, true, true, true] rfl rfl (by kernel_rfl) (fun _ _ _ h => h) (Or.inl ⟨by rfl, ?_⟩) ?_ ?_
        rotate_left
        · intro w'
          go_simp
          with_reducible rfl
        rotate_left
        · simp only [Act.put, List.setIfInBounds_toArray, List.set_cons_zero, List.set_cons_succ, i64_w, i32_w]
          rfl
        refine done_ (by kernel_rfl) ?_
        go_wp2
        clear z0 z1 z34 E
        have HWI := Aside0.mk hwi
        clear hwi
        go_loopw [5, 48] (fun v5 v48 wk => ∃ (k : Nat) (cu : List Int), k ≤ x.ps.length ∧ cu.length ≤ b3.length + 40 * k ∧ v48 = .int .i64 k ∧ Aside0 (cu = pcsB b3 (x.ps.take k)) ∧ Aside0 (Kd.R (Kd.int .u8) 5 wk w.heap.size (fun _ => True) v5 cu) ∧ Aside0 (Below w.heap.size w wk)) (fun _ v48 _ => x.ps.length - (intOf v48).toNat)
        case atStart => exact ⟨0, b3, by omega, by omega, rfl, ⟨rfl⟩, HO, HB⟩
        case round =>
          obtain ⟨k, cu, hk, hcul, rfl, HCK, HOn, HBn⟩ := hrel
          clear HB HO
          have HB := HBn
          have HO := HOn
          clear HBn HOn
          obtain ⟨V8, rfl⟩ : ∃ V, V = u5 := ⟨_, rfl⟩
          by_cases hkt : k < x.ps.length
          · have hktb : decide ((k : Int) < (x.ps.length : Int)) = true := decide_eq_true (by omega)
            have q1 : (0 ≤ (k : Int)) = True := eq_true (by omega)
            have q2 : ((k : Int) < (x.ps.length : Int)) = True := eq_true (by omega)
            obtain ⟨ae, rfl, hil, hpc, _⟩ := at_Pc (Kd.C_below HXP.out HB.out) hkt
            have HIL := Aside0.mk hil
            have HPC := Aside0.mk hpc
            have HTP := Aside0.mk (take_rdPc hkt)
            clear hpc
            generalize rdPc x.ps k = p at *
            obtain ⟨n, hn⟩ : ∃ n, n = p.n := ⟨_, rfl⟩
            have HNN := Aside0.mk hn
            obtain ⟨b4, hb4⟩ : ∃ b4, b4 = cu ++ p.id := ⟨_, rfl⟩
            have HC4 := Aside0.mk hb4
            have hb4l : b4.length = cu.length + 32 := by rw [hb4, List.length_append, hil]
            have hb4i : b4.length ≤ cu.length + 32 := Nat.le_of_eq hb4l
            obtain ⟨b5, hb5⟩ : ∃ b5, b5 = numB b4 n := ⟨_, rfl⟩
            have HC5 := Aside0.mk hb5
            have hb5l : b5.length ≤ b4.length + 8 := by rw [hb5]; exact (numB_len b4 n).2
            have HCK2 := Aside0.mk (show b5 = pcsB b3 (x.ps.take (k + 1)) by rw [HTP.out, pcsB_snoc, ← HCK.out, hb5, hb4, hn])
            have HLA := Aside0.mk (show (cu.length + 32) * 1 ≤ 140737488355328 by omega)
            have HLN := Aside0.mk (show b4.length < 140737488355000 by omega)
            have HB5L := Aside0.mk (show b5.length ≤ b3.length + 40 * (k + 1) by omega)
            have hwk : wrap64 ((k : Int) + 1) = (k : Int) + 1 := n64 (by omega) (by omega)
            clear hn hb4 hb5 hb4l hil
            go_wp2_with (first | ((with_reducible refine gate_dst (N := 51) rfl ?_); refine load_pc rfl (.tmp 50) rfl (ae.add (k * 33)) rfl p HIL.out HPC.out ?_) | ((with_reducible refine gate_dst (N := 9) rfl ?_); refine new_pc rfl rfl rfl (.tmp 9) (.tmp 51) rfl rfl p HIL.out rfl ?_; intro w10 hq hb hsz; have HQ := Aside0.mk hq; have y32 := (HQ.out.cell (pcV_32 HQ.out.il)).trans (congrArg (fun b => some (Value.int .i64 b)) HNN.out.symm); have n0_ := Aside0.mk (below_step (by repeat (first | (with_reducible first | exact HB.out | apply below_alloc | apply pw_below_drewN | apply below_drew1) | exact HB.out)) hb); have n1_ := Aside0.mk (Kd.R_below (by (with_reducible repeat (first | apply Kd.R_alloc | apply Kd.R_drewN | apply Kd.R_drew)); exact HO.out) hb); clear HB HO hb; have HB := n0_; have HO := n1_; clear n0_ n1_; clear hq hsz))
            refine start_ (n := 8) (S := fun w' => w'.cell? ⟨wr.heap.size, 32, none⟩ = some (.int .i64 n)) (ds := []) #[false, false, false, false, false, false, false, false] (by kernel_rfl) rfl rfl (y32) (fun hHeld => ?_)
            refine pure_ (i := 0) (N := some 52) (v := ?_) (a' := ?_) #[true, false, false, false, false, false, false, false] rfl rfl (by kernel_rfl) (fun _ _ _ h => h) (Or.inl ⟨by rfl, ?_⟩) ?_ ?_
            rotate_left
            · intro w'
              go_simp
              with_reducible rfl
            rotate_left
            · simp only [Act.put, List.setIfInBounds_toArray, List.set_cons_zero, List.set_cons_succ, i64_w, i32_w]
              rfl
            refine pure_ (i := 1) (N := some 53) (v := ?_) (a' := ?_) #[true, true, false, false, false, false, false, false] rfl rfl (by kernel_rfl) (fun _ _ _ h => h) (Or.inl ⟨by rfl, ?_⟩) ?_ ?_
            rotate_left
            · intro w'
              go_simp
              with_reducible rfl
            rotate_left
            · simp only [Act.put, List.setIfInBounds_toArray, List.set_cons_zero, List.set_cons_succ, i64_w, i32_w]
              rfl
            refine pure_ (i := 2) (N := some 54) (v := ?_) (a' := ?_) #[true, true, true, false, false, false, false, false] rfl rfl (by kernel_rfl) (fun _ _ _ h => h) (Or.inl ⟨by rfl, ?_⟩) ?_ ?_
            rotate_left
            · intro w'
              go_simp
              with_reducible rfl
            rotate_left
            · simp only [Act.put, List.setIfInBounds_toArray, List.set_cons_zero, List.set_cons_succ, i64_w, i32_w]
              rfl
            refine pure_ (i := 4) (N := some 56) (v := ?_) (a' := ?_) #[true, true, true, false, true, false, false, false] rfl rfl (by kernel_rfl) (fun _ _ _ h => h) (Or.inl ⟨by rfl, ?_⟩) ?_ ?_
            rotate_left
            · intro w'
              go_simp
              with_reducible rfl
            rotate_left
            · simp only [Act.put, List.setIfInBounds_toArray, List.set_cons_zero, List.set_cons_succ, i64_w, i32_w]
              rfl
            refine take_ (i := 5) (N := some 57) (v := ?_) (a' := ?_) #[true, true, true, false, true, true, false, false] rfl rfl (by kernel_rfl) (fun _ _ _ h => h) (Or.inl ⟨by rfl, ?_⟩) hHeld ?_ ?_
            rotate_left
            · intro w' s0
              go_simp
              with_reducible rfl
            rotate_left
            · simp only [Act.put, List.setIfInBounds_toArray, List.set_cons_zero, List.set_cons_succ, i64_w, i32_w]
              rfl
            refine one_ (i := 3) (N := some 55) #[true, true, true, true, true, true, false, false] rfl rfl (by kernel_rfl) (by decide) (fun K hK => ?_)
            refine Kd.R_append_rows_step (Kd.int .u8) (w0 := w) w.heap.size (by rfl) (.tmp 52) (.tmp 54) 25 5 (.int .u8 0) 1 rfl Tryd.underlying25 info5 rfl Nat.zero_lt_one Nat.zero_lt_one V8 cu p.id _ _ _ (fun _ => True) (fun _ => False) rfl rfl ?aO ?aR (fun _ _ h => h) (fun _ h => h.elim) ?aF ?aB ?aS ?aL ?_
            case aR => exact (Kd.C_below HQ.out.idC (below_drew1 (Below.refl _ _)))
            case aB => exact (by repeat (first | (with_reducible first | exact HB.out | apply below_alloc | apply pw_below_drewN | apply below_drew1) | exact HB.out))
            case aF => exact (fun _ _ => trivial)
            case aO => exact (by (with_reducible repeat (first | apply Kd.R_alloc | apply Kd.R_drewN | apply Kd.R_drew)); exact HO.out)
            case aS => exact (below_size (by repeat (first | (with_reducible first | exact HB.out | apply below_alloc | apply pw_below_drewN | apply below_drew1) | exact HB.out)))
            case aL => exact HLA.out
            intro V9 w9 ho hb9 hg hat
            rw [← HC4.out] at ho
            have nQ_ := Aside0.mk (PcAt.mk (blk_grown (w := w10.drew) HQ.out.blk hg (Kd.R_ne HO.out HQ.out.blk (by decide))) HQ.out.il)
            clear HQ
            have HQ := nQ_
            clear nQ_
            have n0_ := Aside0.mk hb9
            have n1_ := Aside0.mk ho
            clear HB HO ho hb9 hg hat
            have HB := n0_
            have HO := n1_
            clear n0_ n1_
            refine hK.out _ _ ((HQ.out.cell (pcV_32 HQ.out.il)).trans (congrArg (fun b => some (Value.int .i64 b)) HNN.out.symm)) (fun hHeld => ?_)
            clear hK K
            refine norm_ (a' := ?_) ?_ ?_
            rotate_left
            · show Act.put _ (some 55) _ = _
              simp only [Act.put, List.setIfInBounds_toArray, List.set_cons_zero, List.set_cons_succ, i64_w, i32_w]
              rfl
            refine one_ (i := 6) (N := some 58) #[true, true, true, true, true, true, true, false] rfl rfl (by kernel_rfl) (by decide) (fun K hK => ?_)
            refine goes_ Tryd.func46 (by kernel_rfl) rfl #[V9, .int .i64 n] (by rfl) rfl rfl (by simp only [List.map_toArray, List.map_cons, List.map_nil]; rfl) ?_
            with_reducible refine (number_calls (Rd.own (by (with_reducible repeat (first | apply Kd.R_alloc | apply Kd.R_drewN | apply Kd.R_drew)); exact HO.out)) HLN.out n).mono ?_
            rintro e w11 ⟨V11, rfl, hv, hb⟩
            refine ⟨_, rfl, ?_⟩
            rw [← HC5.out] at hv
            have HO1 := Aside0.mk (Kd.R_lower hv (below_size (by repeat (first | (with_reducible first | exact HB.out | apply below_alloc | apply pw_below_drewN | apply below_drew1) | exact HB.out))))
            clear HO hv
            have HO := HO1
            clear HO1
            have n0_ := Aside0.mk (below_step (by repeat (first | (with_reducible first | exact HB.out | apply below_alloc | apply pw_below_drewN | apply below_drew1) | exact HB.out)) hb)
            have n1_ := Aside0.mk (HQ.out.below hb)
            clear HB HQ hb
            have HB := n0_
            have HQ := n1_
            clear n0_ n1_
            refine hK.out _ _ ((HQ.out.cell (pcV_32 HQ.out.il)).trans (congrArg (fun b => some (Value.int .i64 b)) HNN.out.symm)) (fun hHeld => ?_)
            clear hK K
            refine norm_ (a' := ?_) ?_ ?_
            rotate_left
            · show Act.put _ (some 58) _ = _
              simp only [Act.put, List.setIfInBounds_toArray, List.set_cons_zero, List.set_cons_succ, i64_w, i32_w]
              rfl
            refine pure_ (i := 7) (N := some 5) (v := ?_) (a' := ?_) #[true, true, true, true, true, true, true, true] rfl rfl (by kernel_rfl) (fun _ _ _ h => h) (Or.inl ⟨by rfl, ?_⟩) ?_ ?_
            rotate_left
            · intro w'
              go_simp
              with_reducible rfl
            rotate_left
            · simp only [Act.put, List.setIfInBounds_toArray, List.set_cons_zero, List.set_cons_succ, i64_w, i32_w]
              rfl
            refine done_ (by kernel_rfl) ?_
            clear hcul hb4i hb5l htl hb2l hb3l hnm hcl hb0l hHeld hlt hi h32 hk
            go_wp2
            go_roundw
            case rel => exact ⟨k + 1, b5, hkt, HB5L.out, by go_num, HCK2, HO, HB⟩
            case measure => simp [intOf]; exact left_lt hkt
          · obtain rfl : k = x.ps.length := by omega
            have hktb : decide ((x.ps.length : Int) < (x.ps.length : Int)) = false := decide_eq_false (by omega)
            have hck := HCK.out
            rw [List.take_length] at hck
            have HQ3 := Aside0.mk (show cu = (xs.take (i + 1)).foldl entB b0 by rw [hck]; exact HQ2.out)
            have hcu2 : cu.length ≤ cur.length + 10400 := by rw [hck]; exact HEN.out
            clear hck
            have HCU2 := Aside0.mk (show cu.length ≤ 8 + (i + 1) * 10400 by omega)
            have hwi := HWI.out
            clear hcul htl hb2l hb3l hpl hnm hcl hb0l hi hcu2
            go_wp2
            go_roundw
            case rel => exact ⟨i + 1, cu, hlt, HCU2.out, by go_num, HQ3, HO, HB⟩
            case measure => simp [intOf]; exact left_lt hlt
    · obtain rfl : i = xs.length := by omega
      have hltb : decide ((xs.length : Int) < (xs.length : Int)) = false := decide_eq_false (by omega)
      have hcu := HCU.out
      rw [List.take_length, HB0.out] at hcu
      have HCF := Aside0.mk (show putB xs = cur from hcu.symm)
      clear hcu
      go_wp2
      go_ret2
      exact ⟨_, rfl, R_bd HO.out _ HCF.out, HB.out⟩
theorem nput_calls {A : Option Addr} {c : Nat} {xs : List En} {w : World} (h : Kd.C kEn w A xs.length xs) (hs : Szd xs) :
    Calls Tryd.prog 30 #[.slice A xs.length c] w fun e w' => ∃ V, e = .returned (.tuple #[V, .int .i64 (putP xs).2]) ∧ Kd.R (Kd.int .u8) 5 w' w.heap.size (fun _ => True) V (putP xs).1 ∧ Below w.heap.size w w' := by
  unfold putP
  by_cases h32 : 32 < xs.length
  · rw [if_pos h32]
    have b1 : decide ((32 : Int) < (xs.length : Int)) = true := decide_eq_true (by omega)
    clear h hs h32
    go_enter Tryd.func30, Tryd.ntmps30
    go_wp2
    go_ret2
    exact ⟨_, rfl, Kd.R_nil _ _ _ _ _, Below.refl _ _⟩
  · rw [if_neg h32]
    by_cases hr : risingP xs = 0
    · rw [if_neg (by omega)]
      exact put_ok h hs (by omega) hr
    · rw [if_pos hr]
      have HL := Aside0.mk h
      have HSZ := Aside0.mk hs
      have HB := Aside0.mk (Below.refl w.heap.size w)
      have b1 : decide ((32 : Int) < (xs.length : Int)) = false := decide_eq_false (by omega)
      have b2 : (risingP xs != 0) = true := bne_iff_ne.mpr hr
      have b3 : (risingP xs == 0) = false := beq_eq_false_iff_ne.mpr hr
      have HRS := Aside0.mk (rfl : risingP xs = risingP xs)
      clear h hs h32 hr
      go_enter Tryd.func30, Tryd.ntmps30
      go_wp2_with (first | (go_at_call 45; with_reducible refine (rising_calls HL.out HSZ.out).mono ?_; rintro e w1 ⟨rfl, hb⟩; have n0_ := Aside0.mk (below_step HB.out hb); clear HB hb; have HB := n0_; clear n0_))
      go_ret2
      exact ⟨_, rfl, Kd.R_nil _ _ _ _ _, HB.out⟩
end Go.Proofs.YthpgbhpnlnpfnaaDoor.Law

namespace Go.Proofs.YthpgbhpnlnpfnaaDoor.Law
open Go.RowKit Go.Deep Go.ChangeShapes Go.WideShapes Go.Proofs.YthpgbhpnlnpfnaaDoor Go.Proofs.YthpgbhpnlnpfnaaDoorW.PrintWords Go.Proofs.YthpgbhpnlnpfnaaDoor.E
set_option linter.unusedVariables false
section
variable {H : Type} {enc : TypeId × Value → H} {w : World} {base : Nat} {spare : Nat → Bool} {held : Bool}
def Cap (n : Nat) : Prop := n ≤ 140737488351232
theorem Cap.out {n : Nat} (h : Cap n) : n ≤ 140737488351232 := h
theorem Cap.mk {n : Nat} (h : n ≤ 140737488351232) : Cap n := h
def Light (ns : List Nat) : Prop := ∀ n ∈ ns, Cap n
theorem light_app {a b : List Nat} (h : Light (a ++ b)) : Light a ∧ Light b := ⟨fun n hn => h n (List.mem_append_left _ hn), fun n hn => h n (List.mem_append_right _ hn)⟩
theorem u8_wf {n : Int} (h : (Lit.int .u8 n).wf = true) : 0 ≤ n ∧ n < 256 := by
  simp only [Lit.wf, IntKind.min, IntKind.max, IntKind.signed, IntKind.bits, Bool.and_eq_true] at h
  simp at h
  omega
theorem open_bytes {n : Nat} {cs : List Value} {x : DataW H × List MemPlace} (h : DataW.trod enc Tryd.prog w base spare held n 25 cs = some x) (hz : Light (x.1.weights Tryd.prog 25)) :
    ∃ (l : List Int) (A : Option Addr) (c : Nat), cs = [.slice A l.length c] ∧ l.length ≤ c ∧ Kd.C (Kd.int .u8) w A l.length l ∧ Cap l.length ∧ Bytes l := by
  have c5 : Tryd.prog.cellsOf 5 = 1 := by kernel_rfl
  rcases open_slice1 Tryd.underlying25 c5 h with ⟨rfl, _⟩ | ⟨a, l, c, m, n', V, D, Pl, rfl, _, hl, hmx, hmm, rfl, hx⟩
  · exact ⟨[], none, 0, rfl, Nat.le_refl _, ⟨rfl, by decide, fun h => absurd h (by decide)⟩, Cap.mk (Nat.zero_le _), fun z hz => by cases hz⟩
  · have hlm : l ≤ m := by rw [hmm]; split <;> omega
    have b5 : Tryd.prog.bytesOf 5 = 1 := by kernel_rfl
    have hb : Cap l := by
      refine Cap.mk ?_
      have hw := Cap.out (hz ((((List.range l).map D).length + ((List.range (m - l)).map fun j => D (l + j)).length) * Tryd.prog.bytesOf 5) (by simp [DataW.weights, Tryd.underlying25]))
      rw [b5] at hw
      simp at hw
      omega
    obtain ⟨q, hq⟩ := choose_lt (p := fun i (z : Int) => w.cell? (a.add i) = some (.int .u8 z) ∧ 0 ≤ z ∧ z < 256) (fun i (hi : i < l) => by
      obtain ⟨h1, h2⟩ := hx i (by omega)
      obtain ⟨z, e, _, wz⟩ := DataW.trod_int Tryd.underlying5 h2
      injection e with e _
      exact ⟨z, by rw [h1, e], u8_wf wz⟩)
    have hlen : ((List.range l).map q).length = l := by simp
    refine ⟨(List.range l).map q, some a, c, by rw [hlen], by rw [hlen]; exact hl, ⟨rfl, by rw [hlen]; unfold maxLen at hmx; omega, fun _ => ⟨a, rfl, fun j p hj => ?_⟩⟩, by rw [hlen]; exact hb, fun z hz => ?_⟩
    · have hjl : j < l := by have := (List.getElem?_eq_some_iff.mp hj).1; rwa [hlen] at this
      rw [List.getElem?_map, List.getElem?_range hjl] at hj
      obtain rfl := Option.some.inj hj
      refine ⟨[.int .u8 (q j)], rfl, rfl, fun i u hu => ?_⟩
      match i, hu with
      | 0, hu =>
        obtain rfl := Option.some.inj hu
        have e : j * (Kd.int .u8).sz + 0 = j := by show j * 1 + 0 = j; omega
        rw [e]; exact (hq j hjl).1
    · obtain ⟨i, hi, rfl⟩ := List.mem_map.mp hz
      exact (hq i (List.mem_range.mp hi)).2
theorem open_bytes_arg {A : Option Addr} {len cap : Nat} {d : DataW H} {p : List MemPlace} (h : DataW.Trod enc Tryd.prog w base spare held 25 (.slice A len cap) d p) (hz : Light (d.weights Tryd.prog 25)) :
    ∃ l : List Int, len = l.length ∧ l.length ≤ cap ∧ Kd.C (Kd.int .u8) w A l.length l ∧ Bytes l := by
  obtain ⟨fuel, hf⟩ := h
  obtain ⟨l, A', c', hcs, h1, h2, h3, h4⟩ := open_bytes hf hz
  simp [Value.cells] at hcs
  obtain ⟨rfl, rfl, rfl⟩ := hcs
  exact ⟨l, rfl, h1, h2, h4⟩
theorem open_id {n : Nat} {cs : List Value} {x : DataW H × List MemPlace} (h : DataW.trod enc Tryd.prog w base spare held n 72 cs = some x) : ∃ z : List Int, cs = u8s z ∧ z.length = 32 ∧ Bytes z := by
  obtain ⟨xs, m, _, _, hl, hxl, hf⟩ := DataW.trod_array Tryd.underlying72 h
  have hc : Tryd.prog.cellsOf 72 = 32 := by kernel_rfl
  have hc5 : Tryd.prog.cellsOf 5 = 1 := by kernel_rfl
  rw [hc] at hl
  have hcell : ∀ i, i < 32 → ∃ z : Int, cs[i]? = some (.int .u8 z) ∧ 0 ≤ z ∧ z < 256 := fun i hi => by
    have hy := hf i hi
    rw [List.getElem?_eq_getElem (by omega), hc5, Nat.mul_one] at hy
    obtain ⟨z, e, _, wz⟩ := DataW.trod_int Tryd.underlying5 hy
    rw [List.take_one, List.head?_drop] at e
    refine ⟨z, ?_, u8_wf wz⟩
    cases hx : cs[i]? with
    | none => rw [hx] at e; simp at e
    | some x => rw [hx] at e; simp at e; rw [e]
  refine ⟨cs.map fun | .int _ n => n | _ => 0, ?_, by rw [List.length_map, hl], fun y hy => ?_⟩
  · apply List.ext_getElem?
    intro i
    unfold u8s
    rw [List.map_map, List.getElem?_map]
    by_cases hi : i < 32
    · obtain ⟨z, e, _⟩ := hcell i hi
      rw [e]; rfl
    · rw [List.getElem?_eq_none (by omega)]; rfl
  · obtain ⟨v, hv, rfl⟩ := List.mem_map.mp hy
    obtain ⟨i, hi, e⟩ := List.getElem_of_mem hv
    obtain ⟨z, e2, h0⟩ := hcell i (by omega)
    rw [List.getElem?_eq_getElem hi, e] at e2
    obtain rfl := Option.some.inj e2
    exact h0
theorem open_piece {n : Nat} {cs : List Value} {x : DataW H × List MemPlace} (h : DataW.trod enc Tryd.prog w base spare held n 78 cs = some x) : ∃ p : Pc, kPc.K w p cs ∧ Bytes p.id := by
  obtain ⟨xs, m, _, _, hl, hxl, hf⟩ := DataW.trod_struct Tryd.underlying78 h
  have hc : Tryd.prog.cellsOf 78 = 33 := by kernel_rfl
  have hc3 : Tryd.prog.cellsOf 3 = 1 := by kernel_rfl
  have hc23 : Tryd.prog.cellsOf 72 = 32 := by kernel_rfl
  rw [hc] at hl
  match xs, hxl with
  | [y0, y1], _ =>
    have g0 := hf 0 _ rfl
    have g1 := hf 1 _ rfl
    change DataW.trod enc Tryd.prog w base spare held m 72 (List.take (Tryd.prog.cellsOf 72) (List.drop 0 cs)) = some y0 at g0
    change DataW.trod enc Tryd.prog w base spare held m 3 (List.take (Tryd.prog.cellsOf 3) (List.drop 32 cs)) = some y1 at g1
    rw [hc23, List.drop_zero] at g0
    rw [hc3] at g1
    obtain ⟨z, e0, hz, hzb⟩ := open_id g0
    obtain ⟨k, e1, _⟩ := DataW.trod_int Tryd.underlying3 g1
    have e1' : List.drop 32 cs = [.int .i64 k] := by
      have : (List.drop 32 cs).length = 1 := by rw [List.length_drop]; omega
      rwa [List.take_of_length_le (by omega)] at e1
    exact ⟨⟨z, k⟩, ⟨u8s z, [.int .i64 k], by rw [← e0, ← e1', List.take_append_drop], ⟨rfl, hz⟩, rfl⟩, hzb⟩
theorem open_pieces {n : Nat} {cs : List Value} {x : DataW H × List MemPlace} (h : DataW.trod enc Tryd.prog w base spare held n 73 cs = some x) (hz : Light (x.1.weights Tryd.prog 73)) :
    ∃ (ps : List Pc) (A : Option Addr) (c : Nat), cs = [.slice A ps.length c] ∧ ps.length ≤ c ∧ Kd.C kPc w A ps.length ps ∧ Cap ps.length ∧ ∀ p ∈ ps, Bytes p.id := by
  rcases open_slice Tryd.underlying73 h with ⟨rfl, _⟩ | ⟨a, l, c, m, n', D, Pl, rfl, _, hl, hmx, hmm, hd, hx⟩
  · exact ⟨[], none, 0, rfl, Nat.le_refl _, ⟨rfl, by decide, fun h => absurd h (by decide)⟩, Cap.mk (Nat.zero_le _), fun p hp => by cases hp⟩
  · have hlm : l ≤ m := by rw [hmm]; split <;> omega
    have c62 : Tryd.prog.cellsOf 78 = 33 := by kernel_rfl
    have b78 : Tryd.prog.bytesOf 78 = 40 := by kernel_rfl
    have hd' : x.1 = (.slice ((List.range l).map D) ((List.range (m - l)).map fun j => D (l + j))) := congrArg Prod.fst hd
    have hb : Cap l := by
      refine Cap.mk ?_
      rw [hd'] at hz
      have hw := Cap.out (hz ((((List.range l).map D).length + ((List.range (m - l)).map fun j => D (l + j)).length) * Tryd.prog.bytesOf 78) (by simp [DataW.weights, Tryd.underlying73]))
      rw [b78] at hw
      simp at hw
      omega
    have : Inhabited Pc := ⟨zPc⟩
    obtain ⟨q, hq⟩ := choose_lt (p := fun i (q : Pc) => (∃ c, c.length = 33 ∧ kPc.K w q c ∧ ∀ j u, c[j]? = some u → w.cell? (a.add (i * 33 + j)) = some u) ∧ Bytes q.id) (fun i (hi : i < l) => by
      obtain ⟨cs', h1, h2⟩ := hx i (by omega)
      rw [c62] at h1
      obtain ⟨_, hlen, hcell⟩ := World.cells?_some h1
      obtain ⟨p, hp, hpb⟩ := open_piece h2
      refine ⟨p, ⟨cs', hlen, hp, fun j u hu => ?_⟩, hpb⟩
      have hj : j < 33 := by have := (List.getElem?_eq_some_iff.mp hu).1; omega
      rw [← hu, ← hcell j hj, Go.Deep.add_add])
    have hlen : ((List.range l).map q).length = l := by simp
    refine ⟨(List.range l).map q, some a, c, by rw [hlen], by rw [hlen]; exact hl, ⟨rfl, by rw [hlen]; unfold maxLen at hmx; omega, fun _ => ⟨a, rfl, fun j p hj => ?_⟩⟩, by rw [hlen]; exact hb, fun p hp => ?_⟩
    · have hjl : j < l := by have := (List.getElem?_eq_some_iff.mp hj).1; rwa [hlen] at this
      rw [List.getElem?_map, List.getElem?_range hjl] at hj
      obtain rfl := Option.some.inj hj
      exact (hq j hjl).1
    · obtain ⟨i, hi, rfl⟩ := List.mem_map.mp hp
      exact (hq i (List.mem_range.mp hi)).2
/-- an entry's ids are bytes -/
def EnB (x : En) : Prop := Bytes x.tree ∧ ∀ p ∈ x.ps, Bytes p.id
set_option maxRecDepth 20000 in
theorem open_cells {n : Nat} {cs : List Value} {x : DataW H × List MemPlace} (h : DataW.trod enc Tryd.prog w base spare held n 75 cs = some x) (hz : Light (x.1.weights Tryd.prog 75)) : ∃ y : En, kEn.K w y cs ∧ Cap y.nm.size ∧ Cap y.ps.length ∧ EnB y := by
  obtain ⟨xs, m, _, rfl, hl, hxl, hf⟩ := DataW.trod_struct Tryd.underlying75 h
  have hc : Tryd.prog.cellsOf 75 = 35 := by kernel_rfl
  have hc9 : Tryd.prog.cellsOf 9 = 1 := by kernel_rfl
  have hc4 : Tryd.prog.cellsOf 4 = 1 := by kernel_rfl
  have hc23 : Tryd.prog.cellsOf 72 = 32 := by kernel_rfl
  have hc24 : Tryd.prog.cellsOf 73 = 1 := by kernel_rfl
  rw [hc] at hl
  match xs, hxl with
  | [y0, y1, y2, y3], _ =>
    have g0 := hf 0 _ rfl
    have g1 := hf 1 _ rfl
    have g2 := hf 2 _ rfl
    have g3 := hf 3 _ rfl
    change DataW.trod enc Tryd.prog w base spare held m 9 (List.take (Tryd.prog.cellsOf 9) (List.drop 0 cs)) = some y0 at g0
    change DataW.trod enc Tryd.prog w base spare held m 4 (List.take (Tryd.prog.cellsOf 4) (List.drop 1 cs)) = some y1 at g1
    change DataW.trod enc Tryd.prog w base spare held m 72 (List.take (Tryd.prog.cellsOf 72) (List.drop 2 cs)) = some y2 at g2
    change DataW.trod enc Tryd.prog w base spare held m 73 (List.take (Tryd.prog.cellsOf 73) (List.drop 34 cs)) = some y3 at g3
    rw [hc9] at g0
    rw [hc4] at g1
    rw [hc23] at g2
    rw [hc24] at g3
    have hz' : Light (DataW.weightsEach Tryd.prog [9, 4, 72, 73] [y0.1, y1.1, y2.1, y3.1]) := fun n hn => hz n (by simp only [List.map_cons, List.map_nil, DataW.weights, Tryd.underlying75]; exact hn)
    simp only [DataW.weightsEach] at hz'
    obtain ⟨hzs, hz1⟩ := light_app hz'
    obtain ⟨_, hz2⟩ := light_app hz1
    obtain ⟨_, hz3⟩ := light_app hz2
    obtain ⟨hzp, _⟩ := light_app hz3
    obtain ⟨s, e0, ex0, _⟩ := DataW.trod_string Tryd.underlying9 g0
    obtain ⟨b, e1, _⟩ := DataW.trod_bool Tryd.underlying4 g1
    obtain ⟨z, e2, hzl, hzb⟩ := open_id g2
    obtain ⟨ps, A, c, e3, hpc, hpr, hpl, hpb⟩ := open_pieces g3 hzp
    have hs : Cap s.size := by
      have := hzs s.data.toList.length (by rw [ex0]; simp [DataW.weights])
      rwa [show s.data.toList.length = s.size from Array.length_toList] at this
    have hsp : cs = List.take 1 (List.drop 0 cs) ++ (List.take 1 (List.drop 1 cs) ++ (List.take 32 (List.drop 2 cs) ++ List.take 1 (List.drop 34 cs))) := by
      have t1 : List.take 1 (List.drop 34 cs) = List.drop 34 cs := List.take_of_length_le (by rw [List.length_drop]; omega)
      rw [t1, show List.drop 34 cs = List.drop 32 (List.drop 2 cs) by rw [List.drop_drop], List.take_append_drop, show List.drop 2 cs = List.drop 1 (List.drop 1 cs) by rw [List.drop_drop], List.take_append_drop, List.drop_zero, List.take_append_drop]
    rw [e0, e1, e2, e3] at hsp
    exact ⟨⟨s, b, z, ps⟩, ⟨[.string s], _, hsp, rfl, [.bool b], _, rfl, rfl, u8s z, _, rfl, ⟨rfl, hzl⟩, A, c, rfl, hpc, hpr⟩, hs, hpl, hzb, hpb⟩
theorem light_all {e : TypeId} : ∀ (l : List (DataW H)), Light (DataW.weightsAll Tryd.prog e l) → ∀ d ∈ l, Light (d.weights Tryd.prog e)
  | d0 :: l, h, d, hd => by
    simp only [DataW.weightsAll] at h
    obtain ⟨h1, h2⟩ := light_app h
    rcases List.mem_cons.mp hd with rfl | hd
    · exact h1
    · exact light_all l h2 d hd
set_option maxRecDepth 20000 in
theorem open_entries {A : Option Addr} {len cap : Nat} {d : DataW H} {p : List MemPlace} (h : DataW.Trod enc Tryd.prog w base spare held 47 (.slice A len cap) d p) (hz : Light (d.weights Tryd.prog 47)) :
    ∃ l : List En, len = l.length ∧ l.length ≤ cap ∧ Kd.C kEn w A l.length l ∧ Szd l ∧ ∀ x ∈ l, EnB x := by
  obtain ⟨fuel, hf⟩ := h
  have c75 : Tryd.prog.cellsOf 75 = 35 := by kernel_rfl
  have b75 : Tryd.prog.bytesOf 75 = 80 := by kernel_rfl
  rcases open_slice Tryd.underlying47 hf with ⟨hcs, _⟩ | ⟨a, l, c, m, n', D, Pl, hcs, _, hl, hmx, hmm, hd, hx⟩
  · simp [Value.cells] at hcs
    obtain ⟨rfl, rfl, rfl⟩ := hcs
    exact ⟨[], rfl, Nat.le_refl _, ⟨rfl, by decide, fun h => absurd h (by decide)⟩, ⟨Nat.zero_le _, fun x hx => by cases hx⟩, fun x hx => by cases hx⟩
  · simp [Value.cells] at hcs
    obtain ⟨rfl, rfl, rfl⟩ := hcs
    have hlm : len ≤ m := by rw [hmm]; split <;> omega
    have hd' : d = (.slice ((List.range len).map D) ((List.range (m - len)).map fun j => D (len + j))) := congrArg Prod.fst hd
    rw [hd'] at hz
    simp only [DataW.weights, Tryd.underlying47] at hz
    have hll : len ≤ 140737488351232 := by
      have hw := Cap.out (hz _ (List.mem_cons_self ..))
      rw [b75] at hw
      simp at hw
      omega
    have hz1 : Light (DataW.weightsAll Tryd.prog 75 ((List.range len).map D)) := fun n hn => hz n (List.mem_cons_of_mem _ (List.mem_append_left _ hn))
    have hzi : ∀ i, i < len → Light ((D i).weights Tryd.prog 75) := fun i hi => light_all _ hz1 _ (List.mem_map.mpr ⟨i, List.mem_range.mpr hi, rfl⟩)
    have : Inhabited En := ⟨zEn⟩
    obtain ⟨q, hq⟩ := choose_lt (p := fun i (q : En) => (∃ c, c.length = 35 ∧ kEn.K w q c ∧ ∀ j u, c[j]? = some u → w.cell? (a.add (i * 35 + j)) = some u) ∧ Cap q.nm.size ∧ Cap q.ps.length ∧ EnB q) (fun i (hi : i < len) => by
      obtain ⟨cs', h1, h2⟩ := hx i (by omega)
      rw [c75] at h1
      obtain ⟨_, hlen, hcell⟩ := World.cells?_some h1
      obtain ⟨p, hp, hb⟩ := open_cells h2 (hzi i hi)
      refine ⟨p, ⟨cs', hlen, hp, fun j u hu => ?_⟩, hb⟩
      have hj : j < 35 := by have := (List.getElem?_eq_some_iff.mp hu).1; omega
      rw [← hu, ← hcell j hj, Go.Deep.add_add])
    have hlen : ((List.range len).map q).length = len := by simp
    refine ⟨(List.range len).map q, hlen.symm, by rw [hlen]; exact hl, ⟨rfl, by rw [hlen]; unfold maxLen at hmx; omega, fun _ => ⟨a, rfl, fun j p hj => ?_⟩⟩, ⟨by rw [hlen]; omega, fun x hx' => ?_⟩, fun x hx' => ?_⟩
    · have hjl : j < len := by have := (List.getElem?_eq_some_iff.mp hj).1; rwa [hlen] at this
      rw [List.getElem?_map, List.getElem?_range hjl] at hj
      obtain rfl := Option.some.inj hj
      exact (hq j hjl).1
    · obtain ⟨i, hi, rfl⟩ := List.mem_map.mp hx'
      have e := (hq i (List.mem_range.mp hi)).2
      have e1 := Cap.out e.1
      have e2 := Cap.out e.2.1
      exact ⟨by omega, by omega⟩
    · obtain ⟨i, hi, rfl⟩ := List.mem_map.mp hx'
      exact (hq i (List.mem_range.mp hi)).2.2.2
end
end Go.Proofs.YthpgbhpnlnpfnaaDoor.Law

namespace Go.Proofs.YthpgbhpnlnpfnaaDoor.Law
open Go.RowKit Go.Proofs.YthpgbhpnlnpfnaaDoor Go.Proofs.YthpgbhpnlnpfnaaDoorW.PrintWords Go.Proofs.YthpgbhpnlnpfnaaDoorW.PrintLast Go.Proofs.YthpgbhpnlnpfnaaDoorW.PrintMore Go.Proofs.YthpgbhpnlnpfnaaDoor.E
set_option linter.unusedSimpArgs false
set_option linter.unusedVariables false
theorem less_tot : ∀ a b : List UInt8, (Op.bytesLess a b || a == b) = !Op.bytesLess b a
  | [], [] => rfl
  | [], _ :: _ => rfl
  | _ :: _, [] => rfl
  | a :: x, b :: y => by
    have ih := less_tot x y
    simp only [Op.bytesLess]
    rcases Nat.lt_trichotomy a.toNat b.toNat with h | h | h
    · have h1 : a < b := h
      have h2 : ¬ b < a := fun e => absurd (show b.toNat < a.toNat from e) (by omega)
      have h3 : (b == a) = false := beq_eq_false_iff_ne.mpr (fun e => by rw [e] at h; omega)
      simp [h1, h2, h3]
    · obtain rfl := UInt8.toNat_inj.mp h
      have h2 : ¬ a < a := fun e => absurd (show a.toNat < a.toNat from e) (by omega)
      simp [h2] at ih ⊢
      exact ih
    · have h1 : ¬ a < b := fun e => absurd (show a.toNat < b.toNat from e) (by omega)
      have h2 : b < a := h
      have h3 : (a == b) = false := beq_eq_false_iff_ne.mpr (fun e => by rw [e] at h; omega)
      have h4 : ((a :: x) == (b :: y)) = false := beq_eq_false_iff_ne.mpr (fun e => by injection e with e _; rw [e] at h; omega)
      simp [h1, h2, h3, h4]
theorem leq_str (a b : ByteArray) (t : TypeId) : binOp .leq t (.string a) (.string b) = pure (.bool !(Op.bytesLess b.toList a.toList)) := by rw [← less_tot]; simp [binOp, Op.stringOp]

/-- a field's cell, as the walk writes its address -/
theorem cell_fld {w : World} {ad : Addr} {j : Nat} {v : Value} (h : w.cell? (ad.add j) = some v) : w.cell? ⟨ad.block, ad.off + j, none⟩ = some v := by
  have hs : (ad.add j).spot = none := World.cell?_spot h
  have e : ad.add j = ⟨ad.block, ad.off + j, none⟩ := by
    obtain ⟨g, o, sp⟩ := ad
    unfold Addr.add at hs ⊢
    split at hs <;> simp_all
  rw [← e]; exact h
def IsB (e : Ending) : Prop := ∃ b : Bool, e = .returned (.bool b)
section
attribute [local go_sem] min2_nx
set_option maxHeartbeats 4000000 in
set_option maxRecDepth 100000 in
theorem small_calls {A : Option Addr} {c : Nat} {xs : List En} {w : World} (h : Kd.C kEn w A xs.length xs) (hs : Szd xs) :
    Calls Tryd.prog 29 #[.slice A xs.length c] w fun e w' => IsB e ∧ Below w.heap.size w w' := by
  have HL := Aside0.mk h
  have HSZ := Aside0.mk hs.2
  have hln := hs.1
  have HB := Aside0.mk (Below.refl w.heap.size w)
  clear h hs
  go_enter Tryd.func29, Tryd.ntmps29
  go_wp2
  go_loopw [3, 4] (fun v3 v4 wr => ∃ (i : Nat) (n : Int), i ≤ xs.length ∧ v3 = .int .i64 n ∧ v4 = .int .i64 i ∧ Aside0 (Below w.heap.size w wr)) (fun _ v4 _ => xs.length - (intOf v4).toNat)
  case atStart => exact ⟨0, 0, by omega, rfl, rfl, HB⟩
  case round =>
    obtain ⟨i, n, hi, rfl, rfl, HBn⟩ := hrel
    clear HB
    have HB := HBn
    clear HBn
    by_cases hlt : i < xs.length
    · have hltb : decide ((i : Int) < (xs.length : Int)) = true := decide_eq_true (by omega)
      have p1 : (0 ≤ (i : Int)) = True := eq_true (by omega)
      have p2 : ((i : Int) < (xs.length : Int)) = True := eq_true (by omega)
      by_cases h40 : (i : Int) ≤ 40
      · have h40b : decide ((i : Int) ≤ 40) = true := decide_eq_true h40
        have hwi : wrap64 ((i : Int) + 1) = (i : Int) + 1 := n64 (by omega) (by omega)
        obtain ⟨ad, A', c', rfl, hxt, hxl, hxp, hxc, hz⟩ := at_En (Kd.C_below HL.out HB.out) hlt
        have z34 := hxc 34 _ (enV_34 (rdEn xs i) A' c' hxt)
        have z34b := cell_fld z34
        clear hxc hxl hxp hxt
        generalize (rdEn xs i) = x at *
        go_wp2
        go_quiet (fail)
        go_wp2
        have HB2 := Aside0.mk (pw_below_drewN HB.out nq)
        go_roundw
        case rel => exact ⟨i + 1, _, by omega, rfl, by go_num, HB2⟩
        case measure => simp [intOf]; omega
      · have h40b : decide ((i : Int) ≤ 40) = false := decide_eq_false h40
        go_wp2
        all_goals (go_ret; exact ⟨⟨_, rfl⟩, HB.out⟩)
    · obtain rfl : i = xs.length := by omega
      have hltb : decide ((xs.length : Int) < (xs.length : Int)) = false := decide_eq_false (by omega)
      go_wp2
      all_goals (go_ret; exact ⟨⟨_, rfl⟩, HB.out⟩)
end
theorem rise_no {xs : List En} {k : Nat} (hi : k + 1 < xs.length) (hm : Op.bytesLess (rdEn xs k).nm.toList (rdEn xs (k + 1)).nm.toList = false) : decide (RiseP xs) = false := decide_eq_false (fun h => by rw [h k hi] at hm; cases hm)
section
attribute [local go_sem] leq_str
set_option maxHeartbeats 4000000 in
set_option maxRecDepth 100000 in
theorem rise_calls {A : Option Addr} {c : Nat} {xs : List En} {w : World} (h : Kd.C kEn w A xs.length xs) (hs : Szd xs) :
    Calls Tryd.prog 49 #[.slice A xs.length c] w fun e w' => e = .returned (.bool (decide (RiseP xs))) ∧ Below w.heap.size w w' := by
  have HL := Aside0.mk h
  have hln := hs.1
  have HB := Aside0.mk (Below.refl w.heap.size w)
  clear h hs
  go_enter Tryd.func49, Tryd.ntmps49
  go_wp2
  go_loopw [3] (fun v3 wr => ∃ k : Nat, k ≤ xs.length ∧ v3 = .int .i64 ((k : Int) + 1) ∧ Aside0 (∀ j, j + 1 < k + 1 → j + 1 < xs.length → Op.bytesLess (rdEn xs j).nm.toList (rdEn xs (j + 1)).nm.toList = true) ∧ Aside0 (Below w.heap.size w wr)) (fun v3 _ => xs.length + 1 - (intOf v3).toNat)
  case atStart => exact ⟨0, by omega, rfl, ⟨fun j hj => by omega⟩, HB⟩
  case round =>
    obtain ⟨k, hk, rfl, HP, HBn⟩ := hrel
    clear HB
    have HB := HBn
    clear HBn
    by_cases hlt : k + 1 < xs.length
    · have hltb : decide ((k : Int) + 1 < (xs.length : Int)) = true := decide_eq_true (by omega)
      have hwi : wrap64 ((k : Int) + 1 + 1) = (k : Int) + 1 + 1 := n64 (by omega) (by omega)
      have HLr := Aside0.mk (Kd.C_below HL.out HB.out)
      obtain ⟨ad, _, _, rfl, _, _, _, _, hz1⟩ := at_En HLr.out (show k < xs.length by omega)
      obtain ⟨ad2, _, _, e2, _, _, _, _, hz2⟩ := at_En HLr.out hlt
      obtain rfl := Option.some.inj e2
      have p1 : (0 ≤ (k : Int)) = True := eq_true (by omega)
      have p2 : ((k : Int) < (xs.length : Int)) = True := eq_true (by omega)
      have p3 : (0 ≤ (k : Int) + 1) = True := eq_true (by omega)
      have p4 : ((k : Int) + 1 < (xs.length : Int)) = True := eq_true (by omega)
      have p5 : ((k : Int) + 1).toNat = k + 1 := by omega
      have hwk : IntKind.i64.wrap (k : Int) = (k : Int) := Go.IntWalk.i64_in _ (by omega)
      have hs1 : (k : Int) + 1 - 1 = (k : Int) := by omega
      have HTH := Aside0.mk (fun hm => rise_no (k := k) hlt hm)
      generalize hsa : (rdEn xs k).nm = sa at *
      generalize hsb : (rdEn xs (k + 1)).nm = sb at *
      have HSA := Aside0.mk hsa
      have HSB := Aside0.mk hsb
      clear hsa hsb
      cases hm : Op.bytesLess sa.toList sb.toList with
      | false =>
        have HRS := Aside0.mk (HTH.out hm)
        have hmb : (!Op.bytesLess sa.toList sb.toList) = true := by rw [hm]; rfl
        go_wp2
        go_quiet (fail)
        go_wp2
        go_ret
        exact ⟨by rw [HRS.out]; rfl, pw_below_drewN HB.out _⟩
      | true =>
        have hmb : (!Op.bytesLess sa.toList sb.toList) = false := by rw [hm]; rfl
        have HP2 := Aside0.mk (show ∀ j, j + 1 < k + 1 + 1 → j + 1 < xs.length → Op.bytesLess (rdEn xs j).nm.toList (rdEn xs (j + 1)).nm.toList = true from fun j hj hj2 => by
          by_cases e : j = k
          · subst e; rw [HSA.out, HSB.out]; exact hm
          · exact HP.out j (by omega) hj2)
        go_wp2
        go_quiet (fail)
        go_wp2
        have HB2 := Aside0.mk (pw_below_drewN HB.out nq)
        clear HP HTH
        go_roundw
        case rel => exact ⟨k + 1, by omega, by go_num, HP2, HB2⟩
        case measure => simp [intOf]; omega
    · have hltb : decide ((k : Int) + 1 < (xs.length : Int)) = false := decide_eq_false (by omega)
      have HRS := Aside0.mk (decide_eq_true (show RiseP xs from fun j hj => HP.out j (by omega) hj))
      clear HP
      go_wp2
      go_ret
      exact ⟨by rw [HRS.out]; rfl, HB.out⟩
end
end Go.Proofs.YthpgbhpnlnpfnaaDoor.Law

namespace Go.Proofs.YthpgbhpnlnpfnaaDoor.Law
open Go.RowKit Go.Proofs.YthpgbhpnlnpfnaaDoor Go.Proofs.YthpgbhpnlnpfnaaDoorW.PrintWords Go.Proofs.YthpgbhpnlnpfnaaDoorW.PrintLast Go.Proofs.YthpgbhpnlnpfnaaDoorW.PrintMore Go.Proofs.YthpgbhpnlnpfnaaDoor.E
set_option linter.unusedSimpArgs false
set_option linter.unusedVariables false
theorem take_getD {m : List Int} {i : Nat} (h : i < m.length) : m.take (i + 1) = m.take i ++ [m.getD i 0] := by
  rw [List.take_succ_eq_append_getElem h, List.getD_eq_getElem?_getD, List.getElem?_eq_getElem h]; rfl
set_option maxHeartbeats 4000000 in
set_option maxRecDepth 100000 in
theorem putid_calls {w : World} {V : Value} {l m : List Int} (bs : Nat) (hV : Kd.R (Kd.int .u8) 5 w bs (fun _ => True) V l) (hbs : bs ≤ w.heap.size) (hm : m.length = 32) (hl : l.length + 32 < 140737488355000) :
    Calls Tryd.prog 50 #[V, .agg (u8s m).toArray] w fun e w' => ∃ V', e = .returned V' ∧ Kd.R (Kd.int .u8) 5 w' bs (fun _ => True) V' (l ++ m) ∧ Below bs w w' := by
  have HO := Aside0.mk hV
  have HM := Aside0.mk hm
  have HB := Aside0.mk (Below.refl bs w)
  have HBS := Aside0.mk hbs
  have HLL := Aside0.mk hl
  clear hV hm hbs hl
  go_enter Tryd.func50, Tryd.ntmps50
  go_wp2
  have HQ := Aside0.mk (heap_alloc_new w (.cells (u8s m).toArray 72))
  have HGB := Aside0.mk (show bs ≤ (w.alloc (.cells (u8s m).toArray 72)).heap.size by rw [World.size_alloc]; exact Nat.le_succ_of_le HBS.out)
  have n0_ := Aside0.mk (Kd.R_alloc HO.out (.cells (u8s m).toArray 72))
  have n1_ := Aside0.mk (HB.out.alloc HBS.out (.cells (u8s m).toArray 72))
  clear HO HB
  have HO := n0_
  have HB := n1_
  clear n0_ n1_
  go_loopw [0, 5] (fun v0 v5 wr => ∃ (i : Nat), i ≤ 32 ∧ v5 = .int .i64 i ∧ Aside0 (Kd.R (Kd.int .u8) 5 wr bs (fun _ => True) v0 (l ++ m.take i)) ∧ Aside0 (Below bs w wr) ∧ Aside0 (wr.heap[w.heap.size]? = some (.cells (u8s m).toArray 72 (0, 0))) ∧ Aside0 (bs ≤ wr.heap.size)) (fun _ v5 _ => 32 - (intOf v5).toNat)
  case atStart => exact ⟨0, by omega, rfl, ⟨by rw [List.take_zero, List.append_nil]; exact HO.out⟩, HB, HQ, HGB⟩
  case round =>
    obtain ⟨i, hi, rfl, HOn, HBn, HQn, HGn⟩ := hrel
    clear HB HO HQ HGB
    have HB := HBn
    have HO := HOn
    have HQ := HQn
    have HGB := HGn
    clear HBn HOn HQn HGn
    obtain ⟨V8, rfl⟩ : ∃ V, V = u0 := ⟨_, rfl⟩
    by_cases hlt : i < 32
    · have hltb : decide ((i : Int) < 32) = true := decide_eq_true (by omega)
      have p1 : (0 ≤ (i : Int)) = True := eq_true (by omega)
      have p2 : ((i : Int) < 32) = True := eq_true (by omega)
      have hwi : wrap64 ((i : Int) + 1) = (i : Int) + 1 := n64 (by omega) (by omega)
      have y0 : wr.cell? ⟨w.heap.size, i, none⟩ = some (.int .u8 (m.getD i 0)) := by
        rw [blk_cell HQ.out i, List.getElem?_toArray, List.getElem?_eq_getElem (by rw [u8s_len, HM.out]; exact hlt)]
        unfold u8s
        rw [List.getElem_map, List.getD_eq_getElem?_getD, List.getElem?_eq_getElem (by rw [HM.out]; exact hlt)]; rfl
      have HTK := Aside0.mk (take_getD (m := m) (i := i) (by rw [HM.out]; exact hlt))
      generalize m.getD i 0 = x at *
      obtain ⟨cu, hcu⟩ : ∃ cu, cu = l ++ m.take i := ⟨_, rfl⟩
      have HCL := Aside0.mk (show (cu.length + 1) * 1 ≤ 140737488355328 by have := HLL.out; rw [hcu, List.length_append, List.length_take]; omega)
      have HCC := Aside0.mk (show cu ++ [x] = l ++ m.take (i + 1) by rw [HTK.out, hcu, List.append_assoc])
      rw [← hcu] at HO
      clear hcu
      go_wp2_with (first | ((with_reducible refine gate_builtin (b := .append) (xs := #[.tmp 10, .tmp 14]) rfl ?_); at_builtin; refine Kd.R_append (Kd.int .u8) (w0 := w) bs rfl (.tmp 10) (.tmp 14) 25 5 (.int .u8 0) 1 rfl Tryd.underlying25 info5 rfl (by decide) (by decide) V8 cu x [.int .u8 x] (fun _ => True) (fun _ => False) rfl rfl rfl (fun _ h => h.elim) (fun _ _ => trivial) HO.out HB.out HGB.out HCL.out ?_; intro V9 w9 ho hb9 hg hat; have n0_ := Aside0.mk hb9; have n1_ := Aside0.mk ho; have n2_ := Aside0.mk (blk_grown HQ.out hg (Kd.R_ne HO.out HQ.out (by decide))); have n3_ := Aside0.mk (Nat.le_trans HGB.out hg.size); clear HB HO HQ HGB y0 ho hb9 hg hat; have HB := n0_; have HO := n1_; have HQ := n2_; have HGB := n3_; clear n0_ n1_ n2_ n3_))
      rw [HCC.out] at HO
      go_roundw
      case rel => exact ⟨i + 1, by omega, by go_num, HO, HB, HQ, HGB⟩
      case measure => simp [intOf]; omega
    · obtain rfl : i = 32 := by omega
      have hml := HM.out
      have HOF := Aside0.mk (show Kd.R (Kd.int .u8) 5 wr bs (fun _ => True) V8 (l ++ m) by have := HO.out; rwa [List.take_of_length_le (by omega)] at this)
      clear hml
      go_wp2
      go_ret
      exact ⟨_, rfl, HOF.out, HB.out⟩
end Go.Proofs.YthpgbhpnlnpfnaaDoor.Law
