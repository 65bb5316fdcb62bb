/- Put: a folder's text: the program's walk. -/
import Derived.Test.YtphpinfingaffaaRi
import Derived.Test.YtphpinfingaffaaNu
namespace Go.Proofs.Ytphpinfingaffaa.Law
open Go.RowKit Go.Proofs.Ytphpinfingaffaa Go.Proofs.YtphpinfingaffaaW.PrintWords Go.Proofs.YtphpinfingaffaaW.PrintLast Go.Proofs.YtphpinfingaffaaW.PrintMore Go.Proofs.Ytphpinfingaffaa.D
set_option linter.unusedSimpArgs false
set_option linter.unusedVariables false
theorem bytesOf_len (s : ByteArray) : (bytesOf s).length = s.size := bytesOf_length s
theorem bytesOf_get {s : ByteArray} {j : Nat} (hj : j < s.size) : (bytesOf s).getD j 0 = ((s.data.toList.getD j 0).toNat : Int) := by
  unfold bytesOf
  simp [List.getD_eq_getElem?_getD, hj]
theorem bytesOf_bytes (s : ByteArray) : Bytes (bytesOf s) := fun x hx => by
  unfold bytesOf at hx
  obtain ⟨b, _, rfl⟩ := List.mem_map.mp hx
  have := b.toNat_lt
  constructor
  · exact Int.natCast_nonneg _
  · omega
/-- a text as bytes: a row of the call's own -/
theorem wpList_bytes {ops : Array Oper} {rest : List Oper} {o : Oper} {a : Act} {w : World} {Q : Exit → Act → World → Prop} (hgd : o.guard = none) (x : Operand) (ho : o.op = .convert 9 53 x) (s : ByteArray) (hx : a.eval x = .string s) (hs : s.size ≤ 140737488355328)
    (h : ∀ (V : Value) (w1 : World), Rd w1 V (bytesOf s) → Below w.heap.size w w1 → wpList Try.prog ops Q rest (a.put o.dst V) w1) : wpList Try.prog ops Q (o :: rest) a w := by
  refine wpList_plain hgd fun K hK => ?_
  have hr := Lib.run_convert_string_bytes (P := Try.prog) w 9 53 5 s Try.underlying9 Try.underlying53 Try.underlying5
  have hcap : s.size ≤ grownCap w s.size 0 5 := grownCap_ge w s.size 0 5
  have hbel : Below w.heap.size w (Lib.bytesWorld w 5 s) := ⟨rfl, by simp [Lib.bytesWorld, World.freeze, World.alloc, World.drew, -World.alloc_eq, -World.drew_eq], rfl, by rw [Lib.bytesWorld_size]; omega, fun k hk => Lib.bytesWorld_at_old w 5 s k hk⟩
  have hrd : Rd (Lib.bytesWorld w 5 s) (.slice (some ⟨w.heap.size, 0, none⟩) s.size (grownCap w s.size 0 5)) (bytesOf s) := by
    refine ⟨_, grownCap w s.size 0 5, by rw [bytesOf_len], Kd.C_of_reads (enc := Value.int .u8) (d := (0 : Int)) (h1 := fun _ => rfl) ⟨rfl, by rw [bytesOf_len]; omega, fun _ => ⟨_, rfl, fun j hj => ?_⟩⟩, by rw [bytesOf_len]; exact hcap⟩
    rw [bytesOf_len] at hj
    rw [addr_add, Nat.zero_add, Lib.bytesWorld_cell w 5 s j hj, bytesOf_get hj]
  unfold Oper.wp execOp
  simp only [ho, hx, Sem.run_bind, Sem.run_pure, Result.andThen_ok, hr]
  exact hK _ _ (h _ _ hrd hbel)
theorem EnAt.treeC {w : World} {g : Nat} {x : En} {A : Option Addr} {c : Nat} (h : EnAt w g x A c) : Kd.C (Kd.int .u8) w (some ⟨g, 2, none⟩) 32 x.tree :=
  Kd.C_of_reads (enc := Value.int .u8) (d := (0 : Int)) (h1 := fun _ => rfl) ⟨h.tl, by decide, fun _ => ⟨_, rfl, fun j hj => by rw [addr_add]; exact h.cell (enV_id x A c h.tl j hj)⟩⟩
theorem PcAt.idC {w : World} {g : Nat} {p : Pc} (h : PcAt w g p) : Kd.C (Kd.int .u8) w (some ⟨g, 0, none⟩) 32 p.id :=
  Kd.C_of_reads (enc := Value.int .u8) (d := (0 : Int)) (h1 := fun _ => rfl) ⟨h.il, by decide, fun _ => ⟨_, rfl, fun j hj => by rw [addr_add, Nat.zero_add]; exact h.cell (pcV_id h.il hj)⟩⟩
/-- a piece behind bytes; an entry behind bytes; a folder's text -/
def pcB (b : List Int) (p : Pc) : List Int := numB (b ++ p.id) p.n
def pcsB (b : List Int) (ps : List Pc) : List Int := ps.foldl pcB b
def entB (b : List Int) (x : En) : List Int := if x.dir then numB (textB b (bytesOf x.nm)) 1 ++ x.tree else pcsB (numB (numB (textB b (bytesOf x.nm)) 0) x.ps.length) x.ps
def putB (xs : List En) : List Int := xs.foldl entB (numB [] xs.length)
theorem pcsB_snoc (b : List Int) (l : List Pc) (p : Pc) : pcsB b (l ++ [p]) = numB (pcsB b l ++ p.id) p.n := by unfold pcsB; rw [List.foldl_append]; rfl
theorem pcsB_len {b : List Int} : ∀ (l : List Pc), (∀ p ∈ l, p.id.length = 32) → (pcsB b l).length ≤ b.length + 40 * l.length := by
  intro l
  induction l generalizing b with
  | nil => intro _; exact Nat.le_refl _
  | cons p l ih =>
    intro h
    have h1 := ih (b := pcB b p) (fun q hq => h q (List.mem_cons_of_mem _ hq))
    have h2 := h p List.mem_cons_self
    have h3 := (numB_len (b ++ p.id) p.n).2
    rw [List.length_append, h2] at h3
    show (pcsB (pcB b p) l).length ≤ _
    unfold pcB at h1 ⊢
    rw [List.length_cons]; omega
theorem entB_dir {b : List Int} {x : En} (h : x.dir = true) : entB b x = numB (textB b (bytesOf x.nm)) 1 ++ x.tree := by unfold entB; rw [h]; rfl
theorem entB_file {b : List Int} {x : En} (h : x.dir = false) : entB b x = pcsB (numB (numB (textB b (bytesOf x.nm)) 0) x.ps.length) x.ps := by unfold entB; rw [h]; rfl
theorem textB_len (l s : List Int) : (textB l s).length ≤ l.length + 8 + s.length := by
  have := (numB_len l s.length).2
  unfold textB; rw [List.length_append]; omega
theorem may_name {x : En} (h : mayB x = true) : x.nm.size ≤ 32 := by
  have hn : nameB x.nm = true := by
    unfold mayB at h
    rw [Bool.and_eq_true] at h; exact h.1
  exact (of_decide_eq_true hn : NameP x.nm).2.1
theorem may_file {x : En} (h : mayB x = true) (hd : x.dir = false) : FineP x := by
  unfold mayB at h
  rw [Bool.and_eq_true, hd] at h
  exact of_decide_eq_true h.2
theorem entB_len {b : List Int} {x : En} (h : mayB x = true) (ht : x.tree.length = 32) (hp : ∀ p ∈ x.ps, p.id.length = 32) : (entB b x).length ≤ b.length + 10400 := by
  have h1 := may_name h
  have h2 := textB_len b (bytesOf x.nm)
  rw [bytesOf_len] at h2
  cases hd : x.dir with
  | true =>
    rw [entB_dir hd, List.length_append, ht]
    have := (numB_len (textB b (bytesOf x.nm)) 1).2
    omega
  | false =>
    rw [entB_file hd]
    have h3 := (numB_len (textB b (bytesOf x.nm)) 0).2
    have h4 := (numB_len (numB (textB b (bytesOf x.nm)) 0) x.ps.length).2
    have h5 := pcsB_len (b := numB (numB (textB b (bytesOf x.nm)) 0) x.ps.length) x.ps hp
    have h6 := (may_file h hd).2.1
    omega
/-- the ids of a row of pieces have 32 bytes -/
theorem ids_C {w : World} {A : Option Addr} {ps : List Pc} (h : Kd.C kPc w A ps.length ps) : ∀ p ∈ ps, p.id.length = 32 := fun p hp => by
  obtain ⟨i, hi, rfl⟩ := List.getElem_of_mem hp
  obtain ⟨_, _, hl, _⟩ := at_Pc h hi
  unfold rdPc at hl
  rwa [List.getD_eq_getElem?_getD, List.getElem?_eq_getElem hi] at hl
/-- what Put tells -/
def putP (xs : List En) : List Int × Int := if 32 < xs.length then ([], 21) else if risingP xs ≠ 0 then ([], risingP xs) else (putB xs, 0)
theorem rising_all {xs : List En} (h : risingP xs = 0) : ∀ x ∈ xs, mayB x = true := by
  unfold risingP at h
  by_cases c : ∀ x ∈ xs, mayB x = true
  · exact c
  · rw [if_neg c] at h; exact absurd h (by decide)
theorem left_lt {i n : Nat} (h : i < n) : n - (i + 1) < n - i := by omega
theorem R_bd {e base : Nat} {w : World} {V : Value} {l : List Int} (h : Kd.R (Kd.int .u8) e w base (fun _ => True) V l) (m : List Int) (hm : m = l) : Kd.R (Kd.int .u8) e w base (fun _ => True) V m := by rw [hm]; exact h
set_option maxHeartbeats 4000000 in
set_option maxRecDepth 100000 in
theorem put_ok {A : Option Addr} {c : Nat} {xs : List En} {w : World} (h : Kd.C kEn w A xs.length xs) (hs : Szd xs) (h32 : xs.length ≤ 32) (hr : risingP xs = 0) :
    Calls Try.prog 21 #[.slice A xs.length c] w fun e w' => ∃ V, e = .returned (.tuple #[V, .int .i64 0]) ∧ Kd.R (Kd.int .u8) 5 w' w.heap.size (fun _ => True) V (putB xs) ∧ Below w.heap.size w w' := by
  have HL := Aside0.mk h
  have HSZ := Aside0.mk hs
  have HMA := Aside0.mk (rising_all hr)
  have HRS := Aside0.mk hr
  have HB := Aside0.mk (Below.refl w.heap.size w)
  have b1 : decide ((32 : Int) < (xs.length : Int)) = false := decide_eq_false (by omega)
  obtain ⟨b0, hb0⟩ : ∃ b0, b0 = numB [] (xs.length : Int) := ⟨_, rfl⟩
  have HB0 := Aside0.mk hb0
  have hb0l : b0.length ≤ 8 := by rw [hb0]; exact (numB_len [] (xs.length : Int)).2
  clear h hs hr hb0
  go_enter Try.func21, Try.ntmps21
  go_wp2_with (first | (go_at_call 28; with_reducible refine (rising_calls HL.out HSZ.out).mono ?_; rw [HRS.out]; rintro e w1 ⟨rfl, hb⟩; have n0_ := Aside0.mk (below_step HB.out hb); clear HB hb; have HB := n0_; clear n0_) | (go_at_call 29; (with_reducible refine (number_calls (Rd.nil _) ?hl (xs.length : Int)).mono ?_); (case hl => decide); rintro e w2 ⟨V0, rfl, hv, hb⟩; rw [← HB0.out] at hv; have HO := Aside0.mk (Kd.R_lower hv HB.out.size); clear hv; have n0_ := Aside0.mk (below_step (by repeat (first | (with_reducible first | exact HB.out | apply below_alloc | apply pw_below_drewN | apply below_drew1) | exact HB.out)) hb); clear HB hb; have HB := n0_; clear n0_))
  clear b1
  go_loopw [5, 23] (fun v5 v23 wr => ∃ (i : Nat) (cur : List Int), i ≤ xs.length ∧ cur.length ≤ 8 + i * 10400 ∧ v23 = .int .i64 i ∧ Aside0 (cur = (xs.take i).foldl entB b0) ∧ Aside0 (Kd.R (Kd.int .u8) 5 wr w.heap.size (fun _ => True) v5 cur) ∧ Aside0 (Below w.heap.size w wr)) (fun _ v23 _ => xs.length - (intOf v23).toNat)
  case atStart => exact ⟨0, b0, by omega, by omega, rfl, ⟨rfl⟩, HO, HB⟩
  case round =>
    obtain ⟨i, cur, hi, hcl, rfl, HCU, HOn, HBn⟩ := hrel
    clear HB HO
    have HB := HBn
    have HO := HOn
    clear HBn HOn
    by_cases hlt : i < xs.length
    · have hltb : decide ((i : Int) < (xs.length : Int)) = true := decide_eq_true (by omega)
      have p1 : (0 ≤ (i : Int)) = True := eq_true (by omega)
      have p2 : ((i : Int) < (xs.length : Int)) = True := eq_true (by omega)
      have hwi : wrap64 ((i : Int) + 1) = (i : Int) + 1 := n64 (by omega) (by omega)
      obtain ⟨ad, A', c', rfl, hxt, hxl, hxp, hxc, _⟩ := at_En HL.out hlt
      have HXT := Aside0.mk hxt
      have HXL := Aside0.mk hxl
      have HXP := Aside0.mk hxp
      have HXC := Aside0.mk (show ∀ j u, (enV (rdEn xs i) A' c')[j]? = some u → wr.cell? ((ad.add (i * 35)).add j) = some u from fun j u hu => (HB.out.cell (World.block_lt_of_cell? w _ (hxc j u hu))).trans (hxc j u hu))
      have hmay := HMA.out _ (rdEn_mem hlt)
      have HTK := Aside0.mk (take_rdEn hlt)
      have hen := entB_len (b := cur) hmay hxt (ids_C hxp)
      have HIDS := Aside0.mk (ids_C hxp)
      clear hxt hxl hxp hxc
      generalize rdEn xs i = x at *
      have hnm := may_name hmay
      have HNS := Aside0.mk (show x.nm.size ≤ 140737488355328 by omega)
      have HL1 := Aside0.mk (show cur.length + (bytesOf x.nm).length < 140737488355000 by rw [bytesOf_len]; omega)
      have htl := textB_len cur (bytesOf x.nm)
      rw [bytesOf_len] at htl
      obtain ⟨b1, hb1⟩ : ∃ b1, b1 = textB cur (bytesOf x.nm) := ⟨_, rfl⟩
      have HC1 := Aside0.mk hb1
      rw [← hb1] at htl
      clear hb1
      cases hd : x.dir with
      | true =>
        have HD := Aside0.mk hd
        obtain ⟨b2, hb2⟩ : ∃ b2, b2 = numB b1 1 := ⟨_, rfl⟩
        have HC2 := Aside0.mk hb2
        have hb2l : b2.length ≤ b1.length + 8 := by rw [hb2]; exact (numB_len b1 1).2
        obtain ⟨b3, hb3⟩ : ∃ b3, b3 = b2 ++ x.tree := ⟨_, rfl⟩
        have HC3 := Aside0.mk hb3
        have he : entB cur x = b3 := by rw [entB_dir hd, hb3, hb2, HC1.out]
        rw [he] at hen
        have HQ2 := Aside0.mk (show b3 = (xs.take (i + 1)).foldl entB b0 by rw [HTK.out, List.foldl_append, ← HCU.out, List.foldl_cons, List.foldl_nil, he])
        clear hd he hb2 hb3 hmay
        go_wp2_with (first | ((with_reducible refine gate_dst (N := 26) rfl ?_); refine load_enAt rfl (.tmp 25) rfl (ad.add (i * 35)) rfl x A' c' HXT.out HXC.out ?_) | ((with_reducible refine gate_dst (N := 7) rfl ?_); refine new_en rfl rfl rfl (.tmp 7) (.tmp 26) rfl rfl x A' c' HXT.out rfl ?_; intro w3 hk hb hsz; have E := Aside0.mk (EnAt.mk hk HXT.out HXL.out (Kd.C_below HXP.out (below_step HB.out hb))); have n0_ := Aside0.mk (below_step (by repeat (first | (with_reducible first | exact HB.out | apply below_alloc | apply pw_below_drewN | apply below_drew1) | exact HB.out)) hb); have n1_ := Aside0.mk (Kd.R_below (by (with_reducible repeat (first | apply Kd.R_alloc | apply Kd.R_drewN | apply Kd.R_drew)); exact HO.out) hb); clear HB HO hb; have HB := n0_; have HO := n1_; clear n0_ n1_; have z0 := E.out.cell (enV_0 x _ _); have z1 := (E.out.cell (enV_1 x _ _)).trans (congrArg (fun b => some (Value.bool b)) HD.out); have z34 := E.out.cell (enV_34 x _ _ HXT.out); clear hk hsz) | ((with_reducible refine gate_dst (N := 30) rfl ?_); refine wpList_bytes rfl (.tmp 29) rfl x.nm rfl HNS.out ?_; intro VS w4 hvs hb; have HVS := Aside0.mk hvs; have n0_ := Aside0.mk (below_step (by repeat (first | (with_reducible first | exact HB.out | apply below_alloc | apply pw_below_drewN | apply below_drew1) | exact HB.out)) hb); have n1_ := Aside0.mk (Kd.R_below (by (with_reducible repeat (first | apply Kd.R_alloc | apply Kd.R_drewN | apply Kd.R_drew)); exact HO.out) hb); have n2_ := Aside0.mk (E.out.below hb); clear HB HO E hb; have HB := n0_; have HO := n1_; have E := n2_; clear n0_ n1_ n2_; clear z0 z1 z34; have z0 := E.out.cell (enV_0 x _ _); have z1 := (E.out.cell (enV_1 x _ _)).trans (congrArg (fun b => some (Value.bool b)) HD.out); have z34 := E.out.cell (enV_34 x _ _ HXT.out); clear hvs) | (go_at_call 30; (with_reducible refine (puttext_calls (Rd.own HO.out) HVS.out ?hl).mono ?_); (case hl => exact HL1.out); rintro e w5 ⟨V1, rfl, hv, hb⟩; rw [← HC1.out] at hv; have HO1 := Aside0.mk (Kd.R_lower hv HB.out.size); clear HO hv; have HO := HO1; clear HO1; have n0_ := Aside0.mk (below_step (by repeat (first | (with_reducible first | exact HB.out | apply below_alloc | apply pw_below_drewN | apply below_drew1) | exact HB.out)) hb); have n1_ := Aside0.mk (E.out.below hb); clear HB E hb; have HB := n0_; have E := n1_; clear n0_ n1_; clear z0 z1 z34; have z0 := E.out.cell (enV_0 x _ _); have z1 := (E.out.cell (enV_1 x _ _)).trans (congrArg (fun b => some (Value.bool b)) HD.out); have z34 := E.out.cell (enV_34 x _ _ HXT.out)))
        refine start_ (n := 6) (S := fun w' => True) (ds := []) #[false, false, false, false, false, false] (by kernel_rfl) rfl rfl trivial (fun hHeld => ?_)
        refine pure_ (i := 0) (N := some 34) (v := ?_) (a' := ?_) #[true, false, false, false, false, false] rfl rfl (by kernel_rfl) (fun _ _ _ h => h) (Or.inl ⟨by rfl, ?_⟩) ?_ ?_
        rotate_left
        · intro w'
          go_simp
          with_reducible rfl
        rotate_left
        · simp only [Act.put, List.setIfInBounds_toArray, List.set_cons_zero, List.set_cons_succ, i64_w, i32_w]
          rfl
        refine pure_ (i := 2) (N := some 36) (v := ?_) (a' := ?_) #[true, false, true, false, false, false] rfl rfl (by kernel_rfl) (fun _ _ _ h => h) (Or.inl ⟨by rfl, ?_⟩) ?_ ?_
        rotate_left
        · intro w'
          go_simp
          with_reducible rfl
        rotate_left
        · simp only [Act.put, List.setIfInBounds_toArray, List.set_cons_zero, List.set_cons_succ, i64_w, i32_w]
          rfl
        refine pure_ (i := 3) (N := some 37) (v := ?_) (a' := ?_) #[true, false, true, true, false, false] rfl rfl (by kernel_rfl) (fun _ _ _ h => h) (Or.inl ⟨by rfl, ?_⟩) ?_ ?_
        rotate_left
        · intro w'
          go_simp
          with_reducible rfl
        rotate_left
        · simp only [Act.put, List.setIfInBounds_toArray, List.set_cons_zero, List.set_cons_succ, i64_w, i32_w]
          rfl
        refine one_ (i := 1) (N := some 35) #[true, true, true, true, false, false] rfl rfl (by kernel_rfl) (by decide) (fun K hK => ?_)
        refine goes_ Try.func29 (by kernel_rfl) rfl #[V1, .int .i64 1] (by rfl) rfl rfl (by simp only [List.map_toArray, List.map_cons, List.map_nil]; rfl) ?_
        with_reducible refine (number_calls (Rd.own (by (with_reducible repeat (first | apply Kd.R_alloc | apply Kd.R_drewN | apply Kd.R_drew)); exact HO.out)) (by omega) 1).mono ?_
        rintro e w6 ⟨V6, rfl, hv, hb⟩
        refine ⟨_, rfl, ?_⟩
        rw [← HC2.out] at hv
        have HO1 := Aside0.mk (Kd.R_lower hv (below_size (by repeat (first | (with_reducible first | exact HB.out | apply below_alloc | apply pw_below_drewN | apply below_drew1) | exact HB.out))))
        clear HO hv
        have HO := HO1
        clear HO1
        have n0_ := Aside0.mk (below_step (by repeat (first | (with_reducible first | exact HB.out | apply below_alloc | apply pw_below_drewN | apply below_drew1) | exact HB.out)) hb)
        have n1_ := Aside0.mk (E.out.below (below_step (below_drew1 (Below.refl _ _)) hb))
        clear HB E hb
        have HB := n0_
        have E := n1_
        clear n0_ n1_
        refine hK.out _ _ trivial (fun hHeld => ?_)
        clear hK K
        refine norm_ (a' := ?_) ?_ ?_
        rotate_left
        · show Act.put _ (some 35) _ = _
          simp only [Act.put, List.setIfInBounds_toArray, List.set_cons_zero, List.set_cons_succ, i64_w, i32_w]
          rfl
        refine one_ (i := 4) (N := some 38) #[true, true, true, true, true, false] rfl rfl (by kernel_rfl) (by decide) (fun K hK => ?_)
        refine Kd.R_append_rows_step (Kd.int .u8) (w0 := w) w.heap.size (by rfl) (.tmp 35) (.tmp 37) 53 5 (.int .u8 0) 1 rfl Try.underlying53 info5 rfl Nat.zero_lt_one Nat.zero_lt_one V6 b2 x.tree _ _ _ (fun _ => True) (fun _ => False) rfl rfl ?aO ?aR (fun _ _ h => h) (fun _ h => h.elim) ?aF ?aB ?aS ?aL ?_
        case aR => exact E.out.treeC
        case aB => exact (by repeat (first | (with_reducible first | exact HB.out | apply below_alloc | apply pw_below_drewN | apply below_drew1) | exact HB.out))
        case aF => exact (fun _ _ => trivial)
        case aO => exact (by (with_reducible repeat (first | apply Kd.R_alloc | apply Kd.R_drewN | apply Kd.R_drew)); exact HO.out)
        case aS => exact (below_size (by repeat (first | (with_reducible first | exact HB.out | apply below_alloc | apply pw_below_drewN | apply below_drew1) | exact HB.out)))
        case aL => omega
        intro V7 w7 ho hb9 hg hat
        rw [← HC3.out] at ho
        have n0_ := Aside0.mk hb9
        have n1_ := Aside0.mk ho
        clear HB HO ho hb9 hg hat
        have HB := n0_
        have HO := n1_
        clear n0_ n1_
        refine hK.out _ _ trivial (fun hHeld => ?_)
        clear hK K
        refine norm_ (a' := ?_) ?_ ?_
        rotate_left
        · show Act.put _ (some 38) _ = _
          simp only [Act.put, List.setIfInBounds_toArray, List.set_cons_zero, List.set_cons_succ, i64_w, i32_w]
          rfl
        refine pure_ (i := 5) (N := some 5) (v := ?_) (a' := ?_) #[true, true, true, true, true, true] rfl rfl (by kernel_rfl) (fun _ _ _ h => h) (Or.inl ⟨by rfl, ?_⟩) ?_ ?_
        rotate_left
        · intro w'
          go_simp
          with_reducible rfl
        rotate_left
        · simp only [Act.put, List.setIfInBounds_toArray, List.set_cons_zero, List.set_cons_succ, i64_w, i32_w]
          rfl
        refine done_ (by kernel_rfl) ?_
        go_wp2
        go_roundw
        case rel => exact ⟨i + 1, b3, hlt, by omega, by go_num, HQ2, HO, HB⟩
        case measure => simp [intOf]; exact left_lt hlt
      | false =>
        have HD := Aside0.mk hd
        have hfine := may_file hmay hd
        obtain ⟨b2, hb2⟩ : ∃ b2, b2 = numB b1 0 := ⟨_, rfl⟩
        have HC2 := Aside0.mk hb2
        have hb2l : b2.length ≤ b1.length + 8 := by rw [hb2]; exact (numB_len b1 0).2
        obtain ⟨b3, hb3⟩ : ∃ b3, b3 = numB b2 (x.ps.length : Int) := ⟨_, rfl⟩
        have HC3 := Aside0.mk hb3
        have hb3l : b3.length ≤ b2.length + 8 := by rw [hb3]; exact (numB_len b2 (x.ps.length : Int)).2
        have he : entB cur x = pcsB b3 x.ps := by rw [entB_file hd, hb3, hb2, HC1.out]
        have hpl : x.ps.length ≤ 256 := hfine.2.1
        have HQ2 := Aside0.mk (show pcsB b3 x.ps = (xs.take (i + 1)).foldl entB b0 by rw [HTK.out, List.foldl_append, ← HCU.out, List.foldl_cons, List.foldl_nil, he])
        rw [he] at hen
        have HEN := Aside0.mk hen
        clear hd he hb2 hb3 hmay hfine hen
        go_wp2_with (first | ((with_reducible refine gate_dst (N := 26) rfl ?_); refine load_enAt rfl (.tmp 25) rfl (ad.add (i * 35)) rfl x A' c' HXT.out HXC.out ?_) | ((with_reducible refine gate_dst (N := 7) rfl ?_); refine new_en rfl rfl rfl (.tmp 7) (.tmp 26) rfl rfl x A' c' HXT.out rfl ?_; intro w3 hk hb hsz; have E := Aside0.mk (EnAt.mk hk HXT.out HXL.out (Kd.C_below HXP.out (below_step HB.out hb))); have n0_ := Aside0.mk (below_step (by repeat (first | (with_reducible first | exact HB.out | apply below_alloc | apply pw_below_drewN | apply below_drew1) | exact HB.out)) hb); have n1_ := Aside0.mk (Kd.R_below (by (with_reducible repeat (first | apply Kd.R_alloc | apply Kd.R_drewN | apply Kd.R_drew)); exact HO.out) hb); clear HB HO hb; have HB := n0_; have HO := n1_; clear n0_ n1_; have z0 := E.out.cell (enV_0 x _ _); have z1 := (E.out.cell (enV_1 x _ _)).trans (congrArg (fun b => some (Value.bool b)) HD.out); have z34 := E.out.cell (enV_34 x _ _ HXT.out); clear hk hsz) | ((with_reducible refine gate_dst (N := 30) rfl ?_); refine wpList_bytes rfl (.tmp 29) rfl x.nm rfl HNS.out ?_; intro VS w4 hvs hb; have HVS := Aside0.mk hvs; have n0_ := Aside0.mk (below_step (by repeat (first | (with_reducible first | exact HB.out | apply below_alloc | apply pw_below_drewN | apply below_drew1) | exact HB.out)) hb); have n1_ := Aside0.mk (Kd.R_below (by (with_reducible repeat (first | apply Kd.R_alloc | apply Kd.R_drewN | apply Kd.R_drew)); exact HO.out) hb); have n2_ := Aside0.mk (E.out.below hb); clear HB HO E hb; have HB := n0_; have HO := n1_; have E := n2_; clear n0_ n1_ n2_; clear z0 z1 z34; have z0 := E.out.cell (enV_0 x _ _); have z1 := (E.out.cell (enV_1 x _ _)).trans (congrArg (fun b => some (Value.bool b)) HD.out); have z34 := E.out.cell (enV_34 x _ _ HXT.out); clear hvs) | (go_at_call 30; (with_reducible refine (puttext_calls (Rd.own HO.out) HVS.out ?hl).mono ?_); (case hl => exact HL1.out); rintro e w5 ⟨V1, rfl, hv, hb⟩; rw [← HC1.out] at hv; have HO1 := Aside0.mk (Kd.R_lower hv HB.out.size); clear HO hv; have HO := HO1; clear HO1; have n0_ := Aside0.mk (below_step (by repeat (first | (with_reducible first | exact HB.out | apply below_alloc | apply pw_below_drewN | apply below_drew1) | exact HB.out)) hb); have n1_ := Aside0.mk (E.out.below hb); clear HB E hb; have HB := n0_; have E := n1_; clear n0_ n1_; clear z0 z1 z34; have z0 := E.out.cell (enV_0 x _ _); have z1 := (E.out.cell (enV_1 x _ _)).trans (congrArg (fun b => some (Value.bool b)) HD.out); have z34 := E.out.cell (enV_34 x _ _ HXT.out)))
        refine start_ (n := 7) (S := fun w' => w'.cell? ⟨wr.heap.size, 34, none⟩ = some (.slice A' x.ps.length c')) (ds := []) #[false, false, false, false, false, false, false] (by kernel_rfl) rfl rfl (z34) (fun hHeld => ?_)
        refine pure_ (i := 0) (N := some 39) (v := ?_) (a' := ?_) #[true, false, false, false, false, false, false] rfl rfl (by kernel_rfl) (fun _ _ _ h => h) (Or.inl ⟨by rfl, ?_⟩) ?_ ?_
        rotate_left
        · intro w'
          go_simp
          with_reducible rfl
        rotate_left
        · simp only [Act.put, List.setIfInBounds_toArray, List.set_cons_zero, List.set_cons_succ, i64_w, i32_w]
          rfl
        refine pure_ (i := 2) (N := some 41) (v := ?_) (a' := ?_) #[true, false, true, false, false, false, false] rfl rfl (by kernel_rfl) (fun _ _ _ h => h) (Or.inl ⟨by rfl, ?_⟩) ?_ ?_
        rotate_left
        · intro w'
          go_simp
          with_reducible rfl
        rotate_left
        · simp only [Act.put, List.setIfInBounds_toArray, List.set_cons_zero, List.set_cons_succ, i64_w, i32_w]
          rfl
        refine take_ (i := 3) (N := some 42) (v := ?_) (a' := ?_) #[true, false, true, true, false, false, false] rfl rfl (by kernel_rfl) (fun _ _ _ h => h) (Or.inl ⟨by rfl, ?_⟩) hHeld ?_ ?_
        rotate_left
        · intro w' s0
          go_simp
          with_reducible rfl
        rotate_left
        · simp only [Act.put, List.setIfInBounds_toArray, List.set_cons_zero, List.set_cons_succ, i64_w, i32_w]
          rfl
        refine pure_ (i := 4) (N := some 43) (v := ?_) (a' := ?_) #[true, false, true, true, true, false, false] rfl rfl (by kernel_rfl) (fun _ _ _ h => h) (Or.inl ⟨by rfl, ?_⟩) ?_ ?_
        rotate_left
        · intro w'
          go_simp
          with_reducible rfl
        rotate_left
        · simp only [Act.put, List.setIfInBounds_toArray, List.set_cons_zero, List.set_cons_succ, i64_w, i32_w]
          rfl
        refine one_ (i := 1) (N := some 40) #[true, true, true, true, true, false, false] rfl rfl (by kernel_rfl) (by decide) (fun K hK => ?_)
        refine goes_ Try.func29 (by kernel_rfl) rfl #[V1, .int .i64 0] (by rfl) rfl rfl (by simp only [List.map_toArray, List.map_cons, List.map_nil]; rfl) ?_
        with_reducible refine (number_calls (Rd.own (by (with_reducible repeat (first | apply Kd.R_alloc | apply Kd.R_drewN | apply Kd.R_drew)); exact HO.out)) (by omega) 0).mono ?_
        rintro e w6 ⟨V6, rfl, hv, hb⟩
        refine ⟨_, rfl, ?_⟩
        rw [← HC2.out] at hv
        have HO1 := Aside0.mk (Kd.R_lower hv (below_size (by repeat (first | (with_reducible first | exact HB.out | apply below_alloc | apply pw_below_drewN | apply below_drew1) | exact HB.out))))
        clear HO hv
        have HO := HO1
        clear HO1
        have n0_ := Aside0.mk (below_step (by repeat (first | (with_reducible first | exact HB.out | apply below_alloc | apply pw_below_drewN | apply below_drew1) | exact HB.out)) hb)
        have n1_ := Aside0.mk (E.out.below (below_step (below_drew1 (Below.refl _ _)) hb))
        clear HB E hb
        have HB := n0_
        have E := n1_
        clear n0_ n1_
        refine hK.out _ _ (E.out.cell (enV_34 x _ _ HXT.out)) (fun hHeld => ?_)
        clear hK K
        refine norm_ (a' := ?_) ?_ ?_
        rotate_left
        · show Act.put _ (some 40) _ = _
          simp only [Act.put, List.setIfInBounds_toArray, List.set_cons_zero, List.set_cons_succ, i64_w, i32_w]
          rfl
        refine one_ (i := 5) (N := some 44) #[true, true, true, true, true, true, false] rfl rfl (by kernel_rfl) (by decide) (fun K hK => ?_)
        refine goes_ Try.func29 (by kernel_rfl) rfl #[V6, .int .i64 (x.ps.length : Int)] (by rfl) rfl rfl (by simp only [List.map_toArray, List.map_cons, List.map_nil]; rfl) ?_
        with_reducible refine (number_calls (Rd.own (by (with_reducible repeat (first | apply Kd.R_alloc | apply Kd.R_drewN | apply Kd.R_drew)); exact HO.out)) (by omega) (x.ps.length : Int)).mono ?_
        rintro e w7 ⟨V7, rfl, hv, hb⟩
        refine ⟨_, rfl, ?_⟩
        rw [← HC3.out] at hv
        have HO1 := Aside0.mk (Kd.R_lower hv (below_size (by repeat (first | (with_reducible first | exact HB.out | apply below_alloc | apply pw_below_drewN | apply below_drew1) | exact HB.out))))
        clear HO hv
        have HO := HO1
        clear HO1
        have n0_ := Aside0.mk (below_step (by repeat (first | (with_reducible first | exact HB.out | apply below_alloc | apply pw_below_drewN | apply below_drew1) | exact HB.out)) hb)
        have n1_ := Aside0.mk (E.out.below hb)
        clear HB E hb
        have HB := n0_
        have E := n1_
        clear n0_ n1_
        refine hK.out _ _ (E.out.cell (enV_34 x _ _ HXT.out)) (fun hHeld => ?_)
        clear hK K
        refine norm_ (a' := ?_) ?_ ?_
        rotate_left
        · show Act.put _ (some 44) _ = _
          simp only [Act.put, List.setIfInBounds_toArray, List.set_cons_zero, List.set_cons_succ, i64_w, i32_w]
          rfl
        refine pure_ (i := 6) (N := some 5) (v := ?_) (a' := ?_) #[true, true, true, true, true, true, true] rfl rfl (by kernel_rfl) (fun _ _ _ h => h) (Or.inl ⟨by rfl, ?_⟩) ?_ ?_
        rotate_left
        · intro w'
          go_simp
          with_reducible rfl
        rotate_left
        · simp only [Act.put, List.setIfInBounds_toArray, List.set_cons_zero, List.set_cons_succ, i64_w, i32_w]
          rfl
        refine done_ (by kernel_rfl) ?_
        go_wp2
        clear z0 z1 z34 E
        have HWI := Aside0.mk hwi
        clear hwi
        go_loopw [5, 48] (fun v5 v48 wk => ∃ (k : Nat) (cu : List Int), k ≤ x.ps.length ∧ cu.length ≤ b3.length + 40 * k ∧ v48 = .int .i64 k ∧ Aside0 (cu = pcsB b3 (x.ps.take k)) ∧ Aside0 (Kd.R (Kd.int .u8) 5 wk w.heap.size (fun _ => True) v5 cu) ∧ Aside0 (Below w.heap.size w wk)) (fun _ v48 _ => x.ps.length - (intOf v48).toNat)
        case atStart => exact ⟨0, b3, by omega, by omega, rfl, ⟨rfl⟩, HO, HB⟩
        case round =>
          obtain ⟨k, cu, hk, hcul, rfl, HCK, HOn, HBn⟩ := hrel
          clear HB HO
          have HB := HBn
          have HO := HOn
          clear HBn HOn
          obtain ⟨V8, rfl⟩ : ∃ V, V = u5 := ⟨_, rfl⟩
          by_cases hkt : k < x.ps.length
          · have hktb : decide ((k : Int) < (x.ps.length : Int)) = true := decide_eq_true (by omega)
            have q1 : (0 ≤ (k : Int)) = True := eq_true (by omega)
            have q2 : ((k : Int) < (x.ps.length : Int)) = True := eq_true (by omega)
            obtain ⟨ae, rfl, hil, hpc, _⟩ := at_Pc (Kd.C_below HXP.out HB.out) hkt
            have HIL := Aside0.mk hil
            have HPC := Aside0.mk hpc
            have HTP := Aside0.mk (take_rdPc hkt)
            clear hpc
            generalize rdPc x.ps k = p at *
            obtain ⟨n, hn⟩ : ∃ n, n = p.n := ⟨_, rfl⟩
            have HNN := Aside0.mk hn
            obtain ⟨b4, hb4⟩ : ∃ b4, b4 = cu ++ p.id := ⟨_, rfl⟩
            have HC4 := Aside0.mk hb4
            have hb4l : b4.length = cu.length + 32 := by rw [hb4, List.length_append, hil]
            have hb4i : b4.length ≤ cu.length + 32 := Nat.le_of_eq hb4l
            obtain ⟨b5, hb5⟩ : ∃ b5, b5 = numB b4 n := ⟨_, rfl⟩
            have HC5 := Aside0.mk hb5
            have hb5l : b5.length ≤ b4.length + 8 := by rw [hb5]; exact (numB_len b4 n).2
            have HCK2 := Aside0.mk (show b5 = pcsB b3 (x.ps.take (k + 1)) by rw [HTP.out, pcsB_snoc, ← HCK.out, hb5, hb4, hn])
            have HLA := Aside0.mk (show (cu.length + 32) * 1 ≤ 140737488355328 by omega)
            have HLN := Aside0.mk (show b4.length < 140737488355000 by omega)
            have HB5L := Aside0.mk (show b5.length ≤ b3.length + 40 * (k + 1) by omega)
            have hwk : wrap64 ((k : Int) + 1) = (k : Int) + 1 := n64 (by omega) (by omega)
            clear hn hb4 hb5 hb4l hil
            go_wp2_with (first | ((with_reducible refine gate_dst (N := 51) rfl ?_); refine load_pc rfl (.tmp 50) rfl (ae.add (k * 33)) rfl p HIL.out HPC.out ?_) | ((with_reducible refine gate_dst (N := 9) rfl ?_); refine new_pc rfl rfl rfl (.tmp 9) (.tmp 51) rfl rfl p HIL.out rfl ?_; intro w10 hq hb hsz; have HQ := Aside0.mk hq; have y32 := (HQ.out.cell (pcV_32 HQ.out.il)).trans (congrArg (fun b => some (Value.int .i64 b)) HNN.out.symm); have n0_ := Aside0.mk (below_step (by repeat (first | (with_reducible first | exact HB.out | apply below_alloc | apply pw_below_drewN | apply below_drew1) | exact HB.out)) hb); have n1_ := Aside0.mk (Kd.R_below (by (with_reducible repeat (first | apply Kd.R_alloc | apply Kd.R_drewN | apply Kd.R_drew)); exact HO.out) hb); clear HB HO hb; have HB := n0_; have HO := n1_; clear n0_ n1_; clear hq hsz))
            refine start_ (n := 8) (S := fun w' => w'.cell? ⟨wr.heap.size, 32, none⟩ = some (.int .i64 n)) (ds := []) #[false, false, false, false, false, false, false, false] (by kernel_rfl) rfl rfl (y32) (fun hHeld => ?_)
            refine pure_ (i := 0) (N := some 52) (v := ?_) (a' := ?_) #[true, false, false, false, false, false, false, false] rfl rfl (by kernel_rfl) (fun _ _ _ h => h) (Or.inl ⟨by rfl, ?_⟩) ?_ ?_
            rotate_left
            · intro w'
              go_simp
              with_reducible rfl
            rotate_left
            · simp only [Act.put, List.setIfInBounds_toArray, List.set_cons_zero, List.set_cons_succ, i64_w, i32_w]
              rfl
            refine pure_ (i := 1) (N := some 53) (v := ?_) (a' := ?_) #[true, true, false, false, false, false, false, false] rfl rfl (by kernel_rfl) (fun _ _ _ h => h) (Or.inl ⟨by rfl, ?_⟩) ?_ ?_
            rotate_left
            · intro w'
              go_simp
              with_reducible rfl
            rotate_left
            · simp only [Act.put, List.setIfInBounds_toArray, List.set_cons_zero, List.set_cons_succ, i64_w, i32_w]
              rfl
            refine pure_ (i := 2) (N := some 54) (v := ?_) (a' := ?_) #[true, true, true, false, false, false, false, false] rfl rfl (by kernel_rfl) (fun _ _ _ h => h) (Or.inl ⟨by rfl, ?_⟩) ?_ ?_
            rotate_left
            · intro w'
              go_simp
              with_reducible rfl
            rotate_left
            · simp only [Act.put, List.setIfInBounds_toArray, List.set_cons_zero, List.set_cons_succ, i64_w, i32_w]
              rfl
            refine pure_ (i := 4) (N := some 56) (v := ?_) (a' := ?_) #[true, true, true, false, true, false, false, false] rfl rfl (by kernel_rfl) (fun _ _ _ h => h) (Or.inl ⟨by rfl, ?_⟩) ?_ ?_
            rotate_left
            · intro w'
              go_simp
              with_reducible rfl
            rotate_left
            · simp only [Act.put, List.setIfInBounds_toArray, List.set_cons_zero, List.set_cons_succ, i64_w, i32_w]
              rfl
            refine take_ (i := 5) (N := some 57) (v := ?_) (a' := ?_) #[true, true, true, false, true, true, false, false] rfl rfl (by kernel_rfl) (fun _ _ _ h => h) (Or.inl ⟨by rfl, ?_⟩) hHeld ?_ ?_
            rotate_left
            · intro w' s0
              go_simp
              with_reducible rfl
            rotate_left
            · simp only [Act.put, List.setIfInBounds_toArray, List.set_cons_zero, List.set_cons_succ, i64_w, i32_w]
              rfl
            refine one_ (i := 3) (N := some 55) #[true, true, true, true, true, true, false, false] rfl rfl (by kernel_rfl) (by decide) (fun K hK => ?_)
            refine Kd.R_append_rows_step (Kd.int .u8) (w0 := w) w.heap.size (by rfl) (.tmp 52) (.tmp 54) 53 5 (.int .u8 0) 1 rfl Try.underlying53 info5 rfl Nat.zero_lt_one Nat.zero_lt_one V8 cu p.id _ _ _ (fun _ => True) (fun _ => False) rfl rfl ?aO ?aR (fun _ _ h => h) (fun _ h => h.elim) ?aF ?aB ?aS ?aL ?_
            case aR => exact (Kd.C_below HQ.out.idC (below_drew1 (Below.refl _ _)))
            case aB => exact (by repeat (first | (with_reducible first | exact HB.out | apply below_alloc | apply pw_below_drewN | apply below_drew1) | exact HB.out))
            case aF => exact (fun _ _ => trivial)
            case aO => exact (by (with_reducible repeat (first | apply Kd.R_alloc | apply Kd.R_drewN | apply Kd.R_drew)); exact HO.out)
            case aS => exact (below_size (by repeat (first | (with_reducible first | exact HB.out | apply below_alloc | apply pw_below_drewN | apply below_drew1) | exact HB.out)))
            case aL => exact HLA.out
            intro V9 w9 ho hb9 hg hat
            rw [← HC4.out] at ho
            have nQ_ := Aside0.mk (PcAt.mk (blk_grown (w := w10.drew) HQ.out.blk hg (Kd.R_ne HO.out HQ.out.blk (by decide))) HQ.out.il)
            clear HQ
            have HQ := nQ_
            clear nQ_
            have n0_ := Aside0.mk hb9
            have n1_ := Aside0.mk ho
            clear HB HO ho hb9 hg hat
            have HB := n0_
            have HO := n1_
            clear n0_ n1_
            refine hK.out _ _ ((HQ.out.cell (pcV_32 HQ.out.il)).trans (congrArg (fun b => some (Value.int .i64 b)) HNN.out.symm)) (fun hHeld => ?_)
            clear hK K
            refine norm_ (a' := ?_) ?_ ?_
            rotate_left
            · show Act.put _ (some 55) _ = _
              simp only [Act.put, List.setIfInBounds_toArray, List.set_cons_zero, List.set_cons_succ, i64_w, i32_w]
              rfl
            refine one_ (i := 6) (N := some 58) #[true, true, true, true, true, true, true, false] rfl rfl (by kernel_rfl) (by decide) (fun K hK => ?_)
            refine goes_ Try.func29 (by kernel_rfl) rfl #[V9, .int .i64 n] (by rfl) rfl rfl (by simp only [List.map_toArray, List.map_cons, List.map_nil]; rfl) ?_
            with_reducible refine (number_calls (Rd.own (by (with_reducible repeat (first | apply Kd.R_alloc | apply Kd.R_drewN | apply Kd.R_drew)); exact HO.out)) HLN.out n).mono ?_
            rintro e w11 ⟨V11, rfl, hv, hb⟩
            refine ⟨_, rfl, ?_⟩
            rw [← HC5.out] at hv
            have HO1 := Aside0.mk (Kd.R_lower hv (below_size (by repeat (first | (with_reducible first | exact HB.out | apply below_alloc | apply pw_below_drewN | apply below_drew1) | exact HB.out))))
            clear HO hv
            have HO := HO1
            clear HO1
            have n0_ := Aside0.mk (below_step (by repeat (first | (with_reducible first | exact HB.out | apply below_alloc | apply pw_below_drewN | apply below_drew1) | exact HB.out)) hb)
            have n1_ := Aside0.mk (HQ.out.below hb)
            clear HB HQ hb
            have HB := n0_
            have HQ := n1_
            clear n0_ n1_
            refine hK.out _ _ ((HQ.out.cell (pcV_32 HQ.out.il)).trans (congrArg (fun b => some (Value.int .i64 b)) HNN.out.symm)) (fun hHeld => ?_)
            clear hK K
            refine norm_ (a' := ?_) ?_ ?_
            rotate_left
            · show Act.put _ (some 58) _ = _
              simp only [Act.put, List.setIfInBounds_toArray, List.set_cons_zero, List.set_cons_succ, i64_w, i32_w]
              rfl
            refine pure_ (i := 7) (N := some 5) (v := ?_) (a' := ?_) #[true, true, true, true, true, true, true, true] rfl rfl (by kernel_rfl) (fun _ _ _ h => h) (Or.inl ⟨by rfl, ?_⟩) ?_ ?_
            rotate_left
            · intro w'
              go_simp
              with_reducible rfl
            rotate_left
            · simp only [Act.put, List.setIfInBounds_toArray, List.set_cons_zero, List.set_cons_succ, i64_w, i32_w]
              rfl
            refine done_ (by kernel_rfl) ?_
            clear hcul hb4i hb5l htl hb2l hb3l hnm hcl hb0l hHeld hlt hi h32 hk
            go_wp2
            go_roundw
            case rel => exact ⟨k + 1, b5, hkt, HB5L.out, by go_num, HCK2, HO, HB⟩
            case measure => simp [intOf]; exact left_lt hkt
          · obtain rfl : k = x.ps.length := by omega
            have hktb : decide ((x.ps.length : Int) < (x.ps.length : Int)) = false := decide_eq_false (by omega)
            have hck := HCK.out
            rw [List.take_length] at hck
            have HQ3 := Aside0.mk (show cu = (xs.take (i + 1)).foldl entB b0 by rw [hck]; exact HQ2.out)
            have hcu2 : cu.length ≤ cur.length + 10400 := by rw [hck]; exact HEN.out
            clear hck
            have HCU2 := Aside0.mk (show cu.length ≤ 8 + (i + 1) * 10400 by omega)
            have hwi := HWI.out
            clear hcul htl hb2l hb3l hpl hnm hcl hb0l hi hcu2
            go_wp2
            go_roundw
            case rel => exact ⟨i + 1, cu, hlt, HCU2.out, by go_num, HQ3, HO, HB⟩
            case measure => simp [intOf]; exact left_lt hlt
    · obtain rfl : i = xs.length := by omega
      have hltb : decide ((xs.length : Int) < (xs.length : Int)) = false := decide_eq_false (by omega)
      have hcu := HCU.out
      rw [List.take_length, HB0.out] at hcu
      have HCF := Aside0.mk (show putB xs = cur from hcu.symm)
      clear hcu
      go_wp2
      go_ret2
      exact ⟨_, rfl, R_bd HO.out _ HCF.out, HB.out⟩
theorem nput_calls {A : Option Addr} {c : Nat} {xs : List En} {w : World} (h : Kd.C kEn w A xs.length xs) (hs : Szd xs) :
    Calls Try.prog 21 #[.slice A xs.length c] w fun e w' => ∃ V, e = .returned (.tuple #[V, .int .i64 (putP xs).2]) ∧ Kd.R (Kd.int .u8) 5 w' w.heap.size (fun _ => True) V (putP xs).1 ∧ Below w.heap.size w w' := by
  unfold putP
  by_cases h32 : 32 < xs.length
  · rw [if_pos h32]
    have b1 : decide ((32 : Int) < (xs.length : Int)) = true := decide_eq_true (by omega)
    clear h hs h32
    go_enter Try.func21, Try.ntmps21
    go_wp2
    go_ret2
    exact ⟨_, rfl, Kd.R_nil _ _ _ _ _, Below.refl _ _⟩
  · rw [if_neg h32]
    by_cases hr : risingP xs = 0
    · rw [if_neg (by omega)]
      exact put_ok h hs (by omega) hr
    · rw [if_pos hr]
      have HL := Aside0.mk h
      have HSZ := Aside0.mk hs
      have HB := Aside0.mk (Below.refl w.heap.size w)
      have b1 : decide ((32 : Int) < (xs.length : Int)) = false := decide_eq_false (by omega)
      have b2 : (risingP xs != 0) = true := bne_iff_ne.mpr hr
      have b3 : (risingP xs == 0) = false := beq_eq_false_iff_ne.mpr hr
      have HRS := Aside0.mk (rfl : risingP xs = risingP xs)
      clear h hs h32 hr
      go_enter Try.func21, Try.ntmps21
      go_wp2_with (first | (go_at_call 28; with_reducible refine (rising_calls HL.out HSZ.out).mono ?_; rintro e w1 ⟨rfl, hb⟩; have n0_ := Aside0.mk (below_step HB.out hb); clear HB hb; have HB := n0_; clear n0_))
      go_ret2
      exact ⟨_, rfl, Kd.R_nil _ _ _ _ _, HB.out⟩
end Go.Proofs.Ytphpinfingaffaa.Law
