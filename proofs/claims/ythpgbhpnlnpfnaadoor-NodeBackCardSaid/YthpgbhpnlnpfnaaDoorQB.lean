/- The document's Put: the walk. -/
import Derived.Test.YthpgbhpnlnpfnaaDoorQA
import Derived.Laws.StructEq
import Derived.Test.YthpgbhpnlnpfnaaDoorWEqStruct

namespace Go.Proofs.YthpgbhpnlnpfnaaDoor.Law
open Go.RowKit Go.Proofs.YthpgbhpnlnpfnaaDoor Go.Proofs.YthpgbhpnlnpfnaaDoorW.PrintWords Go.Proofs.YthpgbhpnlnpfnaaDoorW.PrintLast Go.Proofs.YthpgbhpnlnpfnaaDoorW.PrintMore Go.Proofs.YthpgbhpnlnpfnaaDoor.E
set_option linter.unusedSimpArgs false
set_option linter.unusedVariables false
theorem old_cell {w w' : World} {a : Addr} {v : Value} (hb : Below w.heap.size w w') (h : w.cell? a = some v) : w'.cell? a = some v := (hb.cell (World.block_lt_of_cell? w _ h)).trans h
theorem run_load_ad {P : Program} {o : Oper} {ev : Operand → Value} {w : World} (ty : TypeId) (x : Operand) (ho : o.op = .load ty x) (ad : Addr) (hx : ev x = .pointer (some ad)) (vs : List Value) (d : TypeDesc)
    (hc : ∀ j v, vs[j]? = some v → w.cell? (ad.add j) = some v) (hu : P.underlying ty = some d) (hd : (match d with | .struct _ | .array _ _ => true | _ => false) = true)
    (hi : (P.info? ty).map (·.size) = some vs.length) : (execOp ev o).run P w = .ok (.value (.agg vs.toArray)) w := by
  have hl : (loadVar ty ad).run P w = .ok (.agg vs.toArray) w := by
    have hl : (loadCells ad vs.length).run P w = .ok vs.toArray w := run_loadCells_list (P := P) w ad vs hc
    cases hq : P.info? ty with
    | none => simp [hq] at hi
    | some i =>
      have hs : i.size = vs.length := by simpa [hq] using hi
      have hagg : (isAgg ty).run P w = .ok true w := by
        unfold isAgg
        rw [Sem.run_bind, run_underlying hu w]
        cases d <;> simp_all
      simp [loadVar, Sem.run_bind, hagg, sizeOf, typeInfo, hq, hs, hl]
  unfold execOp
  simp only [ho, hx, Instr.loadAt, Instr.sureAddr, Sem.run_bind, Sem.run_pure, Result.andThen_ok, hl]
theorem u8s_get2 {l : List Int} {j : Nat} {v : Value} (h : (u8s l)[j]? = some v) : j < l.length ∧ v = .int .u8 (l.getD j 0) := by
  unfold u8s at h
  rw [List.getElem?_map] at h
  obtain ⟨x, h1, rfl⟩ := Option.map_eq_some_iff.mp h
  obtain ⟨hj, e⟩ := List.getElem?_eq_some_iff.mp h1
  exact ⟨hj, by rw [List.getD_eq_getElem?_getD, h1]; rfl⟩
theorem putP_many {xs : List En} (h : 32 < xs.length) : putP xs = ([], 21) := by unfold putP; rw [if_pos h]
theorem putP_may {xs : List En} {x : En} (h : ¬ 32 < xs.length) (hx : x ∈ xs) (hm : mayB x = false) : putP xs = ([], 1) := by
  unfold putP; rw [if_neg h, rising_no hx hm]; rfl
theorem putP_rise {xs : List En} (h : ¬ 32 < xs.length) (hm : ∀ x ∈ xs, mayB x = true) (hr : decide (RiseP xs) = false) : putP xs = ([], 19) := by
  unfold putP risingP; rw [if_neg h, if_pos hm, if_neg (of_decide_eq_false hr)]; rfl
theorem putP_ok {xs : List En} (h : ¬ 32 < xs.length) (hm : ∀ x ∈ xs, mayB x = true) (hr : decide (RiseP xs) = true) : putP xs = (putB xs, 0) := by
  unfold putP; rw [if_neg h, rising_ok hm (of_decide_eq_true hr)]; rfl
theorem rput_many {A : Option Addr} {c : Nat} {xs : List En} {w : World} (q : List Int × Int) (hq : putP xs = q) (h32 : 32 < xs.length) :
    Calls Tryd.prog 31 #[.slice A xs.length c] w fun e w' => ∃ V, e = .returned (.tuple #[V, .int .i64 q.2]) ∧ Kd.R (Kd.int .u8) 5 w' w.heap.size (fun _ => True) V q.1 ∧ Below w.heap.size w w' := by
  obtain rfl := (putP_many h32).symm.trans hq
  have b1 : decide ((32 : Int) < (xs.length : Int)) = true := decide_eq_true (by omega)
  clear h32 hq
  go_enter Tryd.func31, Tryd.ntmps31
  go_wp2
  go_ret2
  exact ⟨_, rfl, Kd.R_nil _ _ _ _ _, Below.refl _ _⟩
set_option maxHeartbeats 16000000 in
set_option maxRecDepth 100000 in
theorem rput_no {A : Option Addr} {c : Nat} {xs : List En} {w : World} (q : List Int × Int) (hq : putP xs = q) (h : Kd.C kEn w A xs.length xs) (hs : Szd xs) (hno : ¬ ((∀ y ∈ xs, mayB y = true) ∧ decide (RiseP xs) = true)) :
    Calls Tryd.prog 31 #[.slice A xs.length c] w fun e w' => ∃ V, e = .returned (.tuple #[V, .int .i64 q.2]) ∧ Kd.R (Kd.int .u8) 5 w' w.heap.size (fun _ => True) V q.1 ∧ Below w.heap.size w w' := by
  by_cases h32 : 32 < xs.length
  · exact rput_many q hq h32
  · have b1 : decide ((32 : Int) < (xs.length : Int)) = false := decide_eq_false (by omega)
    have HL := Aside0.mk h
    have HSZ := Aside0.mk hs
    have HQ0 := Aside0.mk hq
    have HN32 := Aside0.mk h32
    have HNO := Aside0.mk hno
    have HB := Aside0.mk (Below.refl w.heap.size w)
    have hle : xs.length ≤ 32 := by omega
    clear h hs hq h32 hno
    go_enter Tryd.func31, Tryd.ntmps31
    go_wp2
    clear b1
    go_loopw [4] (fun v4 wr => ∃ i : Nat, i ≤ xs.length ∧ v4 = .int .i64 i ∧ Aside0 (∀ x ∈ xs.take i, mayB x = true) ∧ Aside0 (Below w.heap.size w wr)) (fun v4 _ => xs.length - (intOf v4).toNat)
    case atStart => exact ⟨0, by omega, rfl, ⟨fun x hx => by cases hx⟩, HB⟩
    case round =>
      obtain ⟨i, hi, rfl, HP, HBn⟩ := hrel
      clear HB
      have HB := HBn
      clear HBn
      by_cases hlt : i < xs.length
      · have hltb : decide ((i : Int) < (xs.length : Int)) = true := decide_eq_true (by omega)
        have p1 : (0 ≤ (i : Int)) = True := eq_true (by omega)
        have p2 : ((i : Int) < (xs.length : Int)) = True := eq_true (by omega)
        have hwi : wrap64 ((i : Int) + 1) = (i : Int) + 1 := n64 (by omega) (by omega)
        obtain ⟨ad, A', c', rfl, hxt, hxl, hxp, hxc, _⟩ := at_En (Kd.C_below HL.out HB.out) hlt
        have HXT := Aside0.mk hxt
        have HXC := Aside0.mk hxc
        have HK := Aside0.mk (kEn_mk (w := wr) hxt hxl hxp)
        have HIN := Aside0.mk (rdEn_mem hlt)
        have HSX := Aside0.mk (HSZ.out.2 _ (rdEn_mem hlt))
        have HTK := Aside0.mk (take_rdEn hlt)
        clear hxt hxl hxp hxc
        generalize rdEn xs i = x at *
        cases hm : mayB x with
        | false =>
          have HM := Aside0.mk hm
          obtain rfl := (putP_may HN32.out HIN.out hm).symm.trans HQ0.out
          clear hm HQ0
          go_wp2_with (first | ((with_reducible refine gate_dst (N := 20) rfl ?_); refine load_enAt rfl (.tmp 19) rfl (ad.add (i * 35)) rfl x A' c' HXT.out HXC.out ?_) | (go_at_call 48; with_reducible refine (may_calls HK.out HSX.out.1 HSX.out.2).mono ?_; rw [HM.out]; rintro e w4 ⟨rfl, hb⟩; have n0_ := Aside0.mk (below_step HB.out hb); clear HB hb; have HB := n0_; clear n0_))
          go_ret2
          exact ⟨_, rfl, Kd.R_nil _ _ _ _ _, HB.out⟩
        | true =>
          have HM := Aside0.mk hm
          have HP2 := Aside0.mk (show ∀ y ∈ xs.take (i + 1), mayB y = true from fun y hy => by
            rw [HTK.out] at hy
            rcases List.mem_append.mp hy with h | h
            · exact HP.out y h
            · rw [List.mem_singleton.mp h]; exact HM.out)
          clear hm
          go_wp2_with (first | ((with_reducible refine gate_dst (N := 20) rfl ?_); refine load_enAt rfl (.tmp 19) rfl (ad.add (i * 35)) rfl x A' c' HXT.out HXC.out ?_) | (go_at_call 48; with_reducible refine (may_calls HK.out HSX.out.1 HSX.out.2).mono ?_; rw [HM.out]; rintro e w4 ⟨rfl, hb⟩; have n0_ := Aside0.mk (below_step HB.out hb); clear HB hb; have HB := n0_; clear n0_))
          go_roundw
          case rel => exact ⟨i + 1, by omega, by go_num, HP2, HB⟩
          case measure => simp [intOf]; omega
      · obtain rfl : i = xs.length := by omega
        have hltb : decide ((xs.length : Int) < (xs.length : Int)) = false := decide_eq_false (by omega)
        have HMA := Aside0.mk (show ∀ y ∈ xs, mayB y = true by have := HP.out; rwa [List.take_length] at this)
        clear HP
        cases hrd : decide (RiseP xs) with
        | false =>
          obtain rfl := (putP_rise HN32.out HMA.out hrd).symm.trans HQ0.out
          have HRD := Aside0.mk hrd
          clear hrd HQ0
          go_wp2_with (first | (go_at_call 49; with_reducible refine (rise_calls (Kd.C_below HL.out HB.out) HSZ.out).mono ?_; rw [HRD.out]; rintro e w1 ⟨rfl, hb⟩; have n0_ := Aside0.mk (below_step HB.out hb); clear HB hb; have HB := n0_; clear n0_))
          go_ret2
          exact ⟨_, rfl, Kd.R_nil _ _ _ _ _, HB.out⟩
        | true => exact absurd ⟨HMA.out, hrd⟩ HNO.out
set_option maxHeartbeats 16000000 in
set_option maxRecDepth 100000 in
theorem rput_ok {A : Option Addr} {c : Nat} {xs : List En} {w : World} (h : Kd.C kEn w A xs.length xs) (hs : Szd xs) (h32 : ¬ 32 < xs.length) (hma : ∀ y ∈ xs, mayB y = true) (hrd : decide (RiseP xs) = true) :
    Calls Tryd.prog 31 #[.slice A xs.length c] w fun e w' => ∃ V, e = .returned (.tuple #[V, .int .i64 0]) ∧ Kd.R (Kd.int .u8) 5 w' w.heap.size (fun _ => True) V (putB xs) ∧ Below w.heap.size w w' := by
  · have b1 : decide ((32 : Int) < (xs.length : Int)) = false := decide_eq_false (by omega)
    have HL := Aside0.mk h
    have HSZ := Aside0.mk hs
    have HMA := Aside0.mk hma
    have HRD := Aside0.mk hrd
    have HB := Aside0.mk (Below.refl w.heap.size w)
    have hle : xs.length ≤ 32 := by omega
    clear h hs h32 hma hrd
    go_enter Tryd.func31, Tryd.ntmps31
    go_wp2
    clear b1
    go_loopw [4] (fun v4 wr => ∃ i : Nat, i ≤ xs.length ∧ v4 = .int .i64 i ∧ Aside0 (Below w.heap.size w wr)) (fun v4 _ => xs.length - (intOf v4).toNat)
    case atStart => exact ⟨0, by omega, rfl, HB⟩
    case round =>
      obtain ⟨i, hi, rfl, HBn⟩ := hrel
      clear HB
      have HB := HBn
      clear HBn
      by_cases hlt : i < xs.length
      · have hltb : decide ((i : Int) < (xs.length : Int)) = true := decide_eq_true (by omega)
        have p1 : (0 ≤ (i : Int)) = True := eq_true (by omega)
        have p2 : ((i : Int) < (xs.length : Int)) = True := eq_true (by omega)
        have hwi : wrap64 ((i : Int) + 1) = (i : Int) + 1 := n64 (by omega) (by omega)
        obtain ⟨ad, A', c', rfl, hxt, hxl, hxp, hxc, _⟩ := at_En (Kd.C_below HL.out HB.out) hlt
        have HXT := Aside0.mk hxt
        have HXC := Aside0.mk hxc
        have HK := Aside0.mk (kEn_mk (w := wr) hxt hxl hxp)
        have HIN := Aside0.mk (rdEn_mem hlt)
        have HSX := Aside0.mk (HSZ.out.2 _ (rdEn_mem hlt))
        have HTK := Aside0.mk (take_rdEn hlt)
        clear hxt hxl hxp hxc
        have HM := Aside0.mk (HMA.out _ (rdEn_mem hlt))
        generalize rdEn xs i = x at *
        go_wp2_with (first | ((with_reducible refine gate_dst (N := 20) rfl ?_); refine load_enAt rfl (.tmp 19) rfl (ad.add (i * 35)) rfl x A' c' HXT.out HXC.out ?_) | (go_at_call 48; with_reducible refine (may_calls HK.out HSX.out.1 HSX.out.2).mono ?_; rw [HM.out]; rintro e w4 ⟨rfl, hb⟩; have n0_ := Aside0.mk (below_step HB.out hb); clear HB hb; have HB := n0_; clear n0_))
        go_roundw
        case rel => exact ⟨i + 1, by omega, by go_num, HB⟩
        case measure => simp [intOf]; omega
      · obtain rfl : i = xs.length := by omega
        have hltb : decide ((xs.length : Int) < (xs.length : Int)) = false := decide_eq_false (by omega)
        obtain ⟨b0, hb0⟩ : ∃ b0, b0 = numB [] (xs.length : Int) := ⟨_, rfl⟩
        have HB0 := Aside0.mk hb0
        have hb0l : b0.length ≤ 8 := by rw [hb0]; exact (numB_len [] (xs.length : Int)).2
        clear hb0
        go_wp2_with (first | (go_at_call 49; with_reducible refine (rise_calls (Kd.C_below HL.out HB.out) HSZ.out).mono ?_; rw [HRD.out]; rintro e w1 ⟨rfl, hb⟩; have n0_ := Aside0.mk (below_step HB.out hb); clear HB hb; have HB := n0_; clear n0_) | (go_at_call 40; (with_reducible refine (rnumber_calls (Rd.nil _) ?hl (xs.length : Int)).mono ?_); (case hl => decide); rintro e w2 ⟨V0, rfl, hv, hb⟩; rw [← HB0.out] at hv; have HO := Aside0.mk (Kd.R_lower hv HB.out.size); clear hv; have n0_ := Aside0.mk (below_step HB.out hb); clear HB hb; have HB := n0_; clear n0_))
        clear hltb hi
        go_loopw [5, 6] (fun v5 v6 wr => ∃ (i : Nat) (cur : List Int), i ≤ xs.length ∧ cur.length ≤ 8 + i * 10400 ∧ v6 = .int .i64 i ∧ Aside0 (cur = (xs.take i).foldl entB b0) ∧ Aside0 (Kd.R (Kd.int .u8) 5 wr w.heap.size (fun _ => True) v5 cur) ∧ Aside0 (Below w.heap.size w wr)) (fun _ v6 _ => xs.length - (intOf v6).toNat)
        case atStart => exact ⟨0, b0, by omega, by omega, rfl, ⟨rfl⟩, HO, HB⟩
        case round =>
          obtain ⟨i, cur, hi, hcl, rfl, HCU, HOn, HBn⟩ := hrel
          clear HB HO
          have HB := HBn
          have HO := HOn
          clear HBn HOn
          obtain ⟨V5, rfl⟩ : ∃ V, V = u5 := ⟨_, rfl⟩
          by_cases hlt : i < xs.length
          · have hltb : decide ((i : Int) < (xs.length : Int)) = true := decide_eq_true (by omega)
            have p1 : (0 ≤ (i : Int)) = True := eq_true (by omega)
            have p2 : ((i : Int) < (xs.length : Int)) = True := eq_true (by omega)
            have hwi : wrap64 ((i : Int) + 1) = (i : Int) + 1 := n64 (by omega) (by omega)
            obtain ⟨ad, A', c', rfl, hxt, hxl, hxp, hxc, hx0⟩ := at_En HL.out hlt
            have HXT := Aside0.mk hxt
            have HXP := Aside0.mk hxp
            have z0 := old_cell HB.out hx0
            have C1 := Aside0.mk (cell_fld (hxc 1 _ (enV_1 _ _ _)))
            have CP := Aside0.mk (cell_fld (hxc 34 _ (enV_34 _ _ _ hxt)))
            have CT := Aside0.mk (show ∀ j u, (u8s (rdEn xs i).tree)[j]? = some u → w.cell? ⟨(ad.add (i * 35)).block, (ad.add (i * 35)).off + 2 + j, none⟩ = some u from fun j u hu => by
              obtain ⟨h1, rfl⟩ := u8s_get2 hu
              rw [Nat.add_assoc]
              exact cell_fld (hxc (2 + j) _ (enV_id _ _ _ hxt j (by omega))))
            have hmay := HMA.out _ (rdEn_mem hlt)
            have HTK := Aside0.mk (take_rdEn hlt)
            have hen := entB_len (b := cur) hmay hxt (ids_C hxp)
            clear hxt hxl hxp hxc hx0
            generalize rdEn xs i = x at *
            have hnm := may_name hmay
            have HNS := Aside0.mk (show x.nm.size ≤ 140737488355328 by omega)
            have HL1 := Aside0.mk (show cur.length + (bytesOf x.nm).length < 140737488355000 by rw [bytesOf_len]; omega)
            have htl := textB_len cur (bytesOf x.nm)
            rw [bytesOf_len] at htl
            obtain ⟨b1, hb1⟩ : ∃ b1, b1 = textB cur (bytesOf x.nm) := ⟨_, rfl⟩
            have HC1 := Aside0.mk hb1
            rw [← hb1] at htl
            have HLA1 := Aside0.mk (show b1.length < 140737488355000 by omega)
            clear hb1
            cases hd : x.dir with
            | true =>
              have HD := Aside0.mk hd
              obtain ⟨b2, hb2⟩ : ∃ b2, b2 = numB b1 1 := ⟨_, rfl⟩
              have HC2 := Aside0.mk hb2
              have hb2l : b2.length ≤ b1.length + 8 := by rw [hb2]; exact (numB_len b1 1).2
              have HLA2 := Aside0.mk (show b2.length + 32 < 140737488355000 by omega)
              obtain ⟨b3, hb3⟩ : ∃ b3, b3 = b2 ++ x.tree := ⟨_, rfl⟩
              have HC3 := Aside0.mk hb3
              have he : entB cur x = b3 := by rw [entB_dir hd, hb3, hb2, HC1.out]
              rw [he] at hen
              have HQ2 := Aside0.mk (show b3 = (xs.take (i + 1)).foldl entB b0 by rw [HTK.out, List.foldl_append, ← HCU.out, List.foldl_cons, List.foldl_nil, he])
              have HB3L := Aside0.mk (show b3.length ≤ 8 + (i + 1) * 10400 by omega)
              clear hd he hb2 hb3 hmay hen htl hb2l hnm hcl hb0l
              go_wp2_with (first | ((with_reducible refine gate_dst (N := 41) rfl ?_); refine wpList_bytes rfl (.tmp 40) rfl x.nm rfl HNS.out ?_; intro VS w4 hvs hb; have HVS := Aside0.mk hvs; have n0_ := Aside0.mk (below_step (by repeat (first | (with_reducible first | exact HB.out | apply below_alloc | apply pw_below_drewN | apply below_drew1) | exact HB.out)) hb); have n1_ := Aside0.mk (Kd.R_below (by (with_reducible repeat (first | apply Kd.R_alloc | apply Kd.R_drewN | apply Kd.R_drew)); exact HO.out) hb); clear HB HO hb; have HB := n0_; have HO := n1_; clear n0_ n1_; clear hvs z0) | (go_at_call 39; (with_reducible refine (rputtext_calls (Rd.own HO.out) HVS.out ?hl).mono ?_); (case hl => exact HL1.out); rintro e w5 ⟨V1, rfl, hv, hb⟩; rw [← HC1.out] at hv; have HO1 := Aside0.mk (Kd.R_lower hv HB.out.size); clear HO hv; have HO := HO1; clear HO1; have n0_ := Aside0.mk (below_step HB.out hb); clear HB hb; have HB := n0_; clear n0_; have z1 := (old_cell HB.out C1.out).trans (congrArg (fun b => some (Value.bool b)) HD.out)))
              refine start_ (n := 9) (S := fun w' => (∀ j u, (u8s x.tree)[j]? = some u → w'.cell? ⟨(ad.add (i * 35)).block, (ad.add (i * 35)).off + 2 + j, none⟩ = some u)) (ds := []) #[false, false, false, false, false, false, false, false, false] (by kernel_rfl) rfl rfl ((fun j u h => old_cell (by repeat (first | (with_reducible first | exact HB.out | apply below_alloc | apply pw_below_drewN | apply below_drew1) | exact HB.out)) (CT.out j u h))) (fun hHeld => ?_)
              refine pure_ (i := 0) (N := some 48) (v := ?_) (a' := ?_) #[true, false, false, false, false, false, false, false, false] rfl rfl (by kernel_rfl) (fun _ _ _ h => h) (Or.inl ⟨by rfl, ?_⟩) ?_ ?_
              rotate_left
              · intro w'
                go_simp
                with_reducible rfl
              rotate_left
              · simp only [Act.put, List.setIfInBounds_toArray, List.set_cons_zero, List.set_cons_succ, i64_w, i32_w]
                rfl
              refine pure_ (i := 2) (N := some 50) (v := ?_) (a' := ?_) #[true, false, true, false, false, false, false, false, false] rfl rfl (by kernel_rfl) (fun _ _ _ h => h) (Or.inl ⟨by rfl, ?_⟩) ?_ ?_
              rotate_left
              · intro w'
                go_simp
                with_reducible rfl
              rotate_left
              · simp only [Act.put, List.setIfInBounds_toArray, List.set_cons_zero, List.set_cons_succ, i64_w, i32_w]
                rfl
              refine pure_ (i := 3) (N := some 51) (v := ?_) (a' := ?_) #[true, false, true, true, false, false, false, false, false] rfl rfl (by kernel_rfl) (fun _ _ _ h => h) (Or.inl ⟨by rfl, ?_⟩) ?_ ?_
              rotate_left
              · intro w'
                go_simp
                with_reducible rfl
              rotate_left
              · simp only [Act.put, List.setIfInBounds_toArray, List.set_cons_zero, List.set_cons_succ, i64_w, i32_w]
                rfl
              refine pure_ (i := 4) (N := some 52) (v := ?_) (a' := ?_) #[true, false, true, true, true, false, false, false, false] rfl rfl (by kernel_rfl) (fun _ _ _ h => h) (Or.inl ⟨by rfl, ?_⟩) ?_ ?_
              rotate_left
              · intro w'
                go_simp
                with_reducible rfl
              rotate_left
              · simp only [Act.put, List.setIfInBounds_toArray, List.set_cons_zero, List.set_cons_succ, i64_w, i32_w]
                rfl
              refine pure_ (i := 5) (N := some 53) (v := ?_) (a' := ?_) #[true, false, true, true, true, true, false, false, false] rfl rfl (by kernel_rfl) (fun _ _ _ h => h) (Or.inl ⟨by rfl, ?_⟩) ?_ ?_
              rotate_left
              · intro w'
                go_simp
                with_reducible rfl
              rotate_left
              · simp only [Act.put, List.setIfInBounds_toArray, List.set_cons_zero, List.set_cons_succ, i64_w, i32_w]
                rfl
              refine take_ (i := 6) (N := some 54) (v := ?_) (a' := ?_) #[true, false, true, true, true, true, true, false, false] rfl rfl (by kernel_rfl) (fun _ _ _ h => h) (Or.inl ⟨by rfl, ?_⟩) hHeld ?_ ?_
              rotate_left
              · intro w' s0
                refine run_load_ad 72 (.tmp 53) ?lo ⟨(ad.add (i * 35)).block, (ad.add (i * 35)).off + 2, none⟩ ?lx (u8s x.tree) _ ?lc Tryd.underlying72 rfl ?ls
                case lo => rfl
                case lx => rfl
                case lc => exact (fun j v hv => by rw [addr_add]; exact s0 j v hv)
                case ls => rw [u8s_len, HXT.out]; exact info23
              rotate_left
              · simp only [Act.put, List.setIfInBounds_toArray, List.set_cons_zero, List.set_cons_succ, i64_w, i32_w]
                rfl
              refine one_ (i := 1) (N := some 49) #[true, true, true, true, true, true, true, false, false] rfl rfl (by kernel_rfl) (by decide) (fun K hK => ?_)
              refine goes_ Tryd.func40 (by kernel_rfl) rfl #[V1, .int .i64 1] (by rfl) rfl rfl (by simp only [List.map_toArray, List.map_cons, List.map_nil]; rfl) ?_
              with_reducible refine (rnumber_calls (Rd.own (by (with_reducible repeat (first | apply Kd.R_alloc | apply Kd.R_drewN | apply Kd.R_drew)); exact HO.out)) HLA1.out 1).mono ?_
              rintro e w6 ⟨V6, rfl, hv, hb⟩
              refine ⟨_, rfl, ?_⟩
              rw [← HC2.out] at hv
              have HO1 := Aside0.mk (Kd.R_lower hv (below_size (by repeat (first | (with_reducible first | exact HB.out | apply below_alloc | apply pw_below_drewN | apply below_drew1) | exact HB.out))))
              clear HO hv
              have HO := HO1
              clear HO1
              have n0_ := Aside0.mk (below_step (by repeat (first | (with_reducible first | exact HB.out | apply below_alloc | apply pw_below_drewN | apply below_drew1) | exact HB.out)) hb)
              clear HB hb
              have HB := n0_
              clear n0_
              refine hK.out _ _ ((fun j u h => old_cell (by repeat (first | (with_reducible first | exact HB.out | apply below_alloc | apply pw_below_drewN | apply below_drew1) | exact HB.out)) (CT.out j u h))) (fun hHeld => ?_)
              clear hK K
              refine norm_ (a' := ?_) ?_ ?_
              rotate_left
              · show Act.put _ (some 49) _ = _
                simp only [Act.put, List.setIfInBounds_toArray, List.set_cons_zero, List.set_cons_succ, i64_w, i32_w]
                rfl
              refine one_ (i := 7) (N := some 55) #[true, true, true, true, true, true, true, true, false] rfl rfl (by kernel_rfl) (by decide) (fun K hK => ?_)
              refine goes_ Tryd.func50 (by kernel_rfl) rfl #[V6, .agg (u8s x.tree).toArray] (by rfl) rfl rfl (by simp only [List.map_toArray, List.map_cons, List.map_nil]; rfl) ?_
              with_reducible refine (putid_calls w.heap.size (by (with_reducible repeat (first | apply Kd.R_alloc | apply Kd.R_drewN | apply Kd.R_drew)); exact HO.out) (below_size (by repeat (first | (with_reducible first | exact HB.out | apply below_alloc | apply pw_below_drewN | apply below_drew1) | exact HB.out))) HXT.out HLA2.out).mono ?_
              rintro e w7 ⟨V7, rfl, hv, hb⟩
              refine ⟨_, rfl, ?_⟩
              rw [← HC3.out] at hv
              have HO1 := Aside0.mk hv
              clear HO hv
              have HO := HO1
              clear HO1
              have n0_ := Aside0.mk (Below.trans (by repeat (first | (with_reducible first | exact HB.out | apply below_alloc | apply pw_below_drewN | apply below_drew1) | exact HB.out)) hb)
              clear HB hb
              have HB := n0_
              clear n0_
              refine hK.out _ _ ((fun j u h => old_cell (by repeat (first | (with_reducible first | exact HB.out | apply below_alloc | apply pw_below_drewN | apply below_drew1) | exact HB.out)) (CT.out j u h))) (fun hHeld => ?_)
              clear hK K
              refine norm_ (a' := ?_) ?_ ?_
              rotate_left
              · show Act.put _ (some 55) _ = _
                simp only [Act.put, List.setIfInBounds_toArray, List.set_cons_zero, List.set_cons_succ, i64_w, i32_w]
                rfl
              refine pure_ (i := 8) (N := some 5) (v := ?_) (a' := ?_) #[true, true, true, true, true, true, true, true, true] rfl rfl (by kernel_rfl) (fun _ _ _ h => h) (Or.inl ⟨by rfl, ?_⟩) ?_ ?_
              rotate_left
              · intro w'
                go_simp
                with_reducible rfl
              rotate_left
              · simp only [Act.put, List.setIfInBounds_toArray, List.set_cons_zero, List.set_cons_succ, i64_w, i32_w]
                rfl
              refine done_ (by kernel_rfl) ?_
              go_wp2
              go_roundw
              case rel => exact ⟨i + 1, b3, hlt, HB3L.out, by go_num, HQ2, HO, HB⟩
              case measure => simp [intOf]; exact left_lt hlt
            | false =>
              have HD := Aside0.mk hd
              have hfine := may_file hmay hd
              obtain ⟨b2, hb2⟩ : ∃ b2, b2 = numB b1 0 := ⟨_, rfl⟩
              have HC2 := Aside0.mk hb2
              have hb2l : b2.length ≤ b1.length + 8 := by rw [hb2]; exact (numB_len b1 0).2
              have HLA2 := Aside0.mk (show b2.length < 140737488355000 by omega)
              obtain ⟨b3, hb3⟩ : ∃ b3, b3 = numB b2 (x.ps.length : Int) := ⟨_, rfl⟩
              have HC3 := Aside0.mk hb3
              have hb3l : b3.length ≤ b2.length + 8 := by rw [hb3]; exact (numB_len b2 (x.ps.length : Int)).2
              have he : entB cur x = pcsB b3 x.ps := by rw [entB_file hd, hb3, hb2, HC1.out]
              have hpl : x.ps.length ≤ 256 := hfine.2.1
              have HQ2 := Aside0.mk (show pcsB b3 x.ps = (xs.take (i + 1)).foldl entB b0 by rw [HTK.out, List.foldl_append, ← HCU.out, List.foldl_cons, List.foldl_nil, he])
              rw [he] at hen
              have HEN := Aside0.mk hen
              have hb3b : b3.length ≤ 1000000 := by omega
              have HCL := Aside0.mk (show cur.length ≤ 8 + i * 10400 from hcl)
              clear hd he hb2 hb3 hmay hfine hen htl hb2l hb3l hnm hcl hb0l
              go_wp2_with (first | ((with_reducible refine gate_dst (N := 41) rfl ?_); refine wpList_bytes rfl (.tmp 40) rfl x.nm rfl HNS.out ?_; intro VS w4 hvs hb; have HVS := Aside0.mk hvs; have n0_ := Aside0.mk (below_step (by repeat (first | (with_reducible first | exact HB.out | apply below_alloc | apply pw_below_drewN | apply below_drew1) | exact HB.out)) hb); have n1_ := Aside0.mk (Kd.R_below (by (with_reducible repeat (first | apply Kd.R_alloc | apply Kd.R_drewN | apply Kd.R_drew)); exact HO.out) hb); clear HB HO hb; have HB := n0_; have HO := n1_; clear n0_ n1_; clear hvs z0) | (go_at_call 39; (with_reducible refine (rputtext_calls (Rd.own HO.out) HVS.out ?hl).mono ?_); (case hl => exact HL1.out); rintro e w5 ⟨V1, rfl, hv, hb⟩; rw [← HC1.out] at hv; have HO1 := Aside0.mk (Kd.R_lower hv HB.out.size); clear HO hv; have HO := HO1; clear HO1; have n0_ := Aside0.mk (below_step HB.out hb); clear HB hb; have HB := n0_; clear n0_; have z1 := (old_cell HB.out C1.out).trans (congrArg (fun b => some (Value.bool b)) HD.out)))
              refine start_ (n := 10) (S := fun w' => w'.cell? ⟨(ad.add (i * 35)).block, (ad.add (i * 35)).off + 34, none⟩ = some (.slice A' x.ps.length c')) (ds := []) #[false, false, false, false, false, false, false, false, false, false] (by kernel_rfl) rfl rfl ((old_cell (by repeat (first | (with_reducible first | exact HB.out | apply below_alloc | apply pw_below_drewN | apply below_drew1) | exact HB.out)) CP.out)) (fun hHeld => ?_)
              refine pure_ (i := 0) (N := some 56) (v := ?_) (a' := ?_) #[true, false, false, false, false, false, false, false, false, false] rfl rfl (by kernel_rfl) (fun _ _ _ h => h) (Or.inl ⟨by rfl, ?_⟩) ?_ ?_
              rotate_left
              · intro w'
                go_simp
                with_reducible rfl
              rotate_left
              · simp only [Act.put, List.setIfInBounds_toArray, List.set_cons_zero, List.set_cons_succ, i64_w, i32_w]
                rfl
              refine pure_ (i := 2) (N := some 58) (v := ?_) (a' := ?_) #[true, false, true, false, false, false, false, false, false, false] rfl rfl (by kernel_rfl) (fun _ _ _ h => h) (Or.inl ⟨by rfl, ?_⟩) ?_ ?_
              rotate_left
              · intro w'
                go_simp
                with_reducible rfl
              rotate_left
              · simp only [Act.put, List.setIfInBounds_toArray, List.set_cons_zero, List.set_cons_succ, i64_w, i32_w]
                rfl
              refine pure_ (i := 3) (N := some 59) (v := ?_) (a' := ?_) #[true, false, true, true, false, false, false, false, false, false] rfl rfl (by kernel_rfl) (fun _ _ _ h => h) (Or.inl ⟨by rfl, ?_⟩) ?_ ?_
              rotate_left
              · intro w'
                go_simp
                with_reducible rfl
              rotate_left
              · simp only [Act.put, List.setIfInBounds_toArray, List.set_cons_zero, List.set_cons_succ, i64_w, i32_w]
                rfl
              refine pure_ (i := 4) (N := some 60) (v := ?_) (a' := ?_) #[true, false, true, true, true, false, false, false, false, false] rfl rfl (by kernel_rfl) (fun _ _ _ h => h) (Or.inl ⟨by rfl, ?_⟩) ?_ ?_
              rotate_left
              · intro w'
                go_simp
                with_reducible rfl
              rotate_left
              · simp only [Act.put, List.setIfInBounds_toArray, List.set_cons_zero, List.set_cons_succ, i64_w, i32_w]
                rfl
              refine pure_ (i := 5) (N := some 61) (v := ?_) (a' := ?_) #[true, false, true, true, true, true, false, false, false, false] rfl rfl (by kernel_rfl) (fun _ _ _ h => h) (Or.inl ⟨by rfl, ?_⟩) ?_ ?_
              rotate_left
              · intro w'
                go_simp
                with_reducible rfl
              rotate_left
              · simp only [Act.put, List.setIfInBounds_toArray, List.set_cons_zero, List.set_cons_succ, i64_w, i32_w]
                rfl
              refine take_ (i := 6) (N := some 62) (v := ?_) (a' := ?_) #[true, false, true, true, true, true, true, false, false, false] rfl rfl (by kernel_rfl) (fun _ _ _ h => h) (Or.inl ⟨by rfl, ?_⟩) hHeld ?_ ?_
              rotate_left
              · intro w' s0
                go_simp
                with_reducible rfl
              rotate_left
              · simp only [Act.put, List.setIfInBounds_toArray, List.set_cons_zero, List.set_cons_succ, i64_w, i32_w]
                rfl
              refine pure_ (i := 7) (N := some 63) (v := ?_) (a' := ?_) #[true, false, true, true, true, true, true, true, false, false] rfl rfl (by kernel_rfl) (fun _ _ _ h => h) (Or.inl ⟨by rfl, ?_⟩) ?_ ?_
              rotate_left
              · intro w'
                go_simp
                with_reducible rfl
              rotate_left
              · simp only [Act.put, List.setIfInBounds_toArray, List.set_cons_zero, List.set_cons_succ, i64_w, i32_w]
                rfl
              refine one_ (i := 1) (N := some 57) #[true, true, true, true, true, true, true, true, false, false] rfl rfl (by kernel_rfl) (by decide) (fun K hK => ?_)
              refine goes_ Tryd.func40 (by kernel_rfl) rfl #[V1, .int .i64 0] (by rfl) rfl rfl (by simp only [List.map_toArray, List.map_cons, List.map_nil]; rfl) ?_
              with_reducible refine (rnumber_calls (Rd.own (by (with_reducible repeat (first | apply Kd.R_alloc | apply Kd.R_drewN | apply Kd.R_drew)); exact HO.out)) HLA1.out 0).mono ?_
              rintro e w6 ⟨V6, rfl, hv, hb⟩
              refine ⟨_, rfl, ?_⟩
              rw [← HC2.out] at hv
              have HO1 := Aside0.mk (Kd.R_lower hv (below_size (by repeat (first | (with_reducible first | exact HB.out | apply below_alloc | apply pw_below_drewN | apply below_drew1) | exact HB.out))))
              clear HO hv
              have HO := HO1
              clear HO1
              have n0_ := Aside0.mk (below_step (by repeat (first | (with_reducible first | exact HB.out | apply below_alloc | apply pw_below_drewN | apply below_drew1) | exact HB.out)) hb)
              clear HB hb
              have HB := n0_
              clear n0_
              refine hK.out _ _ ((old_cell (by repeat (first | (with_reducible first | exact HB.out | apply below_alloc | apply pw_below_drewN | apply below_drew1) | exact HB.out)) CP.out)) (fun hHeld => ?_)
              clear hK K
              refine norm_ (a' := ?_) ?_ ?_
              rotate_left
              · show Act.put _ (some 57) _ = _
                simp only [Act.put, List.setIfInBounds_toArray, List.set_cons_zero, List.set_cons_succ, i64_w, i32_w]
                rfl
              refine one_ (i := 8) (N := some 64) #[true, true, true, true, true, true, true, true, true, false] rfl rfl (by kernel_rfl) (by decide) (fun K hK => ?_)
              refine goes_ Tryd.func40 (by kernel_rfl) rfl #[V6, .int .i64 (x.ps.length : Int)] (by rfl) rfl rfl (by simp only [List.map_toArray, List.map_cons, List.map_nil]; rfl) ?_
              with_reducible refine (rnumber_calls (Rd.own (by (with_reducible repeat (first | apply Kd.R_alloc | apply Kd.R_drewN | apply Kd.R_drew)); exact HO.out)) HLA2.out (x.ps.length : Int)).mono ?_
              rintro e w7 ⟨V7, rfl, hv, hb⟩
              refine ⟨_, rfl, ?_⟩
              rw [← HC3.out] at hv
              have HO1 := Aside0.mk (Kd.R_lower hv (below_size (by repeat (first | (with_reducible first | exact HB.out | apply below_alloc | apply pw_below_drewN | apply below_drew1) | exact HB.out))))
              clear HO hv
              have HO := HO1
              clear HO1
              have n0_ := Aside0.mk (below_step (by repeat (first | (with_reducible first | exact HB.out | apply below_alloc | apply pw_below_drewN | apply below_drew1) | exact HB.out)) hb)
              clear HB hb
              have HB := n0_
              clear n0_
              refine hK.out _ _ ((old_cell (by repeat (first | (with_reducible first | exact HB.out | apply below_alloc | apply pw_below_drewN | apply below_drew1) | exact HB.out)) CP.out)) (fun hHeld => ?_)
              clear hK K
              refine norm_ (a' := ?_) ?_ ?_
              rotate_left
              · show Act.put _ (some 64) _ = _
                simp only [Act.put, List.setIfInBounds_toArray, List.set_cons_zero, List.set_cons_succ, i64_w, i32_w]
                rfl
              refine pure_ (i := 9) (N := some 5) (v := ?_) (a' := ?_) #[true, true, true, true, true, true, true, true, true, true] rfl rfl (by kernel_rfl) (fun _ _ _ h => h) (Or.inl ⟨by rfl, ?_⟩) ?_ ?_
              rotate_left
              · intro w'
                go_simp
                with_reducible rfl
              rotate_left
              · simp only [Act.put, List.setIfInBounds_toArray, List.set_cons_zero, List.set_cons_succ, i64_w, i32_w]
                rfl
              refine done_ (by kernel_rfl) ?_
              go_wp2
              have HWI := Aside0.mk hwi
              clear hwi z1
              go_loopw [5, 7] (fun v5 v7 wk => ∃ (k : Nat) (cu : List Int), k ≤ x.ps.length ∧ cu.length ≤ b3.length + 40 * k ∧ v7 = .int .i64 k ∧ Aside0 (cu = pcsB b3 (x.ps.take k)) ∧ Aside0 (Kd.R (Kd.int .u8) 5 wk w.heap.size (fun _ => True) v5 cu) ∧ Aside0 (Below w.heap.size w wk)) (fun _ v7 _ => x.ps.length - (intOf v7).toNat)
              case atStart => exact ⟨0, b3, by omega, by omega, rfl, ⟨rfl⟩, HO, HB⟩
              case round =>
                obtain ⟨k, cu, hk, hcul, rfl, HCK, HOn, HBn⟩ := hrel
                clear HB HO
                have HB := HBn
                have HO := HOn
                clear HBn HOn
                obtain ⟨V8, rfl⟩ : ∃ V, V = u5 := ⟨_, rfl⟩
                have z34 := old_cell HB.out CP.out
                by_cases hkt : k < x.ps.length
                · have hktb : decide ((k : Int) < (x.ps.length : Int)) = true := decide_eq_true (by omega)
                  have q1 : (0 ≤ (k : Int)) = True := eq_true (by omega)
                  have q2 : ((k : Int) < (x.ps.length : Int)) = True := eq_true (by omega)
                  obtain ⟨ae, rfl, hil, hpc, _⟩ := at_Pc HXP.out hkt
                  have HIL := Aside0.mk hil
                  have CI := Aside0.mk (show ∀ j u, (u8s (rdPc x.ps k).id)[j]? = some u → w.cell? ((ae.add (k * 33)).add j) = some u from fun j u hu => by
                    obtain ⟨h1, rfl⟩ := u8s_get2 hu
                    exact hpc j _ (pcV_id hil (by omega)))
                  have CN0 := Aside0.mk (cell_fld (hpc 32 _ (pcV_32 hil)))
                  have HTP := Aside0.mk (take_rdPc hkt)
                  clear hpc
                  generalize rdPc x.ps k = p at *
                  obtain ⟨n, hn⟩ : ∃ n, n = p.n := ⟨_, rfl⟩
                  have CN := Aside0.mk (CN0.out.trans (congrArg (fun b => some (Value.int .i64 b)) hn.symm))
                  obtain ⟨b4, hb4⟩ : ∃ b4, b4 = cu ++ p.id := ⟨_, rfl⟩
                  have HC4 := Aside0.mk hb4
                  have hb4l : b4.length = cu.length + 32 := by rw [hb4, List.length_append, hil]
                  have hb4i : b4.length ≤ cu.length + 32 := Nat.le_of_eq hb4l
                  obtain ⟨b5, hb5⟩ : ∃ b5, b5 = numB b4 n := ⟨_, rfl⟩
                  have HC5 := Aside0.mk hb5
                  have hb5l : b5.length ≤ b4.length + 8 := by rw [hb5]; exact (numB_len b4 n).2
                  have HCK2 := Aside0.mk (show b5 = pcsB b3 (x.ps.take (k + 1)) by rw [HTP.out, pcsB_snoc, ← HCK.out, hb5, hb4, hn])
                  have HLA := Aside0.mk (show cu.length + 32 < 140737488355000 by omega)
                  have HLN := Aside0.mk (show b4.length < 140737488355000 by omega)
                  have HB5L := Aside0.mk (show b5.length ≤ b3.length + 40 * (k + 1) by omega)
                  have hwk : wrap64 ((k : Int) + 1) = (k : Int) + 1 := n64 (by omega) (by omega)
                  clear hn hb4 hb5 hb4l hil hcul hb4i hb5l hb3b CN0 hk hlt hi hpl
                  go_wp2
                  refine start_ (n := 22) (S := fun w' => w'.cell? ⟨(ad.add (i * 35)).block, (ad.add (i * 35)).off + 34, none⟩ = some (.slice (some ae) x.ps.length c') ∧ (∀ j u, (u8s p.id)[j]? = some u → w'.cell? ((ae.add (k * 33)).add j) = some u) ∧ w'.cell? ⟨(ae.add (k * 33)).block, (ae.add (k * 33)).off + 32, none⟩ = some (.int .i64 n)) (ds := []) #[false, false, false, false, false, false, false, false, false, false, false, false, false, false, false, false, false, false, false, false, false, false] (by kernel_rfl) rfl rfl ⟨(old_cell (by repeat (first | (with_reducible first | exact HB.out | apply below_alloc | apply pw_below_drewN | apply below_drew1) | exact HB.out)) CP.out), (fun j u h => old_cell (by repeat (first | (with_reducible first | exact HB.out | apply below_alloc | apply pw_below_drewN | apply below_drew1) | exact HB.out)) (CI.out j u h)), (old_cell (by repeat (first | (with_reducible first | exact HB.out | apply below_alloc | apply pw_below_drewN | apply below_drew1) | exact HB.out)) CN.out)⟩ (fun hHeld => ?_)
                  refine pure_ (i := 0) (N := some 75) (v := ?_) (a' := ?_) #[true, false, false, false, false, false, false, false, false, false, false, false, false, false, false, false, false, false, false, false, false, false] rfl rfl (by kernel_rfl) (fun _ _ _ h => h) (Or.inl ⟨by rfl, ?_⟩) ?_ ?_
                  rotate_left
                  · intro w'
                    go_simp
                    with_reducible rfl
                  rotate_left
                  · simp only [Act.put, List.setIfInBounds_toArray, List.set_cons_zero, List.set_cons_succ, i64_w, i32_w]
                    rfl
                  refine pure_ (i := 1) (N := some 76) (v := ?_) (a' := ?_) #[true, true, false, false, false, false, false, false, false, false, false, false, false, false, false, false, false, false, false, false, false, false] rfl rfl (by kernel_rfl) (fun _ _ _ h => h) (Or.inl ⟨by rfl, ?_⟩) ?_ ?_
                  rotate_left
                  · intro w'
                    go_simp
                    with_reducible rfl
                  rotate_left
                  · simp only [Act.put, List.setIfInBounds_toArray, List.set_cons_zero, List.set_cons_succ, i64_w, i32_w]
                    rfl
                  refine pure_ (i := 2) (N := some 77) (v := ?_) (a' := ?_) #[true, true, true, false, false, false, false, false, false, false, false, false, false, false, false, false, false, false, false, false, false, false] rfl rfl (by kernel_rfl) (fun _ _ _ h => h) (Or.inl ⟨by rfl, ?_⟩) ?_ ?_
                  rotate_left
                  · intro w'
                    go_simp
                    with_reducible rfl
                  rotate_left
                  · simp only [Act.put, List.setIfInBounds_toArray, List.set_cons_zero, List.set_cons_succ, i64_w, i32_w]
                    rfl
                  refine pure_ (i := 3) (N := some 78) (v := ?_) (a' := ?_) #[true, true, true, true, false, false, false, false, false, false, false, false, false, false, false, false, false, false, false, false, false, false] rfl rfl (by kernel_rfl) (fun _ _ _ h => h) (Or.inl ⟨by rfl, ?_⟩) ?_ ?_
                  rotate_left
                  · intro w'
                    go_simp
                    with_reducible rfl
                  rotate_left
                  · simp only [Act.put, List.setIfInBounds_toArray, List.set_cons_zero, List.set_cons_succ, i64_w, i32_w]
                    rfl
                  refine pure_ (i := 4) (N := some 79) (v := ?_) (a' := ?_) #[true, true, true, true, true, false, false, false, false, false, false, false, false, false, false, false, false, false, false, false, false, false] rfl rfl (by kernel_rfl) (fun _ _ _ h => h) (Or.inl ⟨by rfl, ?_⟩) ?_ ?_
                  rotate_left
                  · intro w'
                    go_simp
                    with_reducible rfl
                  rotate_left
                  · simp only [Act.put, List.setIfInBounds_toArray, List.set_cons_zero, List.set_cons_succ, i64_w, i32_w]
                    rfl
                  refine pure_ (i := 6) (N := some 81) (v := ?_) (a' := ?_) #[true, true, true, true, true, false, true, false, false, false, false, false, false, false, false, false, false, false, false, false, false, false] rfl rfl (by kernel_rfl) (fun _ _ _ h => h) (Or.inl ⟨by rfl, ?_⟩) ?_ ?_
                  rotate_left
                  · intro w'
                    go_simp
                    with_reducible rfl
                  rotate_left
                  · simp only [Act.put, List.setIfInBounds_toArray, List.set_cons_zero, List.set_cons_succ, i64_w, i32_w]
                    rfl
                  refine pure_ (i := 11) (N := some 86) (v := ?_) (a' := ?_) #[true, true, true, true, true, false, true, false, false, false, false, true, false, false, false, false, false, false, false, false, false, false] rfl rfl (by kernel_rfl) (fun _ _ _ h => h) (Or.inl ⟨by rfl, ?_⟩) ?_ ?_
                  rotate_left
                  · intro w'
                    go_simp
                    with_reducible rfl
                  rotate_left
                  · simp only [Act.put, List.setIfInBounds_toArray, List.set_cons_zero, List.set_cons_succ, i64_w, i32_w]
                    rfl
                  refine pure_ (i := 12) (N := some 87) (v := ?_) (a' := ?_) #[true, true, true, true, true, false, true, false, false, false, false, true, true, false, false, false, false, false, false, false, false, false] rfl rfl (by kernel_rfl) (fun _ _ _ h => h) (Or.inl ⟨by rfl, ?_⟩) ?_ ?_
                  rotate_left
                  · intro w'
                    go_simp
                    with_reducible rfl
                  rotate_left
                  · simp only [Act.put, List.setIfInBounds_toArray, List.set_cons_zero, List.set_cons_succ, i64_w, i32_w]
                    rfl
                  refine pure_ (i := 13) (N := some 88) (v := ?_) (a' := ?_) #[true, true, true, true, true, false, true, false, false, false, false, true, true, true, false, false, false, false, false, false, false, false] rfl rfl (by kernel_rfl) (fun _ _ _ h => h) (Or.inl ⟨by rfl, ?_⟩) ?_ ?_
                  rotate_left
                  · intro w'
                    go_simp
                    with_reducible rfl
                  rotate_left
                  · simp only [Act.put, List.setIfInBounds_toArray, List.set_cons_zero, List.set_cons_succ, i64_w, i32_w]
                    rfl
                  refine pure_ (i := 14) (N := some 89) (v := ?_) (a' := ?_) #[true, true, true, true, true, false, true, false, false, false, false, true, true, true, true, false, false, false, false, false, false, false] rfl rfl (by kernel_rfl) (fun _ _ _ h => h) (Or.inl ⟨by rfl, ?_⟩) ?_ ?_
                  rotate_left
                  · intro w'
                    go_simp
                    with_reducible rfl
                  rotate_left
                  · simp only [Act.put, List.setIfInBounds_toArray, List.set_cons_zero, List.set_cons_succ, i64_w, i32_w]
                    rfl
                  refine pure_ (i := 16) (N := some 91) (v := ?_) (a' := ?_) #[true, true, true, true, true, false, true, false, false, false, false, true, true, true, true, false, true, false, false, false, false, false] rfl rfl (by kernel_rfl) (fun _ _ _ h => h) (Or.inl ⟨by rfl, ?_⟩) ?_ ?_
                  rotate_left
                  · intro w'
                    go_simp
                    with_reducible rfl
                  rotate_left
                  · simp only [Act.put, List.setIfInBounds_toArray, List.set_cons_zero, List.set_cons_succ, i64_w, i32_w]
                    rfl
                  refine take_ (i := 5) (N := some 80) (v := ?_) (a' := ?_) #[true, true, true, true, true, true, true, false, false, false, false, true, true, true, true, false, true, false, false, false, false, false] rfl rfl (by kernel_rfl) (fun _ _ _ h => h) (Or.inl ⟨by rfl, ?_⟩) hHeld ?_ ?_
                  rotate_left
                  · rintro w' ⟨s0, s1, s2⟩
                    go_simp
                    with_reducible rfl
                  rotate_left
                  · simp only [Act.put, List.setIfInBounds_toArray, List.set_cons_zero, List.set_cons_succ, i64_w, i32_w]
                    rfl
                  refine pure_ (i := 7) (N := some 82) (v := ?_) (a' := ?_) #[true, true, true, true, true, true, true, true, false, false, false, true, true, true, true, false, true, false, false, false, false, false] rfl rfl (by kernel_rfl) (fun _ _ _ h => h) (Or.inl ⟨by rfl, ?_⟩) ?_ ?_
                  rotate_left
                  · intro w'
                    go_simp
                    with_reducible rfl
                  rotate_left
                  · simp only [Act.put, List.setIfInBounds_toArray, List.set_cons_zero, List.set_cons_succ, i64_w, i32_w]
                    rfl
                  refine pure_ (i := 8) (N := some 83) (v := ?_) (a' := ?_) #[true, true, true, true, true, true, true, true, true, false, false, true, true, true, true, false, true, false, false, false, false, false] rfl rfl (by kernel_rfl) (fun _ _ _ h => h) (Or.inl ⟨by rfl, ?_⟩) ?_ ?_
                  rotate_left
                  · intro w'
                    go_simp
                    with_reducible rfl
                  rotate_left
                  · simp only [Act.put, List.setIfInBounds_toArray, List.set_cons_zero, List.set_cons_succ, i64_w, i32_w]
                    rfl
                  refine take_ (i := 9) (N := some 84) (v := ?_) (a' := ?_) #[true, true, true, true, true, true, true, true, true, true, false, true, true, true, true, false, true, false, false, false, false, false] rfl rfl (by kernel_rfl) (fun _ _ _ h => h) (Or.inl ⟨by rfl, ?_⟩) hHeld ?_ ?_
                  rotate_left
                  · rintro w' ⟨s0, s1, s2⟩
                    refine run_load_ad 72 (.tmp 83) ?lo (ae.add (k * 33)) ?lx (u8s p.id) _ ?lc Tryd.underlying72 rfl ?ls
                    case lo => rfl
                    case lx => rfl
                    case lc => exact s1
                    case ls => rw [u8s_len, HIL.out]; exact info23
                  rotate_left
                  · simp only [Act.put, List.setIfInBounds_toArray, List.set_cons_zero, List.set_cons_succ, i64_w, i32_w]
                    rfl
                  refine take_ (i := 15) (N := some 90) (v := ?_) (a' := ?_) #[true, true, true, true, true, true, true, true, true, true, false, true, true, true, true, true, true, false, false, false, false, false] rfl rfl (by kernel_rfl) (fun _ _ _ h => h) (Or.inl ⟨by rfl, ?_⟩) hHeld ?_ ?_
                  rotate_left
                  · rintro w' ⟨s0, s1, s2⟩
                    go_simp
                    with_reducible rfl
                  rotate_left
                  · simp only [Act.put, List.setIfInBounds_toArray, List.set_cons_zero, List.set_cons_succ, i64_w, i32_w]
                    rfl
                  refine pure_ (i := 17) (N := some 92) (v := ?_) (a' := ?_) #[true, true, true, true, true, true, true, true, true, true, false, true, true, true, true, true, true, true, false, false, false, false] rfl rfl (by kernel_rfl) (fun _ _ _ h => h) (Or.inl ⟨by rfl, ?_⟩) ?_ ?_
                  rotate_left
                  · intro w'
                    go_simp
                    with_reducible rfl
                  rotate_left
                  · simp only [Act.put, List.setIfInBounds_toArray, List.set_cons_zero, List.set_cons_succ, i64_w, i32_w]
                    rfl
                  refine pure_ (i := 18) (N := some 93) (v := ?_) (a' := ?_) #[true, true, true, true, true, true, true, true, true, true, false, true, true, true, true, true, true, true, true, false, false, false] rfl rfl (by kernel_rfl) (fun _ _ _ h => h) (Or.inl ⟨by rfl, ?_⟩) ?_ ?_
                  rotate_left
                  · intro w'
                    go_simp
                    with_reducible rfl
                  rotate_left
                  · simp only [Act.put, List.setIfInBounds_toArray, List.set_cons_zero, List.set_cons_succ, i64_w, i32_w]
                    rfl
                  refine take_ (i := 19) (N := some 94) (v := ?_) (a' := ?_) #[true, true, true, true, true, true, true, true, true, true, false, true, true, true, true, true, true, true, true, true, false, false] rfl rfl (by kernel_rfl) (fun _ _ _ h => h) (Or.inl ⟨by rfl, ?_⟩) hHeld ?_ ?_
                  rotate_left
                  · rintro w' ⟨s0, s1, s2⟩
                    go_simp
                    with_reducible rfl
                  rotate_left
                  · simp only [Act.put, List.setIfInBounds_toArray, List.set_cons_zero, List.set_cons_succ, i64_w, i32_w]
                    rfl
                  refine one_ (i := 10) (N := some 85) #[true, true, true, true, true, true, true, true, true, true, true, true, true, true, true, true, true, true, true, true, false, false] rfl rfl (by kernel_rfl) (by decide) (fun K hK => ?_)
                  refine goes_ Tryd.func50 (by kernel_rfl) rfl #[V8, .agg (u8s p.id).toArray] (by rfl) rfl rfl (by simp only [List.map_toArray, List.map_cons, List.map_nil]; rfl) ?_
                  with_reducible refine (putid_calls w.heap.size (by (with_reducible repeat (first | apply Kd.R_alloc | apply Kd.R_drewN | apply Kd.R_drew)); exact HO.out) (below_size (by repeat (first | (with_reducible first | exact HB.out | apply below_alloc | apply pw_below_drewN | apply below_drew1) | exact HB.out))) HIL.out HLA.out).mono ?_
                  rintro e w9 ⟨V9, rfl, hv, hb⟩
                  refine ⟨_, rfl, ?_⟩
                  rw [← HC4.out] at hv
                  have HO1 := Aside0.mk hv
                  clear HO hv
                  have HO := HO1
                  clear HO1
                  have n0_ := Aside0.mk (Below.trans (by repeat (first | (with_reducible first | exact HB.out | apply below_alloc | apply pw_below_drewN | apply below_drew1) | exact HB.out)) hb)
                  clear HB hb
                  have HB := n0_
                  clear n0_
                  refine hK.out _ _ ⟨(old_cell (by repeat (first | (with_reducible first | exact HB.out | apply below_alloc | apply pw_below_drewN | apply below_drew1) | exact HB.out)) CP.out), (fun j u h => old_cell (by repeat (first | (with_reducible first | exact HB.out | apply below_alloc | apply pw_below_drewN | apply below_drew1) | exact HB.out)) (CI.out j u h)), (old_cell (by repeat (first | (with_reducible first | exact HB.out | apply below_alloc | apply pw_below_drewN | apply below_drew1) | exact HB.out)) CN.out)⟩ (fun hHeld => ?_)
                  clear hK K
                  refine norm_ (a' := ?_) ?_ ?_
                  rotate_left
                  · show Act.put _ (some 85) _ = _
                    simp only [Act.put, List.setIfInBounds_toArray, List.set_cons_zero, List.set_cons_succ, i64_w, i32_w]
                    rfl
                  refine one_ (i := 20) (N := some 95) #[true, true, true, true, true, true, true, true, true, true, true, true, true, true, true, true, true, true, true, true, true, false] rfl rfl (by kernel_rfl) (by decide) (fun K hK => ?_)
                  refine goes_ Tryd.func40 (by kernel_rfl) rfl #[V9, .int .i64 n] (by rfl) rfl rfl (by simp only [List.map_toArray, List.map_cons, List.map_nil]; rfl) ?_
                  with_reducible refine (rnumber_calls (Rd.own (by (with_reducible repeat (first | apply Kd.R_alloc | apply Kd.R_drewN | apply Kd.R_drew)); exact HO.out)) HLN.out n).mono ?_
                  rintro e w11 ⟨V11, rfl, hv, hb⟩
                  refine ⟨_, rfl, ?_⟩
                  rw [← HC5.out] at hv
                  have HO1 := Aside0.mk (Kd.R_lower hv (below_size (by repeat (first | (with_reducible first | exact HB.out | apply below_alloc | apply pw_below_drewN | apply below_drew1) | exact HB.out))))
                  clear HO hv
                  have HO := HO1
                  clear HO1
                  have n0_ := Aside0.mk (below_step (by repeat (first | (with_reducible first | exact HB.out | apply below_alloc | apply pw_below_drewN | apply below_drew1) | exact HB.out)) hb)
                  clear HB hb
                  have HB := n0_
                  clear n0_
                  refine hK.out _ _ ⟨(old_cell (by repeat (first | (with_reducible first | exact HB.out | apply below_alloc | apply pw_below_drewN | apply below_drew1) | exact HB.out)) CP.out), (fun j u h => old_cell (by repeat (first | (with_reducible first | exact HB.out | apply below_alloc | apply pw_below_drewN | apply below_drew1) | exact HB.out)) (CI.out j u h)), (old_cell (by repeat (first | (with_reducible first | exact HB.out | apply below_alloc | apply pw_below_drewN | apply below_drew1) | exact HB.out)) CN.out)⟩ (fun hHeld => ?_)
                  clear hK K
                  refine norm_ (a' := ?_) ?_ ?_
                  rotate_left
                  · show Act.put _ (some 95) _ = _
                    simp only [Act.put, List.setIfInBounds_toArray, List.set_cons_zero, List.set_cons_succ, i64_w, i32_w]
                    rfl
                  refine pure_ (i := 21) (N := some 5) (v := ?_) (a' := ?_) #[true, true, true, true, true, true, true, true, true, true, true, true, true, true, true, true, true, true, true, true, true, true] rfl rfl (by kernel_rfl) (fun _ _ _ h => h) (Or.inl ⟨by rfl, ?_⟩) ?_ ?_
                  rotate_left
                  · intro w'
                    go_simp
                    with_reducible rfl
                  rotate_left
                  · simp only [Act.put, List.setIfInBounds_toArray, List.set_cons_zero, List.set_cons_succ, i64_w, i32_w]
                    rfl
                  refine done_ (by kernel_rfl) ?_
                  clear z34 hHeld
                  go_wp2
                  (try simp only [hwk])
                  go_roundw
                  case rel => exact ⟨k + 1, b5, hkt, HB5L.out, rfl, HCK2, HO, HB⟩
                  case measure => exact left_lt hkt
                · obtain rfl : k = x.ps.length := by omega
                  have hktb : decide ((x.ps.length : Int) < (x.ps.length : Int)) = false := decide_eq_false (by omega)
                  have hck := HCK.out
                  rw [List.take_length] at hck
                  have HQ3 := Aside0.mk (show cu = (xs.take (i + 1)).foldl entB b0 by rw [hck]; exact HQ2.out)
                  have hcu2 : cu.length ≤ cur.length + 10400 := by rw [hck]; exact HEN.out
                  clear hck
                  have HCU2 := Aside0.mk (show cu.length ≤ 8 + (i + 1) * 10400 by have := HCL.out; omega)
                  have hwi := HWI.out
                  clear hcul hb3b hpl hi hcu2
                  go_wp2
                  go_roundw
                  case rel => exact ⟨i + 1, cu, hlt, HCU2.out, by go_num, HQ3, HO, HB⟩
                  case measure => simp [intOf]; exact left_lt hlt
          · obtain rfl : i = xs.length := by omega
            have hltb : decide ((xs.length : Int) < (xs.length : Int)) = false := decide_eq_false (by omega)
            have hcu := HCU.out
            rw [List.take_length, HB0.out] at hcu
            have HCF := Aside0.mk (show putB xs = cur from hcu.symm)
            clear hcu
            go_wp2
            go_ret2
            exact ⟨_, rfl, R_bd HO.out _ HCF.out, HB.out⟩
theorem rput_calls {A : Option Addr} {c : Nat} {xs : List En} {w : World} (h : Kd.C kEn w A xs.length xs) (hs : Szd xs) :
    Calls Tryd.prog 31 #[.slice A xs.length c] w fun e w' => ∃ V, e = .returned (.tuple #[V, .int .i64 (putP xs).2]) ∧ Kd.R (Kd.int .u8) 5 w' w.heap.size (fun _ => True) V (putP xs).1 ∧ Below w.heap.size w w' := by
  by_cases hy : (∀ y ∈ xs, mayB y = true) ∧ decide (RiseP xs) = true
  · by_cases h32 : 32 < xs.length
    · exact rput_many _ rfl h32
    · rw [putP_ok h32 hy.1 hy.2]
      exact rput_ok h hs h32 hy.1 hy.2
  · exact rput_no _ rfl h hs hy
end Go.Proofs.YthpgbhpnlnpfnaaDoor.Law

namespace Go.Proofs.YthpgbhpnlnpfnaaDoor.Law
open Go.RowKit Go.Proofs.YthpgbhpnlnpfnaaDoor Go.Proofs.YthpgbhpnlnpfnaaDoorW.PrintWords Go.Proofs.YthpgbhpnlnpfnaaDoorW.PrintLast Go.Proofs.YthpgbhpnlnpfnaaDoorW.PrintMore Go.Proofs.YthpgbhpnlnpfnaaDoor.E
set_option linter.unusedSimpArgs false
set_option linter.unusedVariables false
theorem run_eqIdAt (d : Nat) (l : List Int) (hl : l.length = 32) (w : World) : (Op.equalIn (d + 2) 72 (.agg (u8s l).toArray) (.agg (u8s l).toArray)).run Tryd.prog w = .ok true w := by
  obtain ⟨i0, hi0⟩ : ∃ i, Tryd.prog.info? 5 = some i := by
    have h : (Tryd.prog.info? 5).isSome = true := by kernel_rfl
    exact Option.isSome_iff_exists.mp h
  have h1 := run_equalIn_array (P := Tryd.prog) (w := w) (d + 1) (u8s l).toArray (u8s l).toArray Tryd.underlying72 hi0
  have hc : Tryd.prog.cellsOf 5 = 1 := by kernel_rfl
  rw [hc, eqItems_u8 w d l l _ (fun j hj => by have := List.mem_range.mp hj; omega), all_getD hl hl, decide_eq_true rfl] at h1
  exact h1
theorem run_neId_same {o : Oper} {ev : Operand → Value} {w : World} (x y : Operand) (ho : o.op = .binOp .neq 72 x y 72) (l : List Int) (hl : l.length = 32) (hx : ev x = .agg (u8s l).toArray) (hy : ev y = .agg (u8s l).toArray) : (execOp ev o).run Tryd.prog w = .ok (.value (.bool false)) w := by
  have hg : (Tryd.prog.eqGuardType Tryd.prog.depth 72) = false := by kernel_rfl
  have h2 := run_eqIdAt 9998 l hl w
  unfold execOp
  simp only [ho, hx, hy, Sem.run_bind, eqGuard, binOp, Op.equal, Op.maxDepth]
  simp [Sem.run_bind, hg, h2]
theorem held78 : Tryd.prog.stoodInHeld 78 = false := by kernel_rfl
theorem run_part_id (w : World) (p : Pc) (hp : p.id.length = 32) : (part 72 (pcV p).toArray 0).run Tryd.prog w = .ok (.agg (u8s p.id).toArray) w := by
  have hagg : (isAgg 72).run Tryd.prog w = .ok true w := by
    unfold isAgg
    rw [Sem.run_bind, run_underlying Tryd.underlying72 w]
    rfl
  have hs : (sizeOf 72).run Tryd.prog w = .ok 32 w := by
    unfold sizeOf typeInfo
    have h := info23
    cases hq : Tryd.prog.info? 72 with
    | none => simp [hq] at h
    | some i => simp [hq] at h; simp [Sem.run_bind, hq, h]
  have he : List.take 32 (pcV p) = u8s p.id := by
    unfold pcV
    rw [List.take_append_of_le_length (by rw [u8s_len, hp]; exact Nat.le_refl _), List.take_of_length_le (by rw [u8s_len, hp]; exact Nat.le_refl _)]
  unfold part
  rw [Sem.run_bind, hagg]
  simp [Sem.run_bind, hs, he]
theorem run_part_n (w : World) (p : Pc) (hp : p.id.length = 32) : (part 3 (pcV p).toArray 32).run Tryd.prog w = .ok (.int .i64 p.n) w := by
  have hagg : (isAgg 3).run Tryd.prog w = .ok false w := by
    unfold isAgg
    rw [Sem.run_bind, run_underlying Tryd.underlying3 w]
    rfl
  have hg : (pcV p).toArray[32]? = some (.int .i64 p.n) := by rw [List.getElem?_toArray]; exact pcV_32 hp
  unfold part
  rw [Sem.run_bind, hagg]
  simp [hg]
set_option maxRecDepth 20000 in
theorem run_nePc_same {o : Oper} {ev : Operand → Value} {w : World} (x y : Operand) (ho : o.op = .binOp .neq 78 x y 78) (p : Pc) (hp : p.id.length = 32) (hx : ev x = .agg (pcV p).toArray) (hy : ev y = .agg (pcV p).toArray) : (execOp ev o).run Tryd.prog w = .ok (.value (.bool false)) w := by
  have hg : (Tryd.prog.eqGuardType Tryd.prog.depth 78) = false := by kernel_rfl
  have e0 := run_part_id w p hp
  have e1 := run_part_n w p hp
  have e2 := run_eqIdAt 9997 p.id hp w
  have e3 := run_equalIn_int (P := Tryd.prog) (w := w) 9998 3 .i64 .i64 p.n p.n Tryd.underlying3
  have hq : (Op.equalIn 10000 78 (.agg (pcV p).toArray) (.agg (pcV p).toArray)).run Tryd.prog w = .ok true w := by
    refine eqA_of (d := 9999) Tryd.underlying78 held78 ?_
    have e4 : (p.n == p.n) = true := beq_self_eq_true _
    rw [e4] at e3
    have e5 : (9997 : Nat) + 2 = 9999 := rfl
    have e6 : (9998 : Nat) + 1 = 9999 := rfl
    rw [e5] at e2
    rw [e6] at e3
    refine eqf_cons (r := true) (s := true) (a := .agg (u8s p.id).toArray) (b := .agg (u8s p.id).toArray) ?_ e0 e0 e2 (eqf_last (a := .int .i64 p.n) (b := .int .i64 p.n) ?_ e1 e1 e3)
    · rfl
    · rfl
  unfold execOp
  simp only [ho, hx, hy, Sem.run_bind, eqGuard, binOp, Op.equal, Op.maxDepth]
  simp [Sem.run_bind, hg, hq]
end Go.Proofs.YthpgbhpnlnpfnaaDoor.Law
