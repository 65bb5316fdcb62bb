/- Whether entries may be, and their names rise: the program's. -/
import Derived.Test.YtphpinfingaffaaMy
namespace Go.Proofs.Ytphpinfingaffaa.Law
open Go.RowKit Go.Proofs.Ytphpinfingaffaa Go.Proofs.YtphpinfingaffaaW.PrintWords Go.Proofs.YtphpinfingaffaaW.PrintLast Go.Proofs.YtphpinfingaffaaW.PrintMore Go.Proofs.Ytphpinfingaffaa.D
set_option linter.unusedSimpArgs false
set_option linter.unusedVariables false
def zEn : En := ⟨ByteArray.empty, false, zeros32, []⟩
def rdEn (xs : List En) (i : Nat) : En := xs.getD i zEn
theorem rdEn_mem {xs : List En} {i : Nat} (h : i < xs.length) : rdEn xs i ∈ xs := by
  unfold rdEn
  rw [List.getD_eq_getElem?_getD, List.getElem?_eq_getElem h]
  exact List.getElem_mem h
theorem take_rdEn {xs : List En} {i : Nat} (h : i < xs.length) : xs.take (i + 1) = xs.take i ++ [rdEn xs i] := by
  rw [List.take_succ_eq_append_getElem h]
  unfold rdEn
  rw [List.getD_eq_getElem?_getD, List.getElem?_eq_getElem h]; rfl
theorem rdEn_get {xs : List En} {i : Nat} (h : i < xs.length) : rdEn xs i = xs[i] := by
  unfold rdEn
  rw [List.getD_eq_getElem?_getD, List.getElem?_eq_getElem h]; rfl
/-- the i-th entry of a row that is read -/
theorem at_En {w : World} {A : Option Addr} {n : Nat} {xs : List En} (h : Kd.C kEn w A n xs) {i : Nat} (h1 : i < n) :
    ∃ ad A' c', A = some ad ∧ (rdEn xs i).tree.length = 32 ∧ (rdEn xs i).ps.length ≤ c' ∧ Kd.C kPc w A' (rdEn xs i).ps.length (rdEn xs i).ps ∧ (∀ j u, (enV (rdEn xs i) A' c')[j]? = some u → w.cell? ((ad.add (i * 35)).add j) = some u) ∧ w.cell? (ad.add (i * 35)) = some (.string (rdEn xs i).nm) := by
  obtain ⟨ad, c, e, _, hK, hc0⟩ := Kd.C_get h zEn (i : Int) (by omega) (by omega)
  have hc : ∀ j u, c[j]? = some u → w.cell? (ad.add (i * 35 + j)) = some u := hc0
  have hK' : kEn.K w (rdEn xs i) c := hK
  obtain ⟨A', c', rfl, h2, h3, h4⟩ := kEn_open hK'
  exact ⟨ad, A', c', e, h2, h3, h4, fun j u hu => by rw [add_add]; exact hc j u hu, hc 0 _ rfl⟩
theorem enV_one (x : En) (A : Option Addr) (c : Nat) : ∀ v ∈ enV x A c, v.oneCell' = true := fun v hv => by
  unfold enV at hv
  rcases List.mem_cons.mp hv with rfl | hv
  · rfl
  · rcases List.mem_cons.mp hv with rfl | hv
    · rfl
    · rcases List.mem_append.mp hv with h | h
      · exact u8s_one _ v h
      · rw [List.mem_singleton.mp h]; rfl
theorem info26z : (Try.prog.info? 26).map (·.zero) = some (some (.agg (enV zEn none 0).toArray)) := by kernel_rfl
section
variable {ops : Array Oper} {rest : List Oper} {o o2 : Oper} {a : Act} {w : World} {Q : Exit → Act → World → Prop}
/-- an element of a row of entries, loaded whole -/
theorem load_enAt (hgd : o.guard = none) (x : Operand) (ho : o.op = .load 26 x) (ad : Addr) (hx : a.eval x = .pointer (some ad)) (y : En) (A : Option Addr) (c : Nat) (hl : y.tree.length = 32) (hc : ∀ j u, (enV y A c)[j]? = some u → w.cell? (ad.add j) = some u)
    (h : wpList Try.prog ops Q rest (a.put o.dst (.agg (enV y A c).toArray)) w) : wpList Try.prog ops Q (o :: rest) a w :=
  wpList_load_at hgd 26 x ho ad hx (enV y A c) _ hc Try.underlying26 rfl (by rw [enV_len _ _ _ hl]; exact info26) h
/-- a new entry -/
theorem new_en (hgd : o.guard = none) (hgd2 : o2.guard = none) (ho : o.op = .alloc 26) (x y : Operand) (ho2 : o2.op = .store 26 x y) (hx : (a.put o.dst (.pointer (some ⟨w.heap.size, 0, none⟩))).eval x = .pointer (some ⟨w.heap.size, 0, none⟩))
    (p : En) (A : Option Addr) (c : Nat) (hl : p.tree.length = 32) (hy : (a.put o.dst (.pointer (some ⟨w.heap.size, 0, none⟩))).eval y = .agg (enV p A c).toArray)
    (h : ∀ w1 : World, w1.heap[w.heap.size]? = some (.cells (enV p A c).toArray 26 (0, 0)) → Below w.heap.size w w1 → w1.heap.size = w.heap.size + 1 → wpList Try.prog ops Q rest ((a.put o.dst (.pointer (some ⟨w.heap.size, 0, none⟩))).put o2.dst undef) w1) : wpList Try.prog ops Q (o :: o2 :: rest) a w :=
  wpList_new_row hgd hgd2 26 ho (.agg (enV zEn none 0).toArray) info26z x y ho2 hx (enV p A c) hy (by rw [enV_len _ _ _ hl]; exact info26) (by rw [enV_len _ _ _ hl]; rfl) (enV_one p A c) h
end
/-- what entries' names do -/
def RiseP (xs : List En) : Prop := ∀ i, i + 1 < xs.length → Op.bytesLess (rdEn xs i).nm.toList (rdEn xs (i + 1)).nm.toList = true
instance (xs : List En) : Decidable (RiseP xs) := decidable_of_iff (∀ i, i < xs.length → i + 1 < xs.length → Op.bytesLess (rdEn xs i).nm.toList (rdEn xs (i + 1)).nm.toList = true) ⟨fun h i hi => h i (by omega) hi, fun h i _ hi => h i hi⟩
/-- why entries may not be -/
def risingP (xs : List En) : Int := if ∀ x ∈ xs, mayB x = true then (if RiseP xs then 0 else 19) else 1
theorem rising_no {xs : List En} {x : En} (hx : x ∈ xs) (hm : mayB x = false) : risingP xs = 1 := by
  unfold risingP
  rw [if_neg (fun h => by rw [h x hx] at hm; cases hm)]
theorem rising_there {xs : List En} {i : Nat} (h : ∀ x ∈ xs, mayB x = true) (hi : i + 1 < xs.length) (hm : Op.bytesLess (rdEn xs i).nm.toList (rdEn xs (i + 1)).nm.toList = false) : risingP xs = 19 := by
  unfold risingP
  rw [if_pos h, if_neg (fun h => by rw [h i hi] at hm; cases hm)]
theorem rising_ok {xs : List En} (h : ∀ x ∈ xs, mayB x = true) (hr : RiseP xs) : risingP xs = 0 := by
  unfold risingP
  rw [if_pos h, if_pos hr]
theorem geq_str (a b : ByteArray) (t : TypeId) : binOp .geq t (.string a) (.string b) = pure (.bool !(Op.bytesLess a.toList b.toList)) := by simp [binOp, Op.stringOp]
/-- the sizes that entries have -/
def Szd (xs : List En) : Prop := xs.length ≤ 140737488355328 ∧ ∀ x ∈ xs, x.nm.size ≤ 140737488355328 ∧ x.ps.length ≤ 140737488355328
section
attribute [local go_sem] geq_str
set_option maxHeartbeats 4000000 in
set_option maxRecDepth 100000 in
theorem rising_calls {A : Option Addr} {c : Nat} {xs : List En} {w : World} (h : Kd.C kEn w A xs.length xs) (hs : Szd xs) :
    Calls Try.prog 28 #[.slice A xs.length c] w fun e w' => e = .returned (.int .i64 (risingP xs)) ∧ Below w.heap.size w w' := by
  have HL := Aside0.mk h
  have HSZ := Aside0.mk hs.2
  have hln := hs.1
  have HB := Aside0.mk (Below.refl w.heap.size w)
  clear h hs
  go_enter Try.func28, Try.ntmps28
  go_wp2
  go_loopw [8] (fun v8 wr => ∃ i : Nat, i ≤ xs.length ∧ v8 = .int .i64 i ∧ Aside0 (∀ x ∈ xs.take i, mayB x = true) ∧ Aside0 (Below w.heap.size w wr)) (fun v8 _ => xs.length - (intOf v8).toNat)
  case atStart => exact ⟨0, by omega, rfl, ⟨fun x hx => by cases hx⟩, HB⟩
  case round =>
    obtain ⟨i, hi, rfl, HP, HBn⟩ := hrel
    clear HB
    have HB := HBn
    clear HBn
    by_cases hlt : i < xs.length
    · have hltb : decide ((i : Int) < (xs.length : Int)) = true := decide_eq_true (by omega)
      have p1 : (0 ≤ (i : Int)) = True := eq_true (by omega)
      have p2 : ((i : Int) < (xs.length : Int)) = True := eq_true (by omega)
      have hwi : wrap64 ((i : Int) + 1) = (i : Int) + 1 := n64 (by omega) (by omega)
      obtain ⟨ad, A', c', rfl, hxt, hxl, hxp, hxc, _⟩ := at_En (Kd.C_below HL.out HB.out) hlt
      have HXT := Aside0.mk hxt
      have HXL := Aside0.mk hxl
      have HXP := Aside0.mk hxp
      have HXC := Aside0.mk hxc
      have HIN := Aside0.mk (rdEn_mem hlt)
      have HSX := Aside0.mk (HSZ.out _ (rdEn_mem hlt))
      have HTK := Aside0.mk (take_rdEn hlt)
      clear hxt hxl hxp hxc
      generalize rdEn xs i = x at *
      cases hm : mayB x with
      | false =>
        have HM := Aside0.mk hm
        have HRS := Aside0.mk (rising_no HIN.out hm)
        clear hm
        go_wp2_with (first | ((with_reducible refine gate_dst (N := 11) rfl ?_); refine load_enAt rfl (.tmp 10) rfl (ad.add (i * 35)) rfl x A' c' HXT.out HXC.out ?_) | ((with_reducible refine gate_dst (N := 4) rfl ?_); refine new_en rfl rfl rfl (.tmp 4) (.tmp 11) rfl rfl x A' c' HXT.out rfl ?_; intro w3 hk hb hsz; have E := Aside0.mk (EnAt.mk hk HXT.out HXL.out (Kd.C_below HXP.out hb)); have nB_ := Aside0.mk (below_step HB.out hb); clear HB hb; have HB := nB_; clear nB_; clear hk hsz) | ((with_reducible refine gate_dst (N := 12) rfl ?_); refine load_en rfl (.tmp 4) rfl wr.heap.size rfl E.out ?_) | (go_at_call 38; with_reducible refine (rgt_calls E.out.K HSX.out.1 HSX.out.2).mono ?_; rw [HM.out]; rintro e w4 ⟨rfl, hb⟩; have nB_ := Aside0.mk (below_step HB.out hb); clear HB hb; have HB := nB_; clear nB_))
        go_ret
        exact ⟨by rw [HRS.out]; rfl, HB.out⟩
      | true =>
        have HM := Aside0.mk hm
        have HP2 := Aside0.mk (show ∀ y ∈ xs.take (i + 1), mayB y = true from fun y hy => by
          rw [HTK.out] at hy
          rcases List.mem_append.mp hy with h | h
          · exact HP.out y h
          · rw [List.mem_singleton.mp h]; exact HM.out)
        clear hm
        go_wp2_with (first | ((with_reducible refine gate_dst (N := 11) rfl ?_); refine load_enAt rfl (.tmp 10) rfl (ad.add (i * 35)) rfl x A' c' HXT.out HXC.out ?_) | ((with_reducible refine gate_dst (N := 4) rfl ?_); refine new_en rfl rfl rfl (.tmp 4) (.tmp 11) rfl rfl x A' c' HXT.out rfl ?_; intro w3 hk hb hsz; have E := Aside0.mk (EnAt.mk hk HXT.out HXL.out (Kd.C_below HXP.out hb)); have nB_ := Aside0.mk (below_step HB.out hb); clear HB hb; have HB := nB_; clear nB_; clear hk hsz) | ((with_reducible refine gate_dst (N := 12) rfl ?_); refine load_en rfl (.tmp 4) rfl wr.heap.size rfl E.out ?_) | (go_at_call 38; with_reducible refine (rgt_calls E.out.K HSX.out.1 HSX.out.2).mono ?_; rw [HM.out]; rintro e w4 ⟨rfl, hb⟩; have nB_ := Aside0.mk (below_step HB.out hb); clear HB hb; have HB := nB_; clear nB_))
        go_roundw
        case rel => exact ⟨i + 1, by omega, by go_num, HP2, HB⟩
        case measure => simp [intOf]; omega
    · obtain rfl : i = xs.length := by omega
      have hltb : decide ((xs.length : Int) < (xs.length : Int)) = false := decide_eq_false (by omega)
      have HPA := Aside0.mk (show ∀ y ∈ xs, mayB y = true by have := HP.out; rwa [List.take_length] at this)
      clear HP
      go_wp2
      clear hltb
      go_loopw [18] (fun v18 wr => ∃ i : Nat, i ≤ xs.length ∧ v18 = .int .i64 i ∧ Aside0 (∀ j, j + 1 < i → Op.bytesLess (rdEn xs j).nm.toList (rdEn xs (j + 1)).nm.toList = true) ∧ Aside0 (Below w.heap.size w wr)) (fun v18 _ => xs.length - (intOf v18).toNat)
      case atStart => exact ⟨0, by omega, rfl, ⟨fun j hj => by omega⟩, HB⟩
      case round =>
        obtain ⟨i, hi2, rfl, HP, HBn⟩ := hrel
        clear HB
        have HB := HBn
        clear HBn
        by_cases hlt : i < xs.length
        · have hltb : decide ((i : Int) < (xs.length : Int)) = true := decide_eq_true (by omega)
          have hwi : wrap64 ((i : Int) + 1) = (i : Int) + 1 := n64 (by omega) (by omega)
          rcases Nat.eq_zero_or_pos i with rfl | hpos
          · go_wp2
            go_quiet (fail)
            go_wp2
            have HB2 := Aside0.mk (pw_below_drewN HB.out nq)
            clear HP
            go_roundw
            case rel => exact ⟨1, by omega, by go_num, ⟨fun j hj => by omega⟩, HB2⟩
            case measure => simp [intOf]; omega
          · obtain ⟨k, rfl⟩ : ∃ k, i = k + 1 := ⟨i - 1, by omega⟩
            have HLr := Aside0.mk (Kd.C_below HL.out HB.out)
            obtain ⟨ad, _, _, rfl, _, _, _, _, hz1⟩ := at_En HLr.out (show k < xs.length by omega)
            obtain ⟨ad2, _, _, e2, _, _, _, _, hz2⟩ := at_En HLr.out hlt
            obtain rfl := Option.some.inj e2
            have p1 : (0 ≤ (k : Int)) = True := eq_true (by omega)
            have p2 : ((k : Int) < (xs.length : Int)) = True := eq_true (by omega)
            have p3 : (0 ≤ (k : Int) + 1) = True := eq_true (by omega)
            have p4 : ((k : Int) + 1 < (xs.length : Int)) = True := eq_true (by omega)
            have p5 : ((k : Int) + 1).toNat = k + 1 := by omega
            have p6 : (0 < (k : Int) + 1) = True := eq_true (by omega)
            have hwk : IntKind.i64.wrap (k : Int) = (k : Int) := Go.IntWalk.i64_in _ (by omega)
            have hs1 : (k : Int) + 1 - 1 = (k : Int) := by omega
            have HTH := Aside0.mk (fun hm => rising_there (i := k) HPA.out hlt hm)
            generalize hsa : (rdEn xs k).nm = sa at *
            generalize hsb : (rdEn xs (k + 1)).nm = sb at *
            have HSA := Aside0.mk hsa
            have HSB := Aside0.mk hsb
            clear hsa hsb hpos
            cases hm : Op.bytesLess sa.toList sb.toList with
            | false =>
              have HRS := Aside0.mk (HTH.out hm)
              have hmb : (!Op.bytesLess sa.toList sb.toList) = true := by rw [hm]; rfl
              go_wp2
              go_quiet (fail)
              go_wp2
              go_ret
              exact ⟨by rw [HRS.out]; rfl, pw_below_drewN HB.out _⟩
            | true =>
              have hmb : (!Op.bytesLess sa.toList sb.toList) = false := by rw [hm]; rfl
              have HP2 := Aside0.mk (show ∀ j, j + 1 < k + 1 + 1 → Op.bytesLess (rdEn xs j).nm.toList (rdEn xs (j + 1)).nm.toList = true from fun j hj => by
                by_cases e : j = k
                · subst e; rw [HSA.out, HSB.out]; exact hm
                · exact HP.out j (by omega))
              go_wp2
              go_quiet (fail)
              go_wp2
              have HB2 := Aside0.mk (pw_below_drewN HB.out nq)
              clear HP HTH
              go_roundw
              case rel => exact ⟨k + 1 + 1, by omega, by go_num, HP2, HB2⟩
              case measure => simp [intOf]; omega
        · obtain rfl : i = xs.length := by omega
          have hltb : decide ((xs.length : Int) < (xs.length : Int)) = false := decide_eq_false (by omega)
          have HRS := Aside0.mk (rising_ok HPA.out (fun j hj => HP.out j hj))
          clear HP
          go_wp2
          go_ret
          exact ⟨by rw [HRS.out]; rfl, HB.out⟩
end
end Go.Proofs.Ytphpinfingaffaa.Law
