/- Whether an entry may be: the program's and the document's. -/
import Derived.Test.YtphpinfingaffaaNm
namespace Go.Proofs.Ytphpinfingaffaa.Law
open Go.RowKit Go.Proofs.Ytphpinfingaffaa Go.Proofs.YtphpinfingaffaaW.PrintWords Go.Proofs.YtphpinfingaffaaW.PrintLast Go.Proofs.YtphpinfingaffaaW.PrintMore Go.Proofs.Ytphpinfingaffaa.D
set_option linter.unusedSimpArgs false
set_option linter.unusedVariables false
theorem add_add (ad : Addr) (m j : Nat) : (ad.add m).add j = ad.add (m + j) := by
  unfold Addr.add
  by_cases h : m = 0
  · subst h; simp
  · by_cases h' : j = 0
    · subst h'; simp [h]
    · have : ¬ m + j = 0 := by omega
      simp [h, h', this, Nat.add_assoc]
/-- a piece's cells -/
def pcV (p : Pc) : List Value := u8s p.id ++ [.int .i64 p.n]
theorem pcV_len {p : Pc} (h : p.id.length = 32) : (pcV p).length = 33 := by unfold pcV; rw [List.length_append, u8s_len, h]; rfl
theorem pcV_32 {p : Pc} (h : p.id.length = 32) : (pcV p)[32]? = some (.int .i64 p.n) := by
  unfold pcV
  rw [List.getElem?_append_right (by rw [u8s_len, h]; decide), u8s_len, h]; rfl
theorem pcV_id {p : Pc} (h : p.id.length = 32) {j : Nat} (hj : j < 32) : (pcV p)[j]? = some (.int .u8 (p.id.getD j 0)) := by
  unfold pcV
  rw [List.getElem?_append_left (by rw [u8s_len, h]; exact hj)]
  unfold u8s
  rw [List.getElem?_map, List.getElem?_eq_getElem (by omega), List.getD_eq_getElem?_getD, List.getElem?_eq_getElem (by omega)]; rfl
theorem pcV_one (p : Pc) : ∀ v ∈ pcV p, v.oneCell' = true := fun v hv => by
  rcases List.mem_append.mp hv with h | h
  · exact u8s_one _ v h
  · rw [List.mem_singleton.mp h]; rfl
def rdPc (ps : List Pc) (i : Nat) : Pc := ps.getD i zPc
theorem rdPc_mem {ps : List Pc} {i : Nat} (h : i < ps.length) : rdPc ps i ∈ ps := by
  unfold rdPc
  rw [List.getD_eq_getElem?_getD, List.getElem?_eq_getElem h]
  exact List.getElem_mem h
theorem take_rdPc {ps : List Pc} {i : Nat} (h : i < ps.length) : ps.take (i + 1) = ps.take i ++ [rdPc ps i] := by
  rw [List.take_succ_eq_append_getElem h]
  unfold rdPc
  rw [List.getD_eq_getElem?_getD, List.getElem?_eq_getElem h]; rfl
/-- the i-th piece of a row that is read -/
theorem at_Pc {w : World} {A : Option Addr} {n : Nat} {ps : List Pc} (h : Kd.C kPc w A n ps) {i : Nat} (h1 : i < n) :
    ∃ ad, A = some ad ∧ (rdPc ps i).id.length = 32 ∧ (∀ j u, (pcV (rdPc ps i))[j]? = some u → w.cell? ((ad.add (i * 33)).add j) = some u) ∧ w.cell? ⟨(ad.add (i * 33)).block, (ad.add (i * 33)).off + 32, none⟩ = some (.int .i64 (rdPc ps i).n) := by
  obtain ⟨ad, c, e, _, hK, hc0⟩ := Kd.C_get h zPc (i : Int) (by omega) (by omega)
  have hc : ∀ j u, c[j]? = some u → w.cell? (ad.add (i * 33 + j)) = some u := hc0
  have hK' : kPc.K w (rdPc ps i) c := hK
  obtain ⟨rfl, hl⟩ := kPc_open hK'
  refine ⟨ad, e, hl, fun j u hu => by rw [add_add]; exact hc j u hu, ?_⟩
  rw [← add_field _ _ 32 (by omega)]
  exact hc 32 _ (pcV_32 hl)
/-- how many bytes pieces have -/
def sumN (ps : List Pc) : Int := (ps.map (·.n)).sum
theorem sumN_snoc (l : List Pc) (p : Pc) : sumN (l ++ [p]) = sumN l + p.n := by unfold sumN; rw [List.map_append, List.sum_append]; simp
theorem sumN_nil : sumN [] = 0 := rfl
def okN (n : Int) : Prop := 1 ≤ n ∧ n ≤ 4096
theorem sumN_bd : ∀ {l : List Pc}, (∀ p ∈ l, okN p.n) → (l.length : Int) ≤ sumN l ∧ sumN l ≤ 4096 * l.length
  | [], _ => ⟨Int.le_refl _, Int.le_refl _⟩
  | p :: l, h => by
    have h1 := sumN_bd (l := l) (fun q hq => h q (List.mem_cons_of_mem _ hq))
    have h2 := h p List.mem_cons_self
    unfold okN at h2
    show _ ≤ (p.n + sumN l) ∧ (p.n + sumN l) ≤ _
    rw [List.length_cons]
    constructor <;> omega
/-- a file's pieces that may be -/
def FineP (x : En) : Prop := x.tree = zeros32 ∧ x.ps.length ≤ 256 ∧ (∀ p ∈ x.ps, okN p.n) ∧ sumN x.ps ≤ 8192
instance (n : Int) : Decidable (okN n) := by unfold okN; infer_instance
instance (x : En) : Decidable (FineP x) := by unfold FineP; infer_instance
/-- whether an entry may be -/
def mayB (x : En) : Bool := nameB x.nm && (if x.dir then decide (x.ps.length = 0) else decide (FineP x))
theorem may_noname {x : En} (h : nameB x.nm = false) : mayB x = false := by unfold mayB; rw [h]; rfl
theorem may_dir {x : En} (h : nameB x.nm = true) (hd : x.dir = true) : mayB x = decide (x.ps.length = 0) := by unfold mayB; rw [h, hd]; rfl
theorem may_no {x : En} (hd : x.dir = false) (hf : ¬ FineP x) : mayB x = false := by unfold mayB; rw [hd, decide_eq_false hf]; simp
theorem may_yes {x : En} (h : nameB x.nm = true) (hd : x.dir = false) (hf : FineP x) : mayB x = true := by unfold mayB; rw [h, hd, decide_eq_true hf]; rfl
theorem len_eq0 (n : Nat) : (((n : Int)) == 0) = decide (n = 0) := by
  rw [Bool.eq_iff_iff, beq_iff_eq, decide_eq_true_iff]; omega
theorem min2_nx (k k' : IntKind) (x y : Int) : Builtin.min2 (.int k x) (.int k' y) = pure (.int k (min x y)) := by rw [min2_int]; congr 2; omega
theorem info62z : (Try.prog.info? 62).map (·.zero) = some (some (.agg (pcV ⟨zeros32, 0⟩).toArray)) := by kernel_rfl
/-- a piece that lies in a block of its own -/
structure PcAt (w : World) (g : Nat) (p : Pc) : Prop where
  blk : w.heap[g]? = some (.cells (pcV p).toArray 62 (0, 0))
  il : p.id.length = 32
theorem PcAt.cell {w : World} {g : Nat} {p : Pc} (h : PcAt w g p) {j : Nat} {v : Value} (hv : (pcV p)[j]? = some v) : w.cell? ⟨g, j, none⟩ = some v := by
  rw [blk_cell h.blk j, List.getElem?_toArray, hv]
theorem PcAt.below {w w' : World} {g : Nat} {p : Pc} (h : PcAt w g p) (hb : Below w.heap.size w w') : PcAt w' g p := ⟨blk_below h.blk hb, h.il⟩
section
variable {ops : Array Oper} {rest : List Oper} {o o2 : Oper} {a : Act} {w : World} {Q : Exit → Act → World → Prop}
/-- an element of a row of pieces, loaded whole -/
theorem load_pc (hgd : o.guard = none) (x : Operand) (ho : o.op = .load 62 x) (ad : Addr) (hx : a.eval x = .pointer (some ad)) (p : Pc) (hl : p.id.length = 32) (hc : ∀ j u, (pcV p)[j]? = some u → w.cell? (ad.add j) = some u)
    (h : wpList Try.prog ops Q rest (a.put o.dst (.agg (pcV p).toArray)) w) : wpList Try.prog ops Q (o :: rest) a w :=
  wpList_load_at hgd 62 x ho ad hx (pcV p) _ hc Try.underlying62 rfl (by rw [pcV_len hl]; exact info62) h
/-- a new piece -/
theorem new_pc (hgd : o.guard = none) (hgd2 : o2.guard = none) (ho : o.op = .alloc 62) (x y : Operand) (ho2 : o2.op = .store 62 x y) (hx : (a.put o.dst (.pointer (some ⟨w.heap.size, 0, none⟩))).eval x = .pointer (some ⟨w.heap.size, 0, none⟩))
    (p : Pc) (hl : p.id.length = 32) (hy : (a.put o.dst (.pointer (some ⟨w.heap.size, 0, none⟩))).eval y = .agg (pcV p).toArray)
    (h : ∀ w1 : World, PcAt w1 w.heap.size p → Below w.heap.size w w1 → w1.heap.size = w.heap.size + 1 → wpList Try.prog ops Q rest ((a.put o.dst (.pointer (some ⟨w.heap.size, 0, none⟩))).put o2.dst undef) w1) : wpList Try.prog ops Q (o :: o2 :: rest) a w :=
  wpList_new_row hgd hgd2 62 ho (.agg (pcV ⟨zeros32, 0⟩).toArray) info62z x y ho2 hx (pcV p) hy (by rw [pcV_len hl]; exact info62) (by rw [pcV_len hl]; rfl) (pcV_one p) (fun w1 h1 h2 h3 => h w1 ⟨h1, hl⟩ h2 h3)
end
set_option maxHeartbeats 4000000 in
set_option maxRecDepth 100000 in
theorem may_calls {x : En} {cs : List Value} {w : World} (h : kEn.K w x cs) (hs : x.nm.size ≤ 140737488355328) (hp : x.ps.length ≤ 140737488355328) :
    Calls Try.prog 22 #[.agg cs.toArray] w fun e w' => e = .returned (.bool (mayB x)) ∧ Below w.heap.size w w' := by
  obtain ⟨A, c, rfl, ht, hc, hr⟩ := kEn_open h
  have HT := Aside0.mk ht
  have HC := Aside0.mk hc
  have HR := Aside0.mk hr
  clear h ht hc hr
  cases hnm : nameB x.nm with
  | false =>
    have HNM := Aside0.mk hnm
    have HM := Aside0.mk (may_noname hnm)
    clear hnm
    go_enter Try.func22, Try.ntmps22
    go_wp2_with (first | ((with_reducible refine gate_dst (N := 1) rfl ?_); refine wpList_box rfl 26 (.tmp 0) rfl (enV x A c) rfl ?_; intro w1 hk hb hs; have E := Aside0.mk (EnAt.mk hk HT.out HC.out (Kd.C_below HR.out hb)); have HB := Aside0.mk hb; have HZ := Aside0.mk hs; have z0 := E.out.cell (enV_0 x _ _); have z1 := E.out.cell (enV_1 x _ _); have z34 := E.out.cell (enV_34 x _ _ HT.out); clear hk hb hs) | (go_at_call 31; with_reducible refine (rname_calls x.nm hs _).mono ?_; rw [HNM.out]; rintro e w2 ⟨rfl, hb⟩; have nB_ := Aside0.mk (below_step HB.out hb); have nE_ := Aside0.mk (E.out.below hb); clear HB E z0 z1 z34 hb; have HB := nB_; have E := nE_; clear nB_ nE_; have z0 := E.out.cell (enV_0 x _ _); have z1 := E.out.cell (enV_1 x _ _); have z34 := E.out.cell (enV_34 x _ _ HT.out)) | (rw [HNM.out]))
    go_ret
    exact ⟨by rw [HM.out]; rfl, HB.out⟩
  | true =>
  have HNM := Aside0.mk hnm
  cases hd : x.dir with
  | true =>
    have HM := Aside0.mk (may_dir hnm hd)
    have HD := Aside0.mk hd
    clear hnm hd
    go_enter Try.func22, Try.ntmps22
    go_wp2_with (first | ((with_reducible refine gate_dst (N := 1) rfl ?_); refine wpList_box rfl 26 (.tmp 0) rfl (enV x A c) rfl ?_; intro w1 hk hb hs; have E := Aside0.mk (EnAt.mk hk HT.out HC.out (Kd.C_below HR.out hb)); have HB := Aside0.mk hb; have HZ := Aside0.mk hs; have z0 := E.out.cell (enV_0 x _ _); have z1 := (E.out.cell (enV_1 x _ _)).trans (congrArg (fun b => some (Value.bool b)) HD.out); have z34 := E.out.cell (enV_34 x _ _ HT.out); clear hk hb hs) | (go_at_call 31; with_reducible refine (rname_calls x.nm hs _).mono ?_; rw [HNM.out]; rintro e w2 ⟨rfl, hb⟩; have nB_ := Aside0.mk (below_step HB.out hb); have nE_ := Aside0.mk (E.out.below hb); clear HB E z0 z1 z34 hb; have HB := nB_; have E := nE_; clear nB_ nE_; have z0 := E.out.cell (enV_0 x _ _); have z1 := (E.out.cell (enV_1 x _ _)).trans (congrArg (fun b => some (Value.bool b)) HD.out); have z34 := E.out.cell (enV_34 x _ _ HT.out)) | (rw [HNM.out]))
    go_ret
    exact ⟨by rw [HM.out, ← len_eq0]; rfl, HB.out⟩
  | false =>
    have HD := Aside0.mk hd
    clear hd hnm
    have hz : x.tree = zeros32 ∨ ¬ x.tree = zeros32 := Decidable.em _
    rcases hz with hz | hz
    · have HTZ := Aside0.mk (show (!decide (x.tree = zeros32)) = false by rw [decide_eq_true hz]; rfl)
      have HTE := Aside0.mk hz
      clear hz
      by_cases h256 : x.ps.length ≤ 256
      · have b1 : decide ((256 : Int) < (x.ps.length : Int)) = false := decide_eq_false (by omega)
        go_enter Try.func22, Try.ntmps22
        go_wp2_with (first | ((with_reducible refine gate_dst (N := 1) rfl ?_); refine wpList_box rfl 26 (.tmp 0) rfl (enV x A c) rfl ?_; intro w1 hk hb hs; have E := Aside0.mk (EnAt.mk hk HT.out HC.out (Kd.C_below HR.out hb)); have HB := Aside0.mk hb; have HZ := Aside0.mk hs; have z0 := E.out.cell (enV_0 x _ _); have z1 := (E.out.cell (enV_1 x _ _)).trans (congrArg (fun b => some (Value.bool b)) HD.out); have z34 := E.out.cell (enV_34 x _ _ HT.out); clear hk hb hs) | (go_at_call 31; with_reducible refine (rname_calls x.nm hs _).mono ?_; rw [HNM.out]; rintro e w2 ⟨rfl, hb⟩; have nB_ := Aside0.mk (below_step HB.out hb); have nE_ := Aside0.mk (E.out.below hb); clear HB E z0 z1 z34 hb; have HB := nB_; have E := nE_; clear nB_ nE_; have z0 := E.out.cell (enV_0 x _ _); have z1 := (E.out.cell (enV_1 x _ _)).trans (congrArg (fun b => some (Value.bool b)) HD.out); have z34 := E.out.cell (enV_34 x _ _ HT.out)) | (rw [HNM.out]) | ((with_reducible refine gate_dst (N := 16) rfl ?_); refine wpList_load_part rfl 23 (.tmp 15) rfl w.heap.size 2 rfl (u8s x.tree) _ E.out.tree Try.underlying23 rfl (by rw [u8s_len, HT.out]; exact info23) ?_) | ((with_reducible refine gate_dst (N := 18) rfl ?_); refine wpList_neId rfl (.tmp 16) (.tmp 17) rfl x.tree zeros32 HT.out rfl rfl rfl _ HTZ.out ?_))
        clear b1
        go_loop [3, 4] (fun v3 v4 => ∃ (i : Nat) (S : Int), i ≤ x.ps.length ∧ 0 ≤ S ∧ S ≤ 4096 * i ∧ v3 = .int .i64 S ∧ v4 = .int .i64 i ∧ Aside0 (S = sumN (x.ps.take i)) ∧ Aside0 (∀ p ∈ x.ps.take i, okN p.n)) (fun _ v4 => x.ps.length - (intOf v4).toNat)
        case atStart => exact ⟨0, 0, by omega, by omega, by omega, rfl, rfl, ⟨rfl⟩, ⟨fun p hp => by cases hp⟩⟩
        case round =>
          obtain ⟨i, S, hi, hS0, hS1, rfl, rfl, HS, HP⟩ := hrel
          by_cases hlt : i < x.ps.length
          · have hltb : decide ((i : Int) < (x.ps.length : Int)) = true := decide_eq_true (by omega)
            have p1 : (0 ≤ (i : Int)) = True := eq_true (by omega)
            have p2 : ((i : Int) < (x.ps.length : Int)) = True := eq_true (by omega)
            have hwi : wrap64 ((i : Int) + 1) = (i : Int) + 1 := n64 (by omega) (by omega)
            obtain ⟨ad, rfl, hil, _, hx⟩ := at_Pc E.out.rd hlt
            have HIN := Aside0.mk (rdPc_mem hlt)
            have HTK := Aside0.mk (take_rdPc hlt)
            clear hil
            generalize rdPc x.ps i = p at *
            obtain ⟨n, hn⟩ : ∃ n, n = p.n := ⟨_, rfl⟩
            rw [← hn] at hx
            have HNN := Aside0.mk hn
            clear hn
            by_cases c1 : n < 1
            · have HM := Aside0.mk (may_no HD.out (fun f => by have := f.2.2.1 p HIN.out; unfold okN at this; rw [← HNN.out] at this; omega))
              have d1 := decide_eq_true c1
              clear c1
              go_wp2
              go_ret
              exact ⟨by rw [HM.out]; rfl, HB.out⟩
            · have d1 := decide_eq_false c1
              by_cases c2 : 4096 < n
              · have HM := Aside0.mk (may_no HD.out (fun f => by have := f.2.2.1 p HIN.out; unfold okN at this; rw [← HNN.out] at this; omega))
                have d2 := decide_eq_true c2
                clear c1 c2
                go_wp2
                go_ret
                exact ⟨by rw [HM.out]; rfl, HB.out⟩
              · have d2 := decide_eq_false c2
                have hws : wrap64 (S + n) = S + n := n64 (by omega) (by omega)
                have HQ := Aside0.mk (show S + n = sumN (x.ps.take (i + 1)) by rw [HTK.out, sumN_snoc, ← HS.out, ← HNN.out])
                have HP2 := Aside0.mk (show ∀ q ∈ x.ps.take (i + 1), okN q.n from fun q hq => by
                  rw [HTK.out] at hq
                  rcases List.mem_append.mp hq with h | h
                  · exact HP.out q h
                  · rw [List.mem_singleton.mp h, ← HNN.out]; exact ⟨by omega, by omega⟩)
                go_wp2
                go_round
                case rel => exact ⟨i + 1, S + n, by omega, by omega, by omega, rfl, by go_num, HQ, HP2⟩
                case measure => simp [intOf]; omega
          · obtain rfl : i = x.ps.length := by omega
            have hltb : decide ((x.ps.length : Int) < (x.ps.length : Int)) = false := decide_eq_false (by omega)
            have hQ := HS.out
            rw [List.take_length] at hQ
            have hP := HP.out
            rw [List.take_length] at hP
            by_cases c3 : S ≤ 8192
            · have HM := Aside0.mk (may_yes HNM.out HD.out ⟨HTE.out, h256, hP, by rw [← hQ]; exact c3⟩)
              have d3 := decide_eq_true c3
              clear hQ hP c3 h256
              go_wp2
              go_ret
              exact ⟨by rw [HM.out]; rfl, HB.out⟩
            · have HM := Aside0.mk (may_no HD.out (fun f => c3 (by rw [hQ]; exact f.2.2.2)))
              have d3 := decide_eq_false c3
              clear hQ hP c3 h256
              go_wp2
              go_ret
              exact ⟨by rw [HM.out]; rfl, HB.out⟩
      · have b1 : decide ((256 : Int) < (x.ps.length : Int)) = true := decide_eq_true (by omega)
        have HM := Aside0.mk (may_no HD.out (fun f => h256 f.2.1))
        clear h256
        go_enter Try.func22, Try.ntmps22
        go_wp2_with (first | ((with_reducible refine gate_dst (N := 1) rfl ?_); refine wpList_box rfl 26 (.tmp 0) rfl (enV x A c) rfl ?_; intro w1 hk hb hs; have E := Aside0.mk (EnAt.mk hk HT.out HC.out (Kd.C_below HR.out hb)); have HB := Aside0.mk hb; have HZ := Aside0.mk hs; have z0 := E.out.cell (enV_0 x _ _); have z1 := (E.out.cell (enV_1 x _ _)).trans (congrArg (fun b => some (Value.bool b)) HD.out); have z34 := E.out.cell (enV_34 x _ _ HT.out); clear hk hb hs) | (go_at_call 31; with_reducible refine (rname_calls x.nm hs _).mono ?_; rw [HNM.out]; rintro e w2 ⟨rfl, hb⟩; have nB_ := Aside0.mk (below_step HB.out hb); have nE_ := Aside0.mk (E.out.below hb); clear HB E z0 z1 z34 hb; have HB := nB_; have E := nE_; clear nB_ nE_; have z0 := E.out.cell (enV_0 x _ _); have z1 := (E.out.cell (enV_1 x _ _)).trans (congrArg (fun b => some (Value.bool b)) HD.out); have z34 := E.out.cell (enV_34 x _ _ HT.out)) | (rw [HNM.out]) | ((with_reducible refine gate_dst (N := 16) rfl ?_); refine wpList_load_part rfl 23 (.tmp 15) rfl w.heap.size 2 rfl (u8s x.tree) _ E.out.tree Try.underlying23 rfl (by rw [u8s_len, HT.out]; exact info23) ?_) | ((with_reducible refine gate_dst (N := 18) rfl ?_); refine wpList_neId rfl (.tmp 16) (.tmp 17) rfl x.tree zeros32 HT.out rfl rfl rfl _ HTZ.out ?_))
        go_ret
        exact ⟨by rw [HM.out]; rfl, HB.out⟩
    · have HTZ := Aside0.mk (show (!decide (x.tree = zeros32)) = true by rw [decide_eq_false hz]; rfl)
      have HM := Aside0.mk (may_no HD.out (fun f => hz f.1))
      clear hz
      go_enter Try.func22, Try.ntmps22
      go_wp2_with (first | ((with_reducible refine gate_dst (N := 1) rfl ?_); refine wpList_box rfl 26 (.tmp 0) rfl (enV x A c) rfl ?_; intro w1 hk hb hs; have E := Aside0.mk (EnAt.mk hk HT.out HC.out (Kd.C_below HR.out hb)); have HB := Aside0.mk hb; have HZ := Aside0.mk hs; have z0 := E.out.cell (enV_0 x _ _); have z1 := (E.out.cell (enV_1 x _ _)).trans (congrArg (fun b => some (Value.bool b)) HD.out); have z34 := E.out.cell (enV_34 x _ _ HT.out); clear hk hb hs) | (go_at_call 31; with_reducible refine (rname_calls x.nm hs _).mono ?_; rw [HNM.out]; rintro e w2 ⟨rfl, hb⟩; have nB_ := Aside0.mk (below_step HB.out hb); have nE_ := Aside0.mk (E.out.below hb); clear HB E z0 z1 z34 hb; have HB := nB_; have E := nE_; clear nB_ nE_; have z0 := E.out.cell (enV_0 x _ _); have z1 := (E.out.cell (enV_1 x _ _)).trans (congrArg (fun b => some (Value.bool b)) HD.out); have z34 := E.out.cell (enV_34 x _ _ HT.out)) | (rw [HNM.out]) | ((with_reducible refine gate_dst (N := 16) rfl ?_); refine wpList_load_part rfl 23 (.tmp 15) rfl w.heap.size 2 rfl (u8s x.tree) _ E.out.tree Try.underlying23 rfl (by rw [u8s_len, HT.out]; exact info23) ?_) | ((with_reducible refine gate_dst (N := 18) rfl ?_); refine wpList_neId rfl (.tmp 16) (.tmp 17) rfl x.tree zeros32 HT.out rfl rfl rfl _ HTZ.out ?_))
      go_ret
      exact ⟨by rw [HM.out]; rfl, HB.out⟩
section
attribute [local go_sem] min2_nx
set_option maxHeartbeats 4000000 in
set_option maxRecDepth 100000 in
theorem rgt_calls {x : En} {cs : List Value} {w : World} (h : kEn.K w x cs) (hs : x.nm.size ≤ 140737488355328) (hp : x.ps.length ≤ 140737488355328) :
    Calls Try.prog 38 #[.agg cs.toArray] w fun e w' => e = .returned (.bool (mayB x)) ∧ Below w.heap.size w w' := by
  obtain ⟨A, c, rfl, ht, hc, hr⟩ := kEn_open h
  have HT := Aside0.mk ht
  have HC := Aside0.mk hc
  have HR := Aside0.mk hr
  clear h ht hc hr
  cases hnm : nameB x.nm with
  | false =>
    have HNM := Aside0.mk hnm
    have HM := Aside0.mk (may_noname hnm)
    clear hnm
    go_enter Try.func38, Try.ntmps38
    go_wp2_with (first | ((with_reducible refine gate_dst (N := 1) rfl ?_); refine wpList_box rfl 26 (.tmp 0) rfl (enV x A c) rfl ?_; intro w1 hk hb hs; have E := Aside0.mk (EnAt.mk hk HT.out HC.out (Kd.C_below HR.out hb)); have HB := Aside0.mk hb; have HZ := Aside0.mk hs; have z0 := E.out.cell (enV_0 x _ _); have z1 := E.out.cell (enV_1 x _ _); have z34 := E.out.cell (enV_34 x _ _ HT.out); clear hk hb hs) | (go_at_call 41; with_reducible refine (name_calls x.nm _).mono ?_; rw [HNM.out]; rintro e w2 ⟨rfl, hb⟩; have nB_ := Aside0.mk (below_step HB.out hb); have nE_ := Aside0.mk (E.out.below hb); clear HB E z0 z1 z34 hb; have HB := nB_; have E := nE_; clear nB_ nE_; have z0 := E.out.cell (enV_0 x _ _); have z1 := E.out.cell (enV_1 x _ _); have z34 := E.out.cell (enV_34 x _ _ HT.out)) | (rw [HNM.out]))
    go_ret
    exact ⟨by rw [HM.out]; rfl, HB.out⟩
  | true =>
  have HNM := Aside0.mk hnm
  cases hd : x.dir with
  | true =>
    have HM := Aside0.mk (may_dir hnm hd)
    have HD := Aside0.mk hd
    clear hnm hd
    go_enter Try.func38, Try.ntmps38
    go_wp2_with (first | ((with_reducible refine gate_dst (N := 1) rfl ?_); refine wpList_box rfl 26 (.tmp 0) rfl (enV x A c) rfl ?_; intro w1 hk hb hs; have E := Aside0.mk (EnAt.mk hk HT.out HC.out (Kd.C_below HR.out hb)); have HB := Aside0.mk hb; have HZ := Aside0.mk hs; have z0 := E.out.cell (enV_0 x _ _); have z1 := (E.out.cell (enV_1 x _ _)).trans (congrArg (fun b => some (Value.bool b)) HD.out); have z34 := E.out.cell (enV_34 x _ _ HT.out); clear hk hb hs) | (go_at_call 41; with_reducible refine (name_calls x.nm _).mono ?_; rw [HNM.out]; rintro e w2 ⟨rfl, hb⟩; have nB_ := Aside0.mk (below_step HB.out hb); have nE_ := Aside0.mk (E.out.below hb); clear HB E z0 z1 z34 hb; have HB := nB_; have E := nE_; clear nB_ nE_; have z0 := E.out.cell (enV_0 x _ _); have z1 := (E.out.cell (enV_1 x _ _)).trans (congrArg (fun b => some (Value.bool b)) HD.out); have z34 := E.out.cell (enV_34 x _ _ HT.out)) | (rw [HNM.out]))
    go_ret
    exact ⟨by rw [HM.out, ← len_eq0]; rfl, HB.out⟩
  | false =>
    have HD := Aside0.mk hd
    clear hd hnm
    go_enter Try.func38, Try.ntmps38
    go_wp2_with (first | ((with_reducible refine gate_dst (N := 1) rfl ?_); refine wpList_box rfl 26 (.tmp 0) rfl (enV x A c) rfl ?_; intro w1 hk hb hs; have E := Aside0.mk (EnAt.mk hk HT.out HC.out (Kd.C_below HR.out hb)); have HB := Aside0.mk hb; have HZ := Aside0.mk hs; have z0 := E.out.cell (enV_0 x _ _); have z1 := (E.out.cell (enV_1 x _ _)).trans (congrArg (fun b => some (Value.bool b)) HD.out); have z34 := E.out.cell (enV_34 x _ _ HT.out); clear hk hb hs) | (go_at_call 41; with_reducible refine (name_calls x.nm _).mono ?_; rw [HNM.out]; rintro e w2 ⟨rfl, hb⟩; have nB_ := Aside0.mk (below_step HB.out hb); have nE_ := Aside0.mk (E.out.below hb); clear HB E z0 z1 z34 hb; have HB := nB_; have E := nE_; clear nB_ nE_; have z0 := E.out.cell (enV_0 x _ _); have z1 := (E.out.cell (enV_1 x _ _)).trans (congrArg (fun b => some (Value.bool b)) HD.out); have z34 := E.out.cell (enV_34 x _ _ HT.out)) | (rw [HNM.out]))
    go_loopw [3, 19] (fun v3 v19 wr => ∃ (i : Nat) (T : Int), i ≤ x.ps.length ∧ 0 ≤ T ∧ T ≤ 8193 ∧ v3 = .int .i64 T ∧ v19 = .int .i64 i ∧ Aside0 (T = min (sumN (x.ps.take i)) 8193) ∧ Aside0 (∀ p ∈ x.ps.take i, okN p.n) ∧ Aside0 (EnAt wr w.heap.size x A c) ∧ Aside0 (Below w.heap.size w wr)) (fun _ v19 _ => x.ps.length - (intOf v19).toNat)
    case atStart => exact ⟨0, 0, by omega, by omega, by omega, rfl, rfl, ⟨rfl⟩, ⟨fun p hp => by cases hp⟩, E, HB⟩
    case round =>
      obtain ⟨i, T, hi, hT0, hT1, rfl, rfl, HS, HP, En, HBn⟩ := hrel
      clear E HB z0 z1 z34
      have E := En
      have HB := HBn
      clear En HBn
      have z0 := E.out.cell (enV_0 x _ _)
      have z1 := (E.out.cell (enV_1 x _ _)).trans (congrArg (fun b => some (Value.bool b)) HD.out)
      have z34 := E.out.cell (enV_34 x _ _ HT.out)
      by_cases hlt : i < x.ps.length
      · have hltb : decide ((i : Int) < (x.ps.length : Int)) = true := decide_eq_true (by omega)
        have p1 : (0 ≤ (i : Int)) = True := eq_true (by omega)
        have p2 : ((i : Int) < (x.ps.length : Int)) = True := eq_true (by omega)
        have hwi : wrap64 ((i : Int) + 1) = (i : Int) + 1 := n64 (by omega) (by omega)
        obtain ⟨ad, rfl, hil, hpc, _⟩ := at_Pc E.out.rd hlt
        have HIN := Aside0.mk (rdPc_mem hlt)
        have HTK := Aside0.mk (take_rdPc hlt)
        have HIL := Aside0.mk hil
        have HPC := Aside0.mk hpc
        clear hil hpc
        generalize rdPc x.ps i = p at *
        obtain ⟨n, hn⟩ : ∃ n, n = p.n := ⟨_, rfl⟩
        have HNN := Aside0.mk hn
        clear hn
        by_cases c1 : n < 1
        · have HM := Aside0.mk (may_no HD.out (fun f => by have := f.2.2.1 p HIN.out; unfold okN at this; rw [← HNN.out] at this; omega))
          have d1 := decide_eq_true c1
          clear c1
          go_wp2_with (first | ((with_reducible refine gate_dst (N := 22) rfl ?_); refine load_pc rfl (.tmp 21) rfl (ad.add (i * 33)) rfl p HIL.out HPC.out ?_) | ((with_reducible refine gate_dst (N := 5) rfl ?_); refine new_pc rfl rfl rfl (.tmp 5) (.tmp 22) rfl rfl p HIL.out rfl ?_; intro w3 hq hb hsz; have y32 := (hq.cell (pcV_32 hq.il)).trans (congrArg (fun b => some (Value.int .i64 b)) HNN.out.symm); have nB_ := Aside0.mk (below_step HB.out hb); have nE_ := Aside0.mk (E.out.below hb); clear HB E z0 z1 z34 hb; have HB := nB_; have E := nE_; clear nB_ nE_; have z0 := E.out.cell (enV_0 x _ _); have z1 := (E.out.cell (enV_1 x _ _)).trans (congrArg (fun b => some (Value.bool b)) HD.out); have z34 := E.out.cell (enV_34 x _ _ HT.out); clear hq hsz))
          go_ret
          exact ⟨by rw [HM.out]; rfl, HB.out⟩
        · have d1 := decide_eq_false c1
          by_cases c2 : 4096 < n
          · have HM := Aside0.mk (may_no HD.out (fun f => by have := f.2.2.1 p HIN.out; unfold okN at this; rw [← HNN.out] at this; omega))
            have d2 := decide_eq_true c2
            clear c1 c2
            go_wp2_with (first | ((with_reducible refine gate_dst (N := 22) rfl ?_); refine load_pc rfl (.tmp 21) rfl (ad.add (i * 33)) rfl p HIL.out HPC.out ?_) | ((with_reducible refine gate_dst (N := 5) rfl ?_); refine new_pc rfl rfl rfl (.tmp 5) (.tmp 22) rfl rfl p HIL.out rfl ?_; intro w3 hq hb hsz; have y32 := (hq.cell (pcV_32 hq.il)).trans (congrArg (fun b => some (Value.int .i64 b)) HNN.out.symm); have nB_ := Aside0.mk (below_step HB.out hb); have nE_ := Aside0.mk (E.out.below hb); clear HB E z0 z1 z34 hb; have HB := nB_; have E := nE_; clear nB_ nE_; have z0 := E.out.cell (enV_0 x _ _); have z1 := (E.out.cell (enV_1 x _ _)).trans (congrArg (fun b => some (Value.bool b)) HD.out); have z34 := E.out.cell (enV_34 x _ _ HT.out); clear hq hsz))
            go_ret
            exact ⟨by rw [HM.out]; rfl, HB.out⟩
          · have d2 := decide_eq_false c2
            have hws : wrap64 (T + n) = T + n := n64 (by omega) (by omega)
            have HQ := Aside0.mk (show min (T + n) 8193 = min (sumN (x.ps.take (i + 1))) 8193 by rw [HTK.out, sumN_snoc, ← HNN.out, HS.out]; omega)
            have HP2 := Aside0.mk (show ∀ q ∈ x.ps.take (i + 1), okN q.n from fun q hq => by
              rw [HTK.out] at hq
              rcases List.mem_append.mp hq with h | h
              · exact HP.out q h
              · rw [List.mem_singleton.mp h, ← HNN.out]; exact ⟨by omega, by omega⟩)
            go_wp2_with (first | ((with_reducible refine gate_dst (N := 22) rfl ?_); refine load_pc rfl (.tmp 21) rfl (ad.add (i * 33)) rfl p HIL.out HPC.out ?_) | ((with_reducible refine gate_dst (N := 5) rfl ?_); refine new_pc rfl rfl rfl (.tmp 5) (.tmp 22) rfl rfl p HIL.out rfl ?_; intro w3 hq hb hsz; have y32 := (hq.cell (pcV_32 hq.il)).trans (congrArg (fun b => some (Value.int .i64 b)) HNN.out.symm); have nB_ := Aside0.mk (below_step HB.out hb); have nE_ := Aside0.mk (E.out.below hb); clear HB E z0 z1 z34 hb; have HB := nB_; have E := nE_; clear nB_ nE_; have z0 := E.out.cell (enV_0 x _ _); have z1 := (E.out.cell (enV_1 x _ _)).trans (congrArg (fun b => some (Value.bool b)) HD.out); have z34 := E.out.cell (enV_34 x _ _ HT.out); clear hq hsz))
            go_roundw
            case rel => exact ⟨i + 1, min (T + n) 8193, by omega, by omega, by omega, congrArg (Value.int .i64) (by split <;> omega), by go_num, HQ, HP2, E, HB⟩
            case measure => simp [intOf]; omega
      · obtain rfl : i = x.ps.length := by omega
        have hltb : decide ((x.ps.length : Int) < (x.ps.length : Int)) = false := decide_eq_false (by omega)
        have hQ := HS.out
        rw [List.take_length] at hQ
        have hP := HP.out
        rw [List.take_length] at hP
        have hz : x.tree = zeros32 ∨ ¬ x.tree = zeros32 := Decidable.em _
        rcases hz with hz | hz
        · have HTZ := Aside0.mk (decide_eq_true hz)
          by_cases h256 : x.ps.length ≤ 256
          · have b1 : decide ((x.ps.length : Int) ≤ 256) = true := decide_eq_true (by omega)
            by_cases c3 : T ≤ 8192
            · have HM := Aside0.mk (may_yes HNM.out HD.out ⟨hz, h256, hP, by omega⟩)
              have d3 := decide_eq_true c3
              clear hQ hP c3 h256 hz
              go_wp2_with (first | ((with_reducible refine gate_dst (N := 38) rfl ?_); refine wpList_load_part rfl 23 (.tmp 37) rfl w.heap.size 2 rfl (u8s x.tree) _ E.out.tree Try.underlying23 rfl (by rw [u8s_len, HT.out]; exact info23) ?_) | ((with_reducible refine gate_dst (N := 40) rfl ?_); refine wpList_eqId rfl (.tmp 38) (.tmp 39) rfl x.tree zeros32 HT.out rfl rfl rfl _ HTZ.out ?_))
              go_ret
              exact ⟨by rw [HM.out]; rfl, HB.out⟩
            · have HM := Aside0.mk (may_no HD.out (fun f => c3 (by have := f.2.2.2; omega)))
              have d3 := decide_eq_false c3
              clear hQ hP c3 h256 hz
              go_wp2_with (first | ((with_reducible refine gate_dst (N := 38) rfl ?_); refine wpList_load_part rfl 23 (.tmp 37) rfl w.heap.size 2 rfl (u8s x.tree) _ E.out.tree Try.underlying23 rfl (by rw [u8s_len, HT.out]; exact info23) ?_) | ((with_reducible refine gate_dst (N := 40) rfl ?_); refine wpList_eqId rfl (.tmp 38) (.tmp 39) rfl x.tree zeros32 HT.out rfl rfl rfl _ HTZ.out ?_))
              go_ret
              exact ⟨by rw [HM.out]; rfl, HB.out⟩
          · have b1 : decide ((x.ps.length : Int) ≤ 256) = false := decide_eq_false (by omega)
            have HM := Aside0.mk (may_no HD.out (fun f => h256 f.2.1))
            clear hQ hP h256 hz
            go_wp2_with (first | ((with_reducible refine gate_dst (N := 38) rfl ?_); refine wpList_load_part rfl 23 (.tmp 37) rfl w.heap.size 2 rfl (u8s x.tree) _ E.out.tree Try.underlying23 rfl (by rw [u8s_len, HT.out]; exact info23) ?_) | ((with_reducible refine gate_dst (N := 40) rfl ?_); refine wpList_eqId rfl (.tmp 38) (.tmp 39) rfl x.tree zeros32 HT.out rfl rfl rfl _ HTZ.out ?_))
            go_ret
            exact ⟨by rw [HM.out]; rfl, HB.out⟩
        · have HTZ := Aside0.mk (decide_eq_false hz)
          have HM := Aside0.mk (may_no HD.out (fun f => hz f.1))
          clear hQ hP hz
          go_wp2_with (first | ((with_reducible refine gate_dst (N := 38) rfl ?_); refine wpList_load_part rfl 23 (.tmp 37) rfl w.heap.size 2 rfl (u8s x.tree) _ E.out.tree Try.underlying23 rfl (by rw [u8s_len, HT.out]; exact info23) ?_) | ((with_reducible refine gate_dst (N := 40) rfl ?_); refine wpList_eqId rfl (.tmp 38) (.tmp 39) rfl x.tree zeros32 HT.out rfl rfl rfl _ HTZ.out ?_))
          go_ret
          exact ⟨by rw [HM.out]; rfl, HB.out⟩
end
end Go.Proofs.Ytphpinfingaffaa.Law
