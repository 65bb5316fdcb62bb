/- NodeFolders and NodeBack: the walks. -/
import Derived.Test.YthpgbhpnlnpfnaaDoorQG
import Derived.Test.YthpgbhpnlnpfnaaDoorQC
import Derived.Test.YthpgbhpnlnpfnaaDoorQ5
import Derived.Test.YthpgbhpnlnpfnaaDoorQA
import Derived.Test.YthpgbhpnlnpfnaaDoorQD

namespace Go.Proofs.YthpgbhpnlnpfnaaDoor.Law
open Go.RowKit Go.Proofs.YthpgbhpnlnpfnaaDoor Go.Proofs.YthpgbhpnlnpfnaaDoorW.PrintWords Go.Proofs.YthpgbhpnlnpfnaaDoorW.PrintLast Go.Proofs.YthpgbhpnlnpfnaaDoorW.PrintMore Go.Proofs.YthpgbhpnlnpfnaaDoor.E
set_option linter.unusedSimpArgs false
set_option linter.unusedVariables false
theorem awake_w2 (w : World) : Calls Tryd.prog 12 #[] w fun e w' => e = .returned (.bool true) ∧ Below w.heap.size w w' := hypogeumlaw21_awake.calls 41 true w (awake_f 41 (Nat.le_refl _))
theorem ens_fit : ∀ (n : Nat) (l : List Int), (ensG n l).1.length ≤ n ∧ ∀ x ∈ (ensG n l).1, Fit x
  | 0, _ => ⟨Nat.le_refl _, fun x hx => by cases hx⟩
  | n + 1, l => by
    unfold ensG
    split
    · exact ⟨Nat.zero_le _, fun x hx => by cases hx⟩
    · have h := ens_fit n (enG l).2.1
      refine ⟨Nat.succ_le_succ h.1, fun x hx => ?_⟩
      rcases List.mem_cons.mp hx with rfl | hx
      · exact en_fit (l := l) (r := (enG l).2.1) (e := (enG l).2.2) rfl
      · exact h.2 x hx
theorem getP_szd (l : List Int) : Szd (getP l).1 := by
  have h0 : Szd ([] : List En) := ⟨Nat.zero_le _, fun x hx => by cases hx⟩
  unfold getP
  dsimp only
  split
  · exact h0
  · rename_i h
    split
    · exact h0
    · split
      · exact h0
      · split
        · exact h0
        · have h1 := ens_fit (numP l 0 0 32).1.toNat (l.drop (numP l 0 0 32).2.1)
          have h2 := num_bd (l := l) (er := 0) (a := 0) (b := 32) (by rw [Decidable.not_not] at h; exact h)
          exact fit_szd (xs := (ensG (numP l 0 0 32).1.toNat (l.drop (numP l 0 0 32).2.1)).1) h1.2 (by have := h1.1; have := h2.2; omega)
theorem getP_none {l : List Int} (h : (getP l).2 ≠ 0) : (getP l).1 = [] := by
  revert h
  unfold getP
  dsimp only
  split
  · intro _; rfl
  · split
    · intro _; rfl
    · split
      · intro _; rfl
      · split
        · intro _; rfl
        · intro h; exact absurd rfl h
theorem putP_len {xs : List En} (hx : ∀ x ∈ xs, x.tree.length = 32 ∧ ∀ p ∈ x.ps, p.id.length = 32) : (putP xs).1.length < 140737488355000 := by
  have h0 : ([] : List Int).length < 140737488355000 := by decide
  unfold putP
  split
  · exact h0
  · split
    · exact h0
    · rename_i h1 h2
      have hr : ∀ x ∈ xs, mayB x = true := rising_all (by rw [Decidable.not_not] at h2; exact h2)
      have h3 : ∀ (ys : List En) (b : List Int), (∀ y ∈ ys, y ∈ xs) → (ys.foldl entB b).length ≤ b.length + 10400 * ys.length := by
        intro ys
        induction ys with
        | nil => intro b _; exact Nat.le_refl _
        | cons y ys ih =>
          intro b hy
          have hm := hy y List.mem_cons_self
          have e1 := ih (entB b y) (fun z hz => hy z (List.mem_cons_of_mem _ hz))
          have e2 := entB_len (b := b) (hr y hm) (hx y hm).1 (hx y hm).2
          rw [List.foldl_cons, List.length_cons]
          omega
      have h4 := h3 xs (numB [] xs.length) (fun _ h => h)
      have h5 := (numB_len [] (xs.length : Int)).2
      dsimp only
      unfold putB
      rw [List.length_nil] at h5
      omega
theorem putP_bytes {xs : List En} (hx : ∀ x ∈ xs, EnB x) : Bytes (putP xs).1 := by
  have h0 : Bytes ([] : List Int) := fun x hx => by cases hx
  have hp : ∀ (ps : List Pc) (b : List Int), Bytes b → (∀ p ∈ ps, Bytes p.id) → Bytes (pcsB b ps) := by
    intro ps
    induction ps with
    | nil => intro b hb _; exact hb
    | cons p ps ih =>
      intro b hb hq
      exact ih (pcB b p) (numB_bytes (hb.app (hq p List.mem_cons_self)) _) (fun q h => hq q (List.mem_cons_of_mem _ h))
  have he : ∀ (x : En) (b : List Int), EnB x → Bytes b → Bytes (entB b x) := by
    intro x b hx hb
    unfold entB
    split
    · exact (numB_bytes (textB_bytes hb (bytesOf_bytes _)) _).app hx.1
    · exact hp _ _ (numB_bytes (numB_bytes (textB_bytes hb (bytesOf_bytes _)) _) _) hx.2
  have h3 : ∀ (ys : List En) (b : List Int), (∀ y ∈ ys, EnB y) → Bytes b → Bytes (ys.foldl entB b) := by
    intro ys
    induction ys with
    | nil => intro b _ hb; exact hb
    | cons y ys ih =>
      intro b hy hb
      rw [List.foldl_cons]
      exact ih _ (fun z hz => hy z (List.mem_cons_of_mem _ hz)) (he y b (hy y List.mem_cons_self) hb)
  unfold putP
  split
  · exact h0
  · split
    · exact h0
    · exact h3 xs _ hx (numB_bytes h0 _)
theorem ens_C {w : World} {A : Option Addr} {xs : List En} (h : Kd.C kEn w A xs.length xs) : ∀ x ∈ xs, x.tree.length = 32 ∧ ∀ p ∈ x.ps, p.id.length = 32 := fun x hx => by
  obtain ⟨i, hi, rfl⟩ := List.getElem_of_mem hx
  obtain ⟨ad, A', c', rfl, hxt, hxl, hxp, hxc, _⟩ := at_En h hi
  rw [rdEn_get hi] at hxt hxp
  exact ⟨hxt, ids_C hxp⟩
/-- what a slice of bytes is, handed in -/
abbrev YAt (w : World) (A : Option Addr) (n c : Nat) (l : List Int) : Prop := n = l.length ∧ l.length ≤ c ∧ Kd.C (Kd.int .u8) w A l.length l ∧ Bytes l
abbrev ESAt (w : World) (A : Option Addr) (n c : Nat) (l : List En) : Prop := n = l.length ∧ l.length ≤ c ∧ Kd.C kEn w A l.length l ∧ Szd l ∧ ∀ x ∈ l, EnB x
set_option maxHeartbeats 8000000 in
set_option maxRecDepth 100000 in
theorem folders_walk (A0 : Option Addr) (n0 c0 : Nat) (l0 : List En) (A1 : Option Addr) (n1 c1 : Nat) (l1 : List Int) (w : World) (h0 : ESAt w A0 n0 c0 l0) (h1 : YAt w A1 n1 c1 l1) :
    Calls Tryd.prog 9 #[.slice A0 n0 c0, .slice A1 n1 c1] w fun e w' => e = .returned (.bool true) ∧ Below w.heap.size w w' := by
  obtain ⟨rfl, hc0, hC0, hS0, hB0⟩ := h0
  obtain ⟨rfl, hc1, hC1, hB1⟩ := h1
  have HL := Aside0.mk hC0
  have HY := Aside0.mk hC1
  have HCC := Aside0.mk hc1
  have HSZ := Aside0.mk hS0
  have HBB := Aside0.mk hB1
  have HB := Aside0.mk (Below.refl w.heap.size w)
  clear hc0 hC0 hS0 hB0 hc1 hC1 hB1
  by_cases hl : 4000 < l1.length
  · have b1 : decide ((4000 : Int) < (l1.length : Int)) = true := decide_eq_true (by omega)
    have b1n : decide (4000 < l1.length) = true := decide_eq_true hl
    have b1p : (4000 < l1.length) = True := eq_true hl
    have b1q : ((4000 : Int) < (l1.length : Int)) = True := eq_true (by omega)
    go_enter Tryd.func9, Tryd.ntmps9
    go_wp2_with (first
    | (go_at_call 29; (with_reducible refine (small_calls HL.out HSZ.out).mono ?_); rintro e wa ⟨⟨bs, rfl⟩, hb⟩; have n0_ := Aside0.mk (below_step HB.out hb); have n1_ := Aside0.mk (Kd.C_below HL.out hb); have n2_ := Aside0.mk (Kd.C_below HY.out hb); clear HB HL HY; have HB := n0_; have HL := n1_; have HY := n2_; clear n0_ n1_ n2_; clear hb; cases bs)
    | (go_at_call 12; (with_reducible refine (awake_w2 _).mono ?_); rintro e wz ⟨rfl, hb⟩; have n0_ := Aside0.mk (below_step HB.out hb); clear HB hb; have HB := n0_; clear n0_)
      )
    all_goals
      go_ret
      exact ⟨rfl, HB.out⟩
  · have b1 : decide ((4000 : Int) < (l1.length : Int)) = false := decide_eq_false (by omega)
    have b1n : decide (4000 < l1.length) = false := decide_eq_false hl
    have b1p : (4000 < l1.length) = False := eq_false hl
    have b1q : ((4000 : Int) < (l1.length : Int)) = False := eq_false (by omega)
    have HLM := Aside0.mk (show l1.length ≤ 4000 by omega)
    clear hl
    go_enter Tryd.func9, Tryd.ntmps9
    go_wp2_with (first
    | (go_at_call 29; (with_reducible refine (small_calls HL.out HSZ.out).mono ?_); rintro e wa ⟨⟨bs, rfl⟩, hb⟩; have n0_ := Aside0.mk (below_step HB.out hb); have n1_ := Aside0.mk (Kd.C_below HL.out hb); have n2_ := Aside0.mk (Kd.C_below HY.out hb); clear HB HL HY; have HB := n0_; have HL := n1_; have HY := n2_; clear n0_ n1_ n2_; clear hb; cases bs)
    | (go_at_call 12; (with_reducible refine (awake_w2 _).mono ?_); rintro e wz ⟨rfl, hb⟩; have n0_ := Aside0.mk (below_step HB.out hb); clear HB hb; have HB := n0_; clear n0_)
    | (go_at_call 30; (with_reducible refine (nput_calls HL.out HSZ.out).mono ?_); rintro e wb ⟨VP, rfl, hr, hb⟩; have HP := Aside0.mk (Rd.own hr); have n0_ := Aside0.mk (below_step HB.out hb); have n1_ := Aside0.mk (Kd.C_below HL.out hb); have n2_ := Aside0.mk (Kd.C_below HY.out hb); clear HB HL HY; have HB := n0_; have HL := n1_; have HY := n2_; clear n0_ n1_ n2_; clear hb hr)
    | (go_at_call 31; (with_reducible refine (rput_calls HL.out HSZ.out).mono ?_); rintro e wc ⟨VQ, rfl, hr, hb⟩; have HQ := Aside0.mk (Rd.own hr); have n0_ := Aside0.mk (below_step HB.out hb); have n1_ := Aside0.mk (Kd.C_below HL.out hb); have n2_ := Aside0.mk (Kd.C_below HY.out hb); have n3_ := Aside0.mk (HP.out.below hb); clear HB HL HY HP; have HB := n0_; have HL := n1_; have HY := n2_; have HP := n3_; clear n0_ n1_ n2_ n3_; clear hb hr)
    | ((with_reducible refine gate_dst (N := 33) rfl ?_); refine Kd.R_lit (Kd.int .u8) _ 5 ?hg (N := 33) ?hd (xs := ([] : List Int)) (inner := []) (ok := fun _ => True) (okp := fun _ => True) ?hr ?hp (fun _ hk => hk) trivial (Below.refl _ _) (Nat.le_refl _) (by simp) ?_; (case hd => rfl); (case hg => rfl); (case hr => first | (go_simp; done) | (go_simp; rfl)); (case hp => exact (Reps.none _ _)); intro v33 wd ho hb hg_ hnew_; have HO := Aside0.mk ho; have HBD := Aside0.mk hb; clear hg_ hnew_ ho hb)
    | ((with_reducible refine gate_builtin (b := .append) (xs := #[.tmp 33, .tmp 34]) rfl ?_); at_builtin; refine Kd.R_append_rows (Kd.int .u8) (w0 := wc) wc.heap.size rfl (.tmp 33) (.tmp 34) 25 5 (.int .u8 0) 1 rfl Tryd.underlying25 info5 rfl (by decide) (by omega) v33 [] l1 _ _ _ (fun _ => True) (fun _ => False) rfl rfl HO.out ?aR (fun _ _ h => h) (fun _ h => h.elim) (fun _ _ => trivial) HBD.out HBD.out.size (by have := HLM.out; simp only [List.length_nil]; omega) ?_; (case aR => exact (Kd.C_below HY.out HBD.out)); intro v35 we ho hb hg hat; have HX := Aside0.mk (show Rd we v35 l1 from Rd.own ho); clear HO HBD; have n0_ := Aside0.mk (below_step HB.out hb); have n1_ := Aside0.mk (Kd.C_below HL.out hb); have n2_ := Aside0.mk (Kd.C_below HY.out hb); have n3_ := Aside0.mk (HP.out.below hb); have n4_ := Aside0.mk (HQ.out.below hb); clear HB HL HY HP HQ; have HB := n0_; have HL := n1_; have HY := n2_; have HP := n3_; have HQ := n4_; clear n0_ n1_ n2_ n3_ n4_; clear hb ho hg hat)
    | (go_at_call 32; (with_reducible refine (nget_calls HX.out HBB.out (Nat.lt_of_le_of_lt HLM.out (by decide))).mono ?_); rintro e wf ⟨VG, rfl, hr, hb⟩; have HG := Aside0.mk (Kd.R_reads hr); have n0_ := Aside0.mk (below_step HB.out hb); have n1_ := Aside0.mk (Kd.C_below HL.out hb); have n2_ := Aside0.mk (Kd.C_below HY.out hb); have n3_ := Aside0.mk (HP.out.below hb); have n4_ := Aside0.mk (HQ.out.below hb); have n5_ := Aside0.mk (HX.out.below hb); clear HB HL HY HP HQ HX; have HB := n0_; have HL := n1_; have HY := n2_; have HP := n3_; have HQ := n4_; have HX := n5_; clear n0_ n1_ n2_ n3_ n4_ n5_; clear hb hr; obtain ⟨A9, c9, rfl, hcg, hg⟩ := HG.out; clear HG; have HG := Aside0.mk hg; clear hg hcg)
    | (go_at_call 33; have HR1 : Rd wf (.slice A1 l1.length c1) l1 := ⟨A1, c1, rfl, HY.out, HCC.out⟩; (with_reducible refine (rget_calls HR1 HBB.out (Nat.lt_of_le_of_lt HLM.out (by decide))).mono ?_); rintro e wg ⟨VH, rfl, hr, hb⟩; clear HR1; have HH := Aside0.mk (Kd.R_reads hr); have n0_ := Aside0.mk (below_step HB.out hb); have n1_ := Aside0.mk (Kd.C_below HL.out hb); have n2_ := Aside0.mk (Kd.C_below HY.out hb); have n3_ := Aside0.mk (HP.out.below hb); have n4_ := Aside0.mk (HQ.out.below hb); have n5_ := Aside0.mk (HX.out.below hb); have n6_ := Aside0.mk (Kd.C_below HG.out hb); clear HB HL HY HP HQ HX HG; have HB := n0_; have HL := n1_; have HY := n2_; have HP := n3_; have HQ := n4_; have HX := n5_; have HG := n6_; clear n0_ n1_ n2_ n3_ n4_ n5_ n6_; clear hb hr; obtain ⟨A8, c8, rfl, hcg, hg⟩ := HH.out; clear HH; have HH := Aside0.mk hg; clear hg hcg)
    | ((with_reducible refine gate_dst (N := 47) rfl ?_); refine wpList_str rfl (.tmp 46) rfl VP _ rfl HP.out ?_)
    | ((with_reducible refine gate_dst (N := 49) rfl ?_); refine wpList_str rfl (.tmp 48) rfl VQ _ rfl HQ.out ?_)
    | (go_at_call 34; (with_reducible refine (same_calls HG.out HH.out (getP_szd l1)).mono ?_); rintro e wh ⟨rfl, hb⟩; have n0_ := Aside0.mk (below_step HB.out hb); have n1_ := Aside0.mk (Kd.C_below HL.out hb); have n2_ := Aside0.mk (Kd.C_below HY.out hb); have n3_ := Aside0.mk (HX.out.below hb); clear HB HL HY HX; have HB := n0_; have HL := n1_; have HY := n2_; have HX := n3_; clear n0_ n1_ n2_ n3_; clear hb)
    | ((with_reducible refine gate_dst (N := 68) rfl ?_); (try (refine gate_guard (by rfl) ?_; dsimp only)); refine wpList_str rfl (.tmp 67) rfl v35 _ rfl HX.out ?_)
    | ((with_reducible refine gate_dst (N := 70) rfl ?_); (try (refine gate_guard (by rfl) ?_; dsimp only)); refine wpList_str rfl (.tmp 69) rfl (.slice A1 l1.length c1) _ rfl ⟨A1, c1, rfl, HY.out, HCC.out⟩ ?_)
      )
    all_goals
      go_ret
      exact ⟨rfl, HB.out⟩
/-- what was put, told -/
theorem nget_put {w : World} {V : Value} {xs : List En} (h : Rd w V (putP xs).1) (hp : (putP xs).2 = 0) (hB : ∀ x ∈ xs, EnB x) (hx : ∀ x ∈ xs, x.tree.length = 32 ∧ ∀ p ∈ x.ps, p.id.length = 32) :
    Calls Tryd.prog 32 #[V] w fun e w' => ∃ V', e = .returned (.tuple #[V', .int .i64 0]) ∧ Kd.R kEn 75 w' w.heap.size (fun _ => True) V' xs ∧ Below w.heap.size w w' := by
  refine (nget_calls h (putP_bytes hB) (putP_len hx)).mono fun e w' hg => ?_
  unfold GetOut at hg
  rw [get_put hp hx] at hg
  exact hg
/-- nothing told -/
theorem nget_none {w : World} {V : Value} {l : List Int} (h : Rd w V l) (hb : Bytes l) (hm : l.length < 140737488355000) (hg : (getP l).1 = []) :
    Calls Tryd.prog 32 #[V] w fun e w' => ∃ A c, e = .returned (.tuple #[.slice A 0 c, .int .i64 (getP l).2]) ∧ Below w.heap.size w w' := by
  refine (nget_calls h hb hm).mono fun e w' hq => ?_
  obtain ⟨V', h1, h2, h3⟩ := hq
  rw [hg] at h2
  obtain ⟨A, c, rfl, _, _⟩ := Kd.R_reads h2
  exact ⟨A, c, h1, h3⟩
/-- what was told, put -/
theorem nput_get {A : Option Addr} {c : Nat} {w : World} {l : List Int} (h : Kd.C kEn w A (getP l).1.length (getP l).1) (hb : Bytes l) (hg : (getP l).2 = 0) :
    Calls Tryd.prog 30 #[.slice A (getP l).1.length c] w fun e w' => ∃ V, e = .returned (.tuple #[V, .int .i64 0]) ∧ Rd w' V l ∧ Below w.heap.size w w' := by
  refine (nput_calls h (getP_szd l)).mono fun e w' hp => ?_
  rw [put_get hb hg] at hp
  obtain ⟨V, h1, h2, h3⟩ := hp
  exact ⟨V, h1, Rd.own h2, h3⟩
set_option maxHeartbeats 8000000 in
set_option maxRecDepth 100000 in
theorem back_walk (A0 : Option Addr) (n0 c0 : Nat) (l0 : List En) (A1 : Option Addr) (n1 c1 : Nat) (l1 : List Int) (w : World) (h0 : ESAt w A0 n0 c0 l0) (h1 : YAt w A1 n1 c1 l1) :
    Calls Tryd.prog 10 #[.slice A0 n0 c0, .slice A1 n1 c1] w fun e w' => e = .returned (.bool true) ∧ Below w.heap.size w w' := by
  obtain ⟨rfl, hc0, hC0, hS0, hB0⟩ := h0
  obtain ⟨rfl, hc1, hC1, hB1⟩ := h1
  have HL := Aside0.mk hC0
  have HY := Aside0.mk hC1
  have HCC := Aside0.mk hc1
  have HSZ := Aside0.mk hS0
  have HBB := Aside0.mk hB1
  have HEB := Aside0.mk hB0
  have HEC := Aside0.mk (ens_C hC0)
  have HB := Aside0.mk (Below.refl w.heap.size w)
  clear hc0 hC0 hS0 hB0 hc1 hC1 hB1
  by_cases hl : 4000 < l1.length
  · have b1 : decide ((4000 : Int) < (l1.length : Int)) = true := decide_eq_true (by omega)
    have b1n : decide (4000 < l1.length) = true := decide_eq_true hl
    have b1p : (4000 < l1.length) = True := eq_true hl
    have b1q : ((4000 : Int) < (l1.length : Int)) = True := eq_true (by omega)
    go_enter Tryd.func10, Tryd.ntmps10
    go_wp2_with (first
    | (go_at_call 29; (with_reducible refine (small_calls HL.out HSZ.out).mono ?_); rintro e wa ⟨⟨bs, rfl⟩, hb⟩; have n0_ := Aside0.mk (below_step HB.out hb); have n1_ := Aside0.mk (Kd.C_below HL.out hb); have n2_ := Aside0.mk (Kd.C_below HY.out hb); clear HB HL HY; have HB := n0_; have HL := n1_; have HY := n2_; clear n0_ n1_ n2_; clear hb; cases bs)
    | (go_at_call 12; (with_reducible refine (awake_w2 _).mono ?_); rintro e wz ⟨rfl, hb⟩; have n0_ := Aside0.mk (below_step HB.out hb); clear HB hb; have HB := n0_; clear n0_)
      )
    all_goals
      go_ret
      exact ⟨rfl, HB.out⟩
  · have b1 : decide ((4000 : Int) < (l1.length : Int)) = false := decide_eq_false (by omega)
    have b1n : decide (4000 < l1.length) = false := decide_eq_false hl
    have b1p : (4000 < l1.length) = False := eq_false hl
    have b1q : ((4000 : Int) < (l1.length : Int)) = False := eq_false (by omega)
    have HLM := Aside0.mk (show l1.length ≤ 4000 by omega)
    clear hl
    by_cases hp : (putP l0).2 = 0
    · have HPZ := Aside0.mk hp
      have p1 : ((putP l0).2 == 0) = true := by rw [hp]; rfl
      have p2 : ((putP l0).2 != 0) = false := by rw [hp]; rfl
      clear hp
      by_cases hg : (getP l1).2 = 0
      · have HGZ := Aside0.mk hg
        have g1 : ((getP l1).2 == 0) = true := by rw [hg]; rfl
        have g2 : ((getP l1).2 != 0) = false := by rw [hg]; rfl
        clear hg
        go_enter Tryd.func10, Tryd.ntmps10
        go_wp2_with (first
    | (go_at_call 29; (with_reducible refine (small_calls HL.out HSZ.out).mono ?_); rintro e wa ⟨⟨bs, rfl⟩, hb⟩; have n0_ := Aside0.mk (below_step HB.out hb); have n1_ := Aside0.mk (Kd.C_below HL.out hb); have n2_ := Aside0.mk (Kd.C_below HY.out hb); clear HB HL HY; have HB := n0_; have HL := n1_; have HY := n2_; clear n0_ n1_ n2_; clear hb; cases bs)
          | (go_at_call 30; (with_reducible refine (nput_calls HL.out HSZ.out).mono ?_); rintro e wb ⟨VP, rfl, hr, hb⟩; have HP := Aside0.mk (Rd.own hr); have n0_ := Aside0.mk (below_step HB.out hb); have n1_ := Aside0.mk (Kd.C_below HL.out hb); have n2_ := Aside0.mk (Kd.C_below HY.out hb); clear HB HL HY; have HB := n0_; have HL := n1_; have HY := n2_; clear n0_ n1_ n2_; clear hb hr)
          | (go_at_call 32; (with_reducible refine (nget_put HP.out HPZ.out HEB.out HEC.out).mono ?_); rintro e wc ⟨VG, rfl, hr, hb⟩; clear HP; have HG := Aside0.mk (Kd.R_reads hr); have n0_ := Aside0.mk (below_step HB.out hb); have n1_ := Aside0.mk (Kd.C_below HL.out hb); have n2_ := Aside0.mk (Kd.C_below HY.out hb); clear HB HL HY; have HB := n0_; have HL := n1_; have HY := n2_; clear n0_ n1_ n2_; clear hb hr; obtain ⟨A9, c9, rfl, hcg, hg⟩ := HG.out; clear HG; have HG := Aside0.mk hg; clear hg hcg)
          | (go_at_call 34; (with_reducible refine (same_calls HG.out HL.out HSZ.out).mono ?_); rintro e wd ⟨rfl, hb⟩; clear HG; have n0_ := Aside0.mk (below_step HB.out hb); have n1_ := Aside0.mk (Kd.C_below HL.out hb); have n2_ := Aside0.mk (Kd.C_below HY.out hb); clear HB HL HY; have HB := n0_; have HL := n1_; have HY := n2_; clear n0_ n1_ n2_; clear hb)
          | ((with_reducible refine gate_dst (N := 43) rfl ?_); refine Kd.R_lit (Kd.int .u8) _ 5 ?hg (N := 43) ?hd (xs := ([] : List Int)) (inner := []) (ok := fun _ => True) (okp := fun _ => True) ?hr ?hp (fun _ hk => hk) trivial (Below.refl _ _) (Nat.le_refl _) (by simp) ?_; (case hd => rfl); (case hg => rfl); (case hr => first | (go_simp; done) | (go_simp; rfl)); (case hp => exact (Reps.none _ _)); intro v43 we ho hb hg_ hnew_; have HO := Aside0.mk ho; have HBD := Aside0.mk hb; clear hg_ hnew_ ho hb)
          | ((with_reducible refine gate_builtin (b := .append) (xs := #[.tmp 43, .tmp 44]) rfl ?_); at_builtin; refine Kd.R_append_rows (Kd.int .u8) (w0 := wd) wd.heap.size rfl (.tmp 43) (.tmp 44) 25 5 (.int .u8 0) 1 rfl Tryd.underlying25 info5 rfl (by decide) (by omega) v43 [] l1 _ _ _ (fun _ => True) (fun _ => False) rfl rfl HO.out ?aR (fun _ _ h => h) (fun _ h => h.elim) (fun _ _ => trivial) HBD.out HBD.out.size (by have := HLM.out; simp only [List.length_nil]; omega) ?_; (case aR => exact (Kd.C_below HY.out HBD.out)); intro v45 wf ho hb hg hat; have HX := Aside0.mk (show Rd wf v45 l1 from Rd.own ho); clear HO HBD; have n0_ := Aside0.mk (below_step HB.out hb); have n1_ := Aside0.mk (Kd.C_below HL.out hb); have n2_ := Aside0.mk (Kd.C_below HY.out hb); clear HB HL HY; have HB := n0_; have HL := n1_; have HY := n2_; clear n0_ n1_ n2_; clear hb ho hg hat)
          | (go_at_call 32; (with_reducible refine (nget_calls HX.out HBB.out (Nat.lt_of_le_of_lt HLM.out (by decide))).mono ?_); rintro e wg ⟨VG, rfl, hr, hb⟩; clear HX; have HG := Aside0.mk (Kd.R_reads hr); have n0_ := Aside0.mk (below_step HB.out hb); have n1_ := Aside0.mk (Kd.C_below HL.out hb); have n2_ := Aside0.mk (Kd.C_below HY.out hb); clear HB HL HY; have HB := n0_; have HL := n1_; have HY := n2_; clear n0_ n1_ n2_; clear hb hr; obtain ⟨A9, c9, rfl, hcg, hg⟩ := HG.out; clear HG; have HG := Aside0.mk hg; clear hg hcg)
          | (go_at_call 30; (with_reducible refine (nput_get HG.out HBB.out HGZ.out).mono ?_); rintro e wh ⟨VQ, rfl, hr, hb⟩; clear HG; have HQ := Aside0.mk hr; have n0_ := Aside0.mk (below_step HB.out hb); have n1_ := Aside0.mk (Kd.C_below HL.out hb); have n2_ := Aside0.mk (Kd.C_below HY.out hb); clear HB HL HY; have HB := n0_; have HL := n1_; have HY := n2_; clear n0_ n1_ n2_; clear hb hr)
          | ((with_reducible refine gate_dst (N := 66) rfl ?_); (try (refine gate_guard (by rfl) ?_; dsimp only)); refine wpList_str rfl (.tmp 65) rfl VQ _ rfl HQ.out ?_)
          | ((with_reducible refine gate_dst (N := 68) rfl ?_); (try (refine gate_guard (by rfl) ?_; dsimp only)); refine wpList_str rfl (.tmp 67) rfl (.slice A1 l1.length c1) _ rfl ⟨A1, c1, rfl, HY.out, HCC.out⟩ ?_)
    | (go_at_call 12; (with_reducible refine (awake_w2 _).mono ?_); rintro e wz ⟨rfl, hb⟩; have n0_ := Aside0.mk (below_step HB.out hb); clear HB hb; have HB := n0_; clear n0_)
          )
        all_goals
          go_ret
          exact ⟨rfl, HB.out⟩
      · have HGN := Aside0.mk (getP_none hg)
        have g1 : ((getP l1).2 == 0) = false := beq_eq_false_iff_ne.mpr hg
        have g2 : ((getP l1).2 != 0) = true := bne_iff_ne.mpr hg
        clear hg
        go_enter Tryd.func10, Tryd.ntmps10
        go_wp2_with (first
    | (go_at_call 29; (with_reducible refine (small_calls HL.out HSZ.out).mono ?_); rintro e wa ⟨⟨bs, rfl⟩, hb⟩; have n0_ := Aside0.mk (below_step HB.out hb); have n1_ := Aside0.mk (Kd.C_below HL.out hb); have n2_ := Aside0.mk (Kd.C_below HY.out hb); clear HB HL HY; have HB := n0_; have HL := n1_; have HY := n2_; clear n0_ n1_ n2_; clear hb; cases bs)
          | (go_at_call 30; (with_reducible refine (nput_calls HL.out HSZ.out).mono ?_); rintro e wb ⟨VP, rfl, hr, hb⟩; have HP := Aside0.mk (Rd.own hr); have n0_ := Aside0.mk (below_step HB.out hb); have n1_ := Aside0.mk (Kd.C_below HL.out hb); have n2_ := Aside0.mk (Kd.C_below HY.out hb); clear HB HL HY; have HB := n0_; have HL := n1_; have HY := n2_; clear n0_ n1_ n2_; clear hb hr)
          | (go_at_call 32; (with_reducible refine (nget_put HP.out HPZ.out HEB.out HEC.out).mono ?_); rintro e wc ⟨VG, rfl, hr, hb⟩; clear HP; have HG := Aside0.mk (Kd.R_reads hr); have n0_ := Aside0.mk (below_step HB.out hb); have n1_ := Aside0.mk (Kd.C_below HL.out hb); have n2_ := Aside0.mk (Kd.C_below HY.out hb); clear HB HL HY; have HB := n0_; have HL := n1_; have HY := n2_; clear n0_ n1_ n2_; clear hb hr; obtain ⟨A9, c9, rfl, hcg, hg⟩ := HG.out; clear HG; have HG := Aside0.mk hg; clear hg hcg)
          | (go_at_call 34; (with_reducible refine (same_calls HG.out HL.out HSZ.out).mono ?_); rintro e wd ⟨rfl, hb⟩; clear HG; have n0_ := Aside0.mk (below_step HB.out hb); have n1_ := Aside0.mk (Kd.C_below HL.out hb); have n2_ := Aside0.mk (Kd.C_below HY.out hb); clear HB HL HY; have HB := n0_; have HL := n1_; have HY := n2_; clear n0_ n1_ n2_; clear hb)
          | ((with_reducible refine gate_dst (N := 43) rfl ?_); refine Kd.R_lit (Kd.int .u8) _ 5 ?hg (N := 43) ?hd (xs := ([] : List Int)) (inner := []) (ok := fun _ => True) (okp := fun _ => True) ?hr ?hp (fun _ hk => hk) trivial (Below.refl _ _) (Nat.le_refl _) (by simp) ?_; (case hd => rfl); (case hg => rfl); (case hr => first | (go_simp; done) | (go_simp; rfl)); (case hp => exact (Reps.none _ _)); intro v43 we ho hb hg_ hnew_; have HO := Aside0.mk ho; have HBD := Aside0.mk hb; clear hg_ hnew_ ho hb)
          | ((with_reducible refine gate_builtin (b := .append) (xs := #[.tmp 43, .tmp 44]) rfl ?_); at_builtin; refine Kd.R_append_rows (Kd.int .u8) (w0 := wd) wd.heap.size rfl (.tmp 43) (.tmp 44) 25 5 (.int .u8 0) 1 rfl Tryd.underlying25 info5 rfl (by decide) (by omega) v43 [] l1 _ _ _ (fun _ => True) (fun _ => False) rfl rfl HO.out ?aR (fun _ _ h => h) (fun _ h => h.elim) (fun _ _ => trivial) HBD.out HBD.out.size (by have := HLM.out; simp only [List.length_nil]; omega) ?_; (case aR => exact (Kd.C_below HY.out HBD.out)); intro v45 wf ho hb hg hat; have HX := Aside0.mk (show Rd wf v45 l1 from Rd.own ho); clear HO HBD; have n0_ := Aside0.mk (below_step HB.out hb); have n1_ := Aside0.mk (Kd.C_below HL.out hb); have n2_ := Aside0.mk (Kd.C_below HY.out hb); clear HB HL HY; have HB := n0_; have HL := n1_; have HY := n2_; clear n0_ n1_ n2_; clear hb ho hg hat)
          | (go_at_call 32; (with_reducible refine (nget_none HX.out HBB.out (Nat.lt_of_le_of_lt HLM.out (by decide)) HGN.out).mono ?_); rintro e wg ⟨A9, c9, rfl, hb⟩; clear HX; have n0_ := Aside0.mk (below_step HB.out hb); have n1_ := Aside0.mk (Kd.C_below HL.out hb); have n2_ := Aside0.mk (Kd.C_below HY.out hb); clear HB HL HY; have HB := n0_; have HL := n1_; have HY := n2_; clear n0_ n1_ n2_; clear hb)
    | (go_at_call 12; (with_reducible refine (awake_w2 _).mono ?_); rintro e wz ⟨rfl, hb⟩; have n0_ := Aside0.mk (below_step HB.out hb); clear HB hb; have HB := n0_; clear n0_)
          )
        all_goals
          go_ret
          exact ⟨rfl, HB.out⟩
    · have p1 : ((putP l0).2 == 0) = false := beq_eq_false_iff_ne.mpr hp
      have p2 : ((putP l0).2 != 0) = true := bne_iff_ne.mpr hp
      clear hp
      by_cases hg : (getP l1).2 = 0
      · have HGZ := Aside0.mk hg
        have g1 : ((getP l1).2 == 0) = true := by rw [hg]; rfl
        have g2 : ((getP l1).2 != 0) = false := by rw [hg]; rfl
        clear hg
        go_enter Tryd.func10, Tryd.ntmps10
        go_wp2_with (first
    | (go_at_call 29; (with_reducible refine (small_calls HL.out HSZ.out).mono ?_); rintro e wa ⟨⟨bs, rfl⟩, hb⟩; have n0_ := Aside0.mk (below_step HB.out hb); have n1_ := Aside0.mk (Kd.C_below HL.out hb); have n2_ := Aside0.mk (Kd.C_below HY.out hb); clear HB HL HY; have HB := n0_; have HL := n1_; have HY := n2_; clear n0_ n1_ n2_; clear hb; cases bs)
          | (go_at_call 30; (with_reducible refine (nput_calls HL.out HSZ.out).mono ?_); rintro e wd ⟨VP, rfl, hr, hb⟩; have n0_ := Aside0.mk (below_step HB.out hb); have n1_ := Aside0.mk (Kd.C_below HL.out hb); have n2_ := Aside0.mk (Kd.C_below HY.out hb); clear HB HL HY; have HB := n0_; have HL := n1_; have HY := n2_; clear n0_ n1_ n2_; clear hb hr)
          | ((with_reducible refine gate_dst (N := 43) rfl ?_); refine Kd.R_lit (Kd.int .u8) _ 5 ?hg (N := 43) ?hd (xs := ([] : List Int)) (inner := []) (ok := fun _ => True) (okp := fun _ => True) ?hr ?hp (fun _ hk => hk) trivial (Below.refl _ _) (Nat.le_refl _) (by simp) ?_; (case hd => rfl); (case hg => rfl); (case hr => first | (go_simp; done) | (go_simp; rfl)); (case hp => exact (Reps.none _ _)); intro v43 we ho hb hg_ hnew_; have HO := Aside0.mk ho; have HBD := Aside0.mk hb; clear hg_ hnew_ ho hb)
          | ((with_reducible refine gate_builtin (b := .append) (xs := #[.tmp 43, .tmp 44]) rfl ?_); at_builtin; refine Kd.R_append_rows (Kd.int .u8) (w0 := wd) wd.heap.size rfl (.tmp 43) (.tmp 44) 25 5 (.int .u8 0) 1 rfl Tryd.underlying25 info5 rfl (by decide) (by omega) v43 [] l1 _ _ _ (fun _ => True) (fun _ => False) rfl rfl HO.out ?aR (fun _ _ h => h) (fun _ h => h.elim) (fun _ _ => trivial) HBD.out HBD.out.size (by have := HLM.out; simp only [List.length_nil]; omega) ?_; (case aR => exact (Kd.C_below HY.out HBD.out)); intro v45 wf ho hb hg hat; have HX := Aside0.mk (show Rd wf v45 l1 from Rd.own ho); clear HO HBD; have n0_ := Aside0.mk (below_step HB.out hb); have n1_ := Aside0.mk (Kd.C_below HL.out hb); have n2_ := Aside0.mk (Kd.C_below HY.out hb); clear HB HL HY; have HB := n0_; have HL := n1_; have HY := n2_; clear n0_ n1_ n2_; clear hb ho hg hat)
          | (go_at_call 32; (with_reducible refine (nget_calls HX.out HBB.out (Nat.lt_of_le_of_lt HLM.out (by decide))).mono ?_); rintro e wg ⟨VG, rfl, hr, hb⟩; clear HX; have HG := Aside0.mk (Kd.R_reads hr); have n0_ := Aside0.mk (below_step HB.out hb); have n1_ := Aside0.mk (Kd.C_below HL.out hb); have n2_ := Aside0.mk (Kd.C_below HY.out hb); clear HB HL HY; have HB := n0_; have HL := n1_; have HY := n2_; clear n0_ n1_ n2_; clear hb hr; obtain ⟨A9, c9, rfl, hcg, hg⟩ := HG.out; clear HG; have HG := Aside0.mk hg; clear hg hcg)
          | (go_at_call 30; (with_reducible refine (nput_get HG.out HBB.out HGZ.out).mono ?_); rintro e wh ⟨VQ, rfl, hr, hb⟩; clear HG; have HQ := Aside0.mk hr; have n0_ := Aside0.mk (below_step HB.out hb); have n1_ := Aside0.mk (Kd.C_below HL.out hb); have n2_ := Aside0.mk (Kd.C_below HY.out hb); clear HB HL HY; have HB := n0_; have HL := n1_; have HY := n2_; clear n0_ n1_ n2_; clear hb hr)
          | ((with_reducible refine gate_dst (N := 66) rfl ?_); (try (refine gate_guard (by rfl) ?_; dsimp only)); refine wpList_str rfl (.tmp 65) rfl VQ _ rfl HQ.out ?_)
          | ((with_reducible refine gate_dst (N := 68) rfl ?_); (try (refine gate_guard (by rfl) ?_; dsimp only)); refine wpList_str rfl (.tmp 67) rfl (.slice A1 l1.length c1) _ rfl ⟨A1, c1, rfl, HY.out, HCC.out⟩ ?_)
    | (go_at_call 12; (with_reducible refine (awake_w2 _).mono ?_); rintro e wz ⟨rfl, hb⟩; have n0_ := Aside0.mk (below_step HB.out hb); clear HB hb; have HB := n0_; clear n0_)
          )
        all_goals
          go_ret
          exact ⟨rfl, HB.out⟩
      · have HGN := Aside0.mk (getP_none hg)
        have g1 : ((getP l1).2 == 0) = false := beq_eq_false_iff_ne.mpr hg
        have g2 : ((getP l1).2 != 0) = true := bne_iff_ne.mpr hg
        clear hg
        go_enter Tryd.func10, Tryd.ntmps10
        go_wp2_with (first
    | (go_at_call 29; (with_reducible refine (small_calls HL.out HSZ.out).mono ?_); rintro e wa ⟨⟨bs, rfl⟩, hb⟩; have n0_ := Aside0.mk (below_step HB.out hb); have n1_ := Aside0.mk (Kd.C_below HL.out hb); have n2_ := Aside0.mk (Kd.C_below HY.out hb); clear HB HL HY; have HB := n0_; have HL := n1_; have HY := n2_; clear n0_ n1_ n2_; clear hb; cases bs)
          | (go_at_call 30; (with_reducible refine (nput_calls HL.out HSZ.out).mono ?_); rintro e wd ⟨VP, rfl, hr, hb⟩; have n0_ := Aside0.mk (below_step HB.out hb); have n1_ := Aside0.mk (Kd.C_below HL.out hb); have n2_ := Aside0.mk (Kd.C_below HY.out hb); clear HB HL HY; have HB := n0_; have HL := n1_; have HY := n2_; clear n0_ n1_ n2_; clear hb hr)
          | ((with_reducible refine gate_dst (N := 43) rfl ?_); refine Kd.R_lit (Kd.int .u8) _ 5 ?hg (N := 43) ?hd (xs := ([] : List Int)) (inner := []) (ok := fun _ => True) (okp := fun _ => True) ?hr ?hp (fun _ hk => hk) trivial (Below.refl _ _) (Nat.le_refl _) (by simp) ?_; (case hd => rfl); (case hg => rfl); (case hr => first | (go_simp; done) | (go_simp; rfl)); (case hp => exact (Reps.none _ _)); intro v43 we ho hb hg_ hnew_; have HO := Aside0.mk ho; have HBD := Aside0.mk hb; clear hg_ hnew_ ho hb)
          | ((with_reducible refine gate_builtin (b := .append) (xs := #[.tmp 43, .tmp 44]) rfl ?_); at_builtin; refine Kd.R_append_rows (Kd.int .u8) (w0 := wd) wd.heap.size rfl (.tmp 43) (.tmp 44) 25 5 (.int .u8 0) 1 rfl Tryd.underlying25 info5 rfl (by decide) (by omega) v43 [] l1 _ _ _ (fun _ => True) (fun _ => False) rfl rfl HO.out ?aR (fun _ _ h => h) (fun _ h => h.elim) (fun _ _ => trivial) HBD.out HBD.out.size (by have := HLM.out; simp only [List.length_nil]; omega) ?_; (case aR => exact (Kd.C_below HY.out HBD.out)); intro v45 wf ho hb hg hat; have HX := Aside0.mk (show Rd wf v45 l1 from Rd.own ho); clear HO HBD; have n0_ := Aside0.mk (below_step HB.out hb); have n1_ := Aside0.mk (Kd.C_below HL.out hb); have n2_ := Aside0.mk (Kd.C_below HY.out hb); clear HB HL HY; have HB := n0_; have HL := n1_; have HY := n2_; clear n0_ n1_ n2_; clear hb ho hg hat)
          | (go_at_call 32; (with_reducible refine (nget_none HX.out HBB.out (Nat.lt_of_le_of_lt HLM.out (by decide)) HGN.out).mono ?_); rintro e wg ⟨A9, c9, rfl, hb⟩; clear HX; have n0_ := Aside0.mk (below_step HB.out hb); have n1_ := Aside0.mk (Kd.C_below HL.out hb); have n2_ := Aside0.mk (Kd.C_below HY.out hb); clear HB HL HY; have HB := n0_; have HL := n1_; have HY := n2_; clear n0_ n1_ n2_; clear hb)
    | (go_at_call 12; (with_reducible refine (awake_w2 _).mono ?_); rintro e wz ⟨rfl, hb⟩; have n0_ := Aside0.mk (below_step HB.out hb); clear HB hb; have HB := n0_; clear n0_)
          )
        all_goals
          go_ret
          exact ⟨rfl, HB.out⟩
end Go.Proofs.YthpgbhpnlnpfnaaDoor.Law
