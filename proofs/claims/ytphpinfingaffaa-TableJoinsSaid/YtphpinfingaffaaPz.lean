/- The bytes of a piece, as the law gives them: the walk; TableJoins' closure. -/
import Derived.Test.YtphpinfingaffaaTp
namespace Go.Proofs.Ytphpinfingaffaa.Law
open Go.RowKit Go.Proofs.Ytphpinfingaffaa Go.Proofs.YtphpinfingaffaaW.PrintWords Go.Proofs.YtphpinfingaffaaW.PrintLast Go.Proofs.YtphpinfingaffaaW.PrintMore Go.Proofs.Ytphpinfingaffaa.D Go.Proofs.Ytphpinfingaffaa.Fl
set_option linter.unusedSimpArgs false
set_option linter.unusedVariables false
/-- a piece's bytes -/
def pieceB (i n : Nat) : List Int := (List.range n).map fun k : Nat => (7 * (i : Int) + (k : Int)) % 256
theorem pieceB_len (i n : Nat) : (pieceB i n).length = n := by unfold pieceB; rw [List.length_map, List.length_range]
theorem pieceB_snoc (i n : Nat) : pieceB i (n + 1) = pieceB i n ++ [(7 * (i : Int) + (n : Int)) % 256] := by unfold pieceB; rw [List.range_succ, List.map_append]; rfl
theorem pieceB_bytes (i n : Nat) : Bytes (pieceB i n) := fun x hx => by
  obtain ⟨k, _, rfl⟩ := List.mem_map.mp hx
  omega
theorem w8_u8 {n : Int} (h0 : 0 ≤ n) : IntKind.u8.wrap n = n % 256 := by
  simp [IntKind.wrap, IntKind.signed, IntKind.bits]
set_option maxHeartbeats 4000000 in
set_option maxRecDepth 100000 in
theorem piece_calls {x : En} {cs : List Value} {w : World} (h : kEn.K w x cs) (i n : Nat) (hi : i < x.ps.length) (hl : x.ps.length ≤ 300) (hn : (rdPc x.ps i).n = (n : Int)) (hn1 : n ≤ 4096) :
    Calls Try.prog 16 #[.agg cs.toArray, .int .i64 (i : Int)] w fun e w' => ∃ V, e = .returned V ∧ Kd.R (Kd.int .u8) 5 w' w.heap.size (fun _ => True) V (pieceB i n) ∧ Below w.heap.size w w' := by
  obtain ⟨A, c, rfl, ht, hc, hr⟩ := kEn_open h
  have HT := Aside0.mk ht
  have HC := Aside0.mk hc
  have HR := Aside0.mk hr
  obtain ⟨ad, rfl, _, _, hx0⟩ := at_Pc hr hi
  rw [hn] at hx0
  have HX0 := Aside0.mk hx0
  have p1 : (0 ≤ (i : Int)) = True := eq_true (Int.natCast_nonneg _)
  have p2 : ((i : Int) < (x.ps.length : Int)) = True := eq_true (lt_lt hi)
  have h7 : wrap64 (7 * (i : Int)) = 7 * (i : Int) := n64 (by omega) (by omega)
  have hi3 : i < 300 := by omega
  clear h ht hc hr hn hx0 hi hl
  go_enter Try.func16, Try.ntmps16
  go_wp2_with (first | ((with_reducible refine gate_dst (N := 2) rfl ?_); refine wpList_box rfl 26 (.tmp 0) rfl (enV x (some ad) c) rfl ?_; intro w1 hk hb hs; have E := Aside0.mk (EnAt.mk hk HT.out HC.out (Kd.C_below HR.out hb)); have HB := Aside0.mk hb; have HZZ := Aside0.mk hs; have z0 := E.out.cell (enV_0 x _ _); have z1 := E.out.cell (enV_1 x _ _); have z34 := E.out.cell (enV_34 x _ _ HT.out); clear hk hb hs; have hx := (HB.out.cell (World.block_lt_of_cell? w _ HX0.out)).trans HX0.out))
  clear p1 p2 z0 z1 z34 hx
  have HO := Aside0.mk (Kd.R_nil (Kd.int .u8) 5 w1 w.heap.size (fun _ => True))
  go_loopw [5, 13] (fun v5 v13 wr => ∃ k : Nat, k ≤ n ∧ v13 = .int .i64 (k : Int) ∧ Aside0 (Kd.R (Kd.int .u8) 5 wr w.heap.size (fun _ => True) v5 (pieceB i k)) ∧ Aside0 (Below w.heap.size w wr)) (fun _ v13 _ => n - (intOf v13).toNat)
  case atStart => exact ⟨0, Nat.zero_le _, rfl, HO, HB⟩
  case round =>
    obtain ⟨k, hk, rfl, HOn, HBn⟩ := hrel
    clear HO HB
    have HO := HOn
    have HB := HBn
    clear HOn HBn
    obtain ⟨V6, rfl⟩ : ∃ V, V = u5 := ⟨_, rfl⟩
    by_cases hlt : k < n
    · have hltb : decide ((k : Int) < (n : Int)) = true := decide_eq_true (lt_lt hlt)
      have HQ := Aside0.mk (pieceB_snoc i k)
      have HLA := Aside0.mk (show ((pieceB i k).length + 1) * 1 ≤ 140737488355328 by rw [pieceB_len]; omega)
      have hwb : IntKind.u8.wrap (7 * (i : Int) + (k : Int)) = (7 * (i : Int) + (k : Int)) % 256 := w8_u8 (by omega)
      have hwk : wrap64 ((k : Int) + 1) = (k : Int) + 1 := n64 (by omega) (by omega)
      have hws : wrap64 (7 * (i : Int) + (k : Int)) = 7 * (i : Int) + (k : Int) := n64 (by omega) (by omega)
      generalize pieceB i k = done at *
      go_wp2_with (first | ((with_reducible refine gate_builtin (b := .append) (xs := #[.tmp 16, .tmp 22]) rfl ?_); at_builtin; refine Kd.R_append (Kd.int .u8) (w0 := w) w.heap.size rfl (.tmp 16) (.tmp 22) 53 5 (.int .u8 0) 1 rfl Try.underlying53 info5 rfl Nat.zero_lt_one Nat.zero_lt_one V6 done ((7 * (i : Int) + (k : Int)) % 256) [.int .u8 ((7 * (i : Int) + (k : Int)) % 256)] (fun _ => True) (fun _ => False) rfl rfl ?aP (fun _ hk => hk.elim) ?aF ?aO ?aB ?aS ?aL ?_; (case aP => exact rfl); (case aB => exact (by repeat (first | (with_reducible first | exact HB.out | apply below_alloc | apply pw_below_drewN | apply below_drew1) | exact HB.out))); (case aF => exact (fun _ _ => trivial)); (case aO => exact (by (with_reducible repeat (first | apply Kd.R_alloc | apply Kd.R_drewN | apply Kd.R_drew)); exact HO.out)); (case aS => exact (below_size (by repeat (first | (with_reducible first | exact HB.out | apply below_alloc | apply pw_below_drewN | apply below_drew1) | exact HB.out)))); (case aL => exact HLA.out); intro V9 w9 ho hb hg hat; have n0_ := Aside0.mk hb; have n1_ := Aside0.mk ho; clear HB HO hb ho hg hat; have HB := n0_; have HO := n1_; clear n0_ n1_))
      rw [← HQ.out] at HO
      go_roundw
      case rel => exact ⟨k + 1, hlt, by go_num, HO, HB⟩
      case measure => simp [intOf]; exact left_lt hlt
    · obtain rfl : k = n := by omega
      have hltb : decide ((k : Int) < (k : Int)) = false := decide_eq_false (Int.lt_irrefl _)
      go_wp2
      go_ret
      exact ⟨_, rfl, HO.out, HB.out⟩
end Go.Proofs.Ytphpinfingaffaa.Law
