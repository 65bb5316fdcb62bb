/- Gf2Finds: the first irreducible polynomial from any seed on is the reference's, or there is none of that degree. No condition: for every uint64 and int (the law itself looks at degrees up to 14, or such as may not be). -/
import Derived.Test.YtgkkimonpfhbdaaAx6
import Derived.Test.YtgkkimonpfhbdaaRef
namespace Go.Proofs.Ytgkkimonpfhbdaa.Pure
open Go.RowKit Go.Proofs.Ytgkkimonpfhbdaa.A Go.Proofs.Ytgkkimonpfhbdaa.Law Go.Proofs.YtgkkimonpfhbdaaW.PrintWords Go.Proofs.YtgkkimonpfhbdaaW.PrintLast Go.Proofs.YtgkkimonpfhbdaaW.PrintMore

theorem Gf2Finds : hypogeumlaw12_Gf2Finds.Pure := by
  intro seed d ws wd
  obtain ⟨seed, rfl, hs⟩ := of_wf ws
  by_cases hbig : d > 14
  · by_cases h53 : d ≤ 53
    · exact Ev.rounds (Ev.step (fun k => by unfold hypogeumlaw12_Gf2Finds.f; rw [if_pos hbig, show decide (d ≤ 53) = true from decide_eq_true h53]; rfl) then_awake)
    · refine Ev.rounds (Ev.step (fun k => by unfold hypogeumlaw12_Gf2Finds.f; rw [if_pos hbig, show decide (d ≤ 53) = false from decide_eq_false h53]; rfl) (Ev.bind (ev_find_bad (d := d) (.inr (by omega))) (Ev.bind (ev_rfind_bad (d := d) (.inr (by omega))) ?_)))
      exact Ev.congr (fun k => by rw [if_pos rfl, if_pos rfl]) then_awake
  · refine Ev.rounds (Ev.step (f := fun k => (gf2_Find.f k (seed : Int) d).bind fun bt217 => ((hypogeumref12_Find.f k (seed : Int) d).bind fun bt219 => (if bt217.1 = bt219.1 then (if bt217.2 = bt219.2 then ((hypogeumlaw12_awake.f k).bind fun t221 => (some t221)) else (some false)) else (some false)))) (fun k => by unfold hypogeumlaw12_Gf2Finds.f; rw [if_neg hbig]; rfl) ?_)
    by_cases h2 : d < 2
    · refine Ev.bind (ev_find_bad (.inl h2)) (Ev.bind (ev_rfind_bad (.inl h2)) ?_)
      exact Ev.congr (fun k => by rw [if_pos rfl, if_pos rfl]) then_awake
    · obtain ⟨d, rfl⟩ : ∃ j : Nat, d = (j : Int) := ⟨d.toNat, by omega⟩
      obtain ⟨j, hj, hall⟩ := exists_far (d := d) (by omega) (by omega) seed
      refine Ev.bind (ev_find hs (by omega) (by omega) hj hall) (Ev.bind (ev_rfind (by omega) (by omega) hj hall) ?_)
      exact Ev.congr (fun k => by rw [if_pos rfl, if_pos rfl]) then_awake
end Go.Proofs.Ytgkkimonpfhbdaa.Pure
