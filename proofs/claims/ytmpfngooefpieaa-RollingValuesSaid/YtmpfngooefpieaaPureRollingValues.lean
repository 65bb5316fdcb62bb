/- RollingValues: the fingerprint behind any bytes is the document's, or there is none by that polynomial: for all uint64 and all bytes. -/
import Derived.Test.YtmpfngooefpieaaRefOf
namespace Go.Proofs.Ytmpfngooefpieaa.Pure
open Go.RowKit Go.Proofs.Ytmpfngooefpieaa.A Go.Proofs.Ytmpfngooefpieaa.Law Go.Proofs.YtmpfngooefpieaaW.PrintWords Go.Proofs.YtmpfngooefpieaaW.PrintLast

theorem RollingValues : hypogeumlaw13_RollingValues.Pure := by
  intro a0 l wm hmax hsz wb
  obtain ⟨m, rfl, hu⟩ := of_wf wm
  have hb := bytes_wf wb
  have ha : hypogeumlaw13_awake.f = some true := rfl
  unfold hypogeumlaw13_RollingValues.f
  by_cases hl : (l.length : Int) > 4000
  · exact ⟨0, by rw [if_pos hl]; rfl⟩
  · obtain ⟨k1, h1⟩ := ev_right hu
    simp only at h1
    by_cases hm : May m
    · obtain ⟨k2, h2⟩ := ev_rof hm l hb (by omega)
      simp only at h2
      refine ⟨k1 + k2, ?_⟩
      rw [if_neg hl, Option.bind_some, if_pos (by simp only [List.length_nil]; omega), List.nil_append, ofF_good hm hb, Option.bind_some]
      rw [h1 (k1 + k2) (by omega), Option.bind_some, decide_eq_true hm, if_pos rfl]
      rw [h2 (k1 + k2) (by omega), Option.bind_some, if_pos rfl, if_pos rfl, ha]; rfl
    · refine ⟨k1, ?_⟩
      rw [if_neg hl, Option.bind_some, if_pos (by simp only [List.length_nil]; omega), List.nil_append, ofF_bad hu hm hb, Option.bind_some]
      rw [h1 k1 (by omega), Option.bind_some, decide_eq_false hm, if_neg (by decide), if_pos rfl, if_pos rfl, ha]; rfl

end Go.Proofs.Ytmpfngooefpieaa.Pure
