/- Gf2Circle: by an irreducible polynomial m, x squared as often as m's degree tells is what is left of x by m. No condition: for every uint64 m. -/
import Derived.Test.YtgkkimonpfhbdaaAx7
import Derived.Test.YtgkkimonpfhbdaaBase
namespace Go.Proofs.Ytgkkimonpfhbdaa.Pure
open Go.RowKit Go.Proofs.Ytgkkimonpfhbdaa.A Go.Proofs.Ytgkkimonpfhbdaa.Law Go.Proofs.YtgkkimonpfhbdaaW.PrintWords Go.Proofs.YtgkkimonpfhbdaaW.PrintLast

theorem Gf2Circle : hypogeumlaw12_Gf2Circle.Pure := by
  intro a h
  obtain ⟨m, rfl, hm⟩ := of_wf h
  refine Ev.rounds (Ev.bind (ev_irr hm) ?_)
  cases hi : irr m with
  | false =>
    refine Ev.congr (f := fun k => (hypogeumlaw12_awake.f k).bind fun t => some t) (fun k => by rw [if_neg (by decide)]) ?_
    exact Ev.bind (f := fun _ t => some t) ev_awake (Ev.now _)
  | true =>
    have hirr := irr_true.mp hi
    have h0 := hirr.ne
    have hl := log2_u hm h0
    have hU2 : U 2 := by unfold U; omega
    refine Ev.congr (f := fun k => (gf2_Degree.f k (m : Int)).bind fun t256 => ((gf2_Square.f k ((2 : Nat) : Int) (m : Int) t256).bind fun bt257 => ((gf2_Mod.f k ((2 : Nat) : Int) (m : Int)).bind fun bt259 => (if bt257.1 = bt259.1 then (if bt257.2 = 0 then (if bt259.2 = 0 then ((hypogeumlaw12_awake.f k).bind fun t261 => (some t261)) else (some false)) else (some false)) else (some false))))) (fun k => by rw [if_pos rfl]; rfl) ?_
    refine Ev.bind (f := fun k t256 => ((gf2_Square.f k ((2 : Nat) : Int) (m : Int) t256).bind fun bt257 => ((gf2_Mod.f k ((2 : Nat) : Int) (m : Int)).bind fun bt259 => (if bt257.1 = bt259.1 then (if bt257.2 = 0 then (if bt259.2 = 0 then ((hypogeumlaw12_awake.f k).bind fun t261 => (some t261)) else (some false)) else (some false)) else (some false))))) (ev_degree hm) ?_
    rw [deg_ne h0]
    refine Ev.bind (f := fun k (bt257 : Int × Int) => ((gf2_Mod.f k ((2 : Nat) : Int) (m : Int)).bind fun bt259 => (if bt257.1 = bt259.1 then (if bt257.2 = 0 then (if bt259.2 = 0 then ((hypogeumlaw12_awake.f k).bind fun t261 => (some t261)) else (some false)) else (some false)) else (some false)))) (ev_square hU2 hm h0 (by omega)) ?_
    refine Ev.bind (f := fun k (bt259 : Int × Int) => (if ((Gf.rem (Gf.frob m.log2 2) m : Nat) : Int) = bt259.1 then (if (0 : Int) = 0 then (if bt259.2 = 0 then ((hypogeumlaw12_awake.f k).bind fun t261 => (some t261)) else (some false)) else (some false)) else (some false))) (ev_mod hU2 hm h0) ?_
    refine Ev.congr (f := fun k => (hypogeumlaw12_awake.f k).bind fun t => some t) (fun k => ?_) (Ev.bind (f := fun _ t => some t) ev_awake (Ev.now _))
    have e : Gf.rem (Gf.frob m.log2 2) m = Gf.rem 2 m := (Gf.rem_eq_iff h0).mpr (Gf.Irr.test hirr).1
    rw [if_pos (by rw [e]), if_pos rfl, if_pos rfl]
end Go.Proofs.Ytgkkimonpfhbdaa.Pure
