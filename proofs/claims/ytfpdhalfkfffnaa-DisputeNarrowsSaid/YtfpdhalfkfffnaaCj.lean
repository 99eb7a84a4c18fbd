import Derived.Test.YtfpdhalfkfffnaaCi
namespace Go.Proofs.Ytfpdhalfkfffnaa
open Go.RowKit
set_option linter.unusedVariables false
set_option linter.unusedSimpArgs false
set_option linter.unnecessarySimpa false

variable {w : World}
theorem RideS.rep0 {x : RideS} (h : RideS.ok w x) : RepI (fun _ => False) w x.pv (RV x) := RideS.rep h (fun _ _ h => h)
theorem EvS.rep0 {x : EvS} (h : EvS.ok w x) : RepI (fun _ => False) w x.pv (.agg x.vals.toArray) := EvS.rep h
theorem EvS.rep_sl0 {l : List EvS} {a : Option Addr} {cap : Nat} (h : EvS.sl w a cap l) : RepI (fun _ => False) w (.sl (l.map EvS.pv)) (.slice a l.length cap) := EvS.rep_sl h (fun _ _ _ h => h)
theorem RideS.rep_sl0 {l : List RideS} {a : Option Addr} {cap : Nat} (h : RideS.sl w a cap l) : RepI (fun _ => False) w (.sl (l.map RideS.pv)) (.slice a l.length cap) := by
  obtain ⟨h1, h2, h3, h4, h5⟩ := h
  refine Go.Proofs.Ytfpdhalfkfffnaa.rep_sl (n := 13) RideS.pv (fun i => ((l[i]?).map RideS.vals).getD []) (fun x _ => by simp [RideS.pv, PV.flat]) h1 h2 h3 (fun hp => ?_)
  obtain ⟨b, o, rfl, hb, hat⟩ := h4 hp
  refine ⟨b, o, rfl, hb, fun h => h, fun i hi => ?_⟩
  simp only [List.getElem?_eq_getElem hi, Option.map_some, Option.getD_some]
  have hok := h5 _ (List.getElem_mem hi)
  obtain ⟨us, e1, e2⟩ := agg_pw.1 (RideS.rep0 hok)
  have e3 : us = l[i].vals := by
    have : (us.toArray).toList = (l[i].vals.toArray).toList := by injection e1 with e; rw [e]
    simpa using this
  subst e3
  refine ⟨e2, fun j u hu => ?_⟩
  obtain ⟨g0, g1, g2, g3, g4, g5, g6, g7, g8, g9, g10, g11, g12⟩ := hat i hi
  match j, hu with
  | 0, hu => cases hu; exact g0
  | 1, hu => cases hu; exact g1
  | 2, hu => cases hu; exact g2
  | 3, hu => cases hu; exact g3
  | 4, hu => cases hu; exact g4
  | 5, hu => cases hu; exact g5
  | 6, hu => cases hu; exact g6
  | 7, hu => cases hu; exact g7
  | 8, hu => cases hu; exact g8
  | 9, hu => cases hu; exact g9
  | 10, hu => cases hu; exact g10
  | 11, hu => cases hu; exact g11
  | 12, hu => cases hu; exact g12
theorem disputeOnes_good (r : RideS) (e : EvS) : Good Try.prog 3 [r.pv, e.pv] (.sc (.bool true)) := ones_good r e
theorem disputeAlls_good (r : RideS) (l : List EvS) : Good Try.prog 4 [r.pv, .sl (l.map EvS.pv)] (.sc (.bool true)) := alls_good r l
theorem disputeApplies_good (rs : List RideS) (l : List EvS) : Good Try.prog 8 [.sl (rs.map RideS.pv), .sl (l.map EvS.pv)] (.sc (.bool true)) := applies_g rs l


end Go.Proofs.Ytfpdhalfkfffnaa
