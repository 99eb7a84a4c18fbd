/-
  The structures that the statements speak of, and their abstract values.
-/
import Derived.Test.YthgnbkcopapbmaaKd
namespace Go.Proofs.Ythgnbkcopapbmaa
set_option linter.unusedVariables false
def intP (n : Int) : PV := .sc (.int .i64 n)
def boolP (b : Bool) : PV := .sc (.bool b)
def strP (s : ByteArray) : PV := .sc (.string s)
def intsP (l : List Int) : PV := .sl (l.map intP)
theorem intP_of (p : PV) (h : HasC (.i .i64) p) : ∃ x, p = intP x := by obtain ⟨n, rfl⟩ := h.int_inv; exact ⟨n, rfl⟩
theorem boolP_of (p : PV) (h : HasC .b p) : ∃ x, p = boolP x := by obtain ⟨n, rfl⟩ := h.bool_inv; exact ⟨n, rfl⟩
theorem strP_of (p : PV) (h : HasC .s p) : ∃ x, p = strP x := by obtain ⟨n, rfl⟩ := h.str_inv; exact ⟨n, rfl⟩
structure SpanS where
  lo : Int
  hi : Int
def SpanS.vals (x : SpanS) : List Value := [.int .i64 x.lo, .int .i64 x.hi]
def SpanS.pv (x : SpanS) : PV := .agg (x.vals.map .sc)
def SpanS.cl : List Cl := [.i .i64, .i .i64]
theorem SpanS.of_cl {ps : List PV} (h : HasCs SpanS.cl ps) : ∃ x : SpanS, PV.agg ps = x.pv := by
  obtain ⟨p0, _, rfl, h0, h⟩ := HasCs.cons.1 h
  obtain ⟨p1, _, rfl, h1, h⟩ := HasCs.cons.1 h
  rw [HasCs.nil] at h; subst h
  obtain ⟨x0, rfl⟩ := h0.int_inv
  obtain ⟨x1, rfl⟩ := h1.int_inv
  exact ⟨⟨x0, x1⟩, rfl⟩
structure LegS where
  bike : Int
  from_ : SpanS
  to_ : SpanS
def LegS.vals (x : LegS) : List Value := [.int .i64 x.bike, .int .i64 x.from_.lo, .int .i64 x.from_.hi, .int .i64 x.to_.lo, .int .i64 x.to_.hi]
def LegS.pv (x : LegS) : PV := .agg (x.vals.map .sc)
def LegS.cl : List Cl := [.i .i64, .i .i64, .i .i64, .i .i64, .i .i64]
theorem LegS.of_cl {ps : List PV} (h : HasCs LegS.cl ps) : ∃ x : LegS, PV.agg ps = x.pv := by
  obtain ⟨p0, _, rfl, h0, h⟩ := HasCs.cons.1 h
  obtain ⟨p1, _, rfl, h1, h⟩ := HasCs.cons.1 h
  obtain ⟨p2, _, rfl, h2, h⟩ := HasCs.cons.1 h
  obtain ⟨p3, _, rfl, h3, h⟩ := HasCs.cons.1 h
  obtain ⟨p4, _, rfl, h4, h⟩ := HasCs.cons.1 h
  rw [HasCs.nil] at h; subst h
  obtain ⟨x0, rfl⟩ := h0.int_inv
  obtain ⟨x1, rfl⟩ := h1.int_inv
  obtain ⟨x2, rfl⟩ := h2.int_inv
  obtain ⟨x3, rfl⟩ := h3.int_inv
  obtain ⟨x4, rfl⟩ := h4.int_inv
  exact ⟨⟨x0, ⟨x1, x2⟩, ⟨x3, x4⟩⟩, rfl⟩
structure PauseS where
  from_ : SpanS
  to_ : SpanS
def PauseS.vals (x : PauseS) : List Value := [.int .i64 x.from_.lo, .int .i64 x.from_.hi, .int .i64 x.to_.lo, .int .i64 x.to_.hi]
def PauseS.pv (x : PauseS) : PV := .agg (x.vals.map .sc)
def PauseS.cl : List Cl := [.i .i64, .i .i64, .i .i64, .i .i64]
theorem PauseS.of_cl {ps : List PV} (h : HasCs PauseS.cl ps) : ∃ x : PauseS, PV.agg ps = x.pv := by
  obtain ⟨p0, _, rfl, h0, h⟩ := HasCs.cons.1 h
  obtain ⟨p1, _, rfl, h1, h⟩ := HasCs.cons.1 h
  obtain ⟨p2, _, rfl, h2, h⟩ := HasCs.cons.1 h
  obtain ⟨p3, _, rfl, h3, h⟩ := HasCs.cons.1 h
  rw [HasCs.nil] at h; subst h
  obtain ⟨x0, rfl⟩ := h0.int_inv
  obtain ⟨x1, rfl⟩ := h1.int_inv
  obtain ⟨x2, rfl⟩ := h2.int_inv
  obtain ⟨x3, rfl⟩ := h3.int_inv
  exact ⟨⟨⟨x0, x1⟩, ⟨x2, x3⟩⟩, rfl⟩
structure RideS where
  id : Int
  rider : Int
  start : SpanS
  end_ : SpanS
  open_ : Bool
  legs : List LegS
  pauses : List PauseS
  fromWhere : Int
  fromPlace : Int
  where_ : Int
  place : Int
def RideS.pv (x : RideS) : PV := .agg [.sc (.int .i64 x.id), .sc (.int .i64 x.rider), .sc (.int .i64 x.start.lo), .sc (.int .i64 x.start.hi), .sc (.int .i64 x.end_.lo), .sc (.int .i64 x.end_.hi), .sc (.bool x.open_), .sl (x.legs.map LegS.pv), .sl (x.pauses.map PauseS.pv), .sc (.int .i64 x.fromWhere), .sc (.int .i64 x.fromPlace), .sc (.int .i64 x.where_), .sc (.int .i64 x.place)]
def RideS.cl : List Cl := [.i .i64, .i .i64, .i .i64, .i .i64, .i .i64, .i .i64, .b, .sl true LegS.cl, .sl true PauseS.cl, .i .i64, .i .i64, .i .i64, .i .i64]
theorem RideS.of_cl {ps : List PV} (h : HasCs RideS.cl ps) : ∃ x : RideS, PV.agg ps = x.pv := by
  obtain ⟨p0, _, rfl, h0, h⟩ := HasCs.cons.1 h
  obtain ⟨p1, _, rfl, h1, h⟩ := HasCs.cons.1 h
  obtain ⟨p2, _, rfl, h2, h⟩ := HasCs.cons.1 h
  obtain ⟨p3, _, rfl, h3, h⟩ := HasCs.cons.1 h
  obtain ⟨p4, _, rfl, h4, h⟩ := HasCs.cons.1 h
  obtain ⟨p5, _, rfl, h5, h⟩ := HasCs.cons.1 h
  obtain ⟨p6, _, rfl, h6, h⟩ := HasCs.cons.1 h
  obtain ⟨p7, _, rfl, h7, h⟩ := HasCs.cons.1 h
  obtain ⟨p8, _, rfl, h8, h⟩ := HasCs.cons.1 h
  obtain ⟨p9, _, rfl, h9, h⟩ := HasCs.cons.1 h
  obtain ⟨p10, _, rfl, h10, h⟩ := HasCs.cons.1 h
  obtain ⟨p11, _, rfl, h11, h⟩ := HasCs.cons.1 h
  obtain ⟨p12, _, rfl, h12, h⟩ := HasCs.cons.1 h
  rw [HasCs.nil] at h; subst h
  obtain ⟨x0, rfl⟩ := h0.int_inv
  obtain ⟨x1, rfl⟩ := h1.int_inv
  obtain ⟨x2, rfl⟩ := h2.int_inv
  obtain ⟨x3, rfl⟩ := h3.int_inv
  obtain ⟨x4, rfl⟩ := h4.int_inv
  obtain ⟨x5, rfl⟩ := h5.int_inv
  obtain ⟨x6, rfl⟩ := h6.bool_inv
  obtain ⟨x7, rfl⟩ := HasC.sl_inv (fun _ => LegS.of_cl) h7
  obtain ⟨x8, rfl⟩ := HasC.sl_inv (fun _ => PauseS.of_cl) h8
  obtain ⟨x9, rfl⟩ := h9.int_inv
  obtain ⟨x10, rfl⟩ := h10.int_inv
  obtain ⟨x11, rfl⟩ := h11.int_inv
  obtain ⟨x12, rfl⟩ := h12.int_inv
  exact ⟨⟨x0, x1, ⟨x2, x3⟩, ⟨x4, x5⟩, x6, x7, x8, x9, x10, x11, x12⟩, rfl⟩
structure RuleS where
  kind : Int
  limit : Int
  days : Int
def RuleS.vals (x : RuleS) : List Value := [.int .i64 x.kind, .int .i64 x.limit, .int .i64 x.days]
def RuleS.pv (x : RuleS) : PV := .agg (x.vals.map .sc)
def RuleS.cl : List Cl := [.i .i64, .i .i64, .i .i64]
theorem RuleS.of_cl {ps : List PV} (h : HasCs RuleS.cl ps) : ∃ x : RuleS, PV.agg ps = x.pv := by
  obtain ⟨p0, _, rfl, h0, h⟩ := HasCs.cons.1 h
  obtain ⟨p1, _, rfl, h1, h⟩ := HasCs.cons.1 h
  obtain ⟨p2, _, rfl, h2, h⟩ := HasCs.cons.1 h
  rw [HasCs.nil] at h; subst h
  obtain ⟨x0, rfl⟩ := h0.int_inv
  obtain ⟨x1, rfl⟩ := h1.int_inv
  obtain ⟨x2, rfl⟩ := h2.int_inv
  exact ⟨⟨x0, x1, x2⟩, rfl⟩
structure CheckS where
  bike : Int
  kind : Int
  at_ : Int
  good : Bool
def CheckS.vals (x : CheckS) : List Value := [.int .i64 x.bike, .int .i64 x.kind, .int .i64 x.at_, .bool x.good]
def CheckS.pv (x : CheckS) : PV := .agg (x.vals.map .sc)
def CheckS.cl : List Cl := [.i .i64, .i .i64, .i .i64, .b]
theorem CheckS.of_cl {ps : List PV} (h : HasCs CheckS.cl ps) : ∃ x : CheckS, PV.agg ps = x.pv := by
  obtain ⟨p0, _, rfl, h0, h⟩ := HasCs.cons.1 h
  obtain ⟨p1, _, rfl, h1, h⟩ := HasCs.cons.1 h
  obtain ⟨p2, _, rfl, h2, h⟩ := HasCs.cons.1 h
  obtain ⟨p3, _, rfl, h3, h⟩ := HasCs.cons.1 h
  rw [HasCs.nil] at h; subst h
  obtain ⟨x0, rfl⟩ := h0.int_inv
  obtain ⟨x1, rfl⟩ := h1.int_inv
  obtain ⟨x2, rfl⟩ := h2.int_inv
  obtain ⟨x3, rfl⟩ := h3.bool_inv
  exact ⟨⟨x0, x1, x2, x3⟩, rfl⟩
structure WearS where
  hour : List Int
  ride : List Int
def WearS.pv (x : WearS) : PV := .agg [.sl (x.hour.map intP), .sl (x.ride.map intP)]
def WearS.cl : List Cl := [.sl false [.i .i64], .sl false [.i .i64]]
theorem WearS.of_cl {ps : List PV} (h : HasCs WearS.cl ps) : ∃ x : WearS, PV.agg ps = x.pv := by
  obtain ⟨p0, _, rfl, h0, h⟩ := HasCs.cons.1 h
  obtain ⟨p1, _, rfl, h1, h⟩ := HasCs.cons.1 h
  rw [HasCs.nil] at h; subst h
  obtain ⟨x0, rfl⟩ := HasC.sl1_inv intP_of h0
  obtain ⟨x1, rfl⟩ := HasC.sl1_inv intP_of h1
  exact ⟨⟨x0, x1⟩, rfl⟩
structure WinS where
  from_ : Int
  to_ : Int
def WinS.vals (x : WinS) : List Value := [.int .i64 x.from_, .int .i64 x.to_]
def WinS.pv (x : WinS) : PV := .agg (x.vals.map .sc)
def WinS.cl : List Cl := [.i .i64, .i .i64]
theorem WinS.of_cl {ps : List PV} (h : HasCs WinS.cl ps) : ∃ x : WinS, PV.agg ps = x.pv := by
  obtain ⟨p0, _, rfl, h0, h⟩ := HasCs.cons.1 h
  obtain ⟨p1, _, rfl, h1, h⟩ := HasCs.cons.1 h
  rw [HasCs.nil] at h; subst h
  obtain ⟨x0, rfl⟩ := h0.int_inv
  obtain ⟨x1, rfl⟩ := h1.int_inv
  exact ⟨⟨x0, x1⟩, rfl⟩
structure EvS where
  ride : Int
  end_ : SpanS
def EvS.vals (x : EvS) : List Value := [.int .i64 x.ride, .int .i64 x.end_.lo, .int .i64 x.end_.hi]
def EvS.pv (x : EvS) : PV := .agg (x.vals.map .sc)
def EvS.cl : List Cl := [.i .i64, .i .i64, .i .i64]
theorem EvS.of_cl {ps : List PV} (h : HasCs EvS.cl ps) : ∃ x : EvS, PV.agg ps = x.pv := by
  obtain ⟨p0, _, rfl, h0, h⟩ := HasCs.cons.1 h
  obtain ⟨p1, _, rfl, h1, h⟩ := HasCs.cons.1 h
  obtain ⟨p2, _, rfl, h2, h⟩ := HasCs.cons.1 h
  rw [HasCs.nil] at h; subst h
  obtain ⟨x0, rfl⟩ := h0.int_inv
  obtain ⟨x1, rfl⟩ := h1.int_inv
  obtain ⟨x2, rfl⟩ := h2.int_inv
  exact ⟨⟨x0, ⟨x1, x2⟩⟩, rfl⟩
structure TariffS where
  from_ : Int
  unlock : Int
  step : Int
  free : Int
  price : Int
  pause : Int
def TariffS.vals (x : TariffS) : List Value := [.int .i64 x.from_, .int .i64 x.unlock, .int .i64 x.step, .int .i64 x.free, .int .i64 x.price, .int .i64 x.pause]
def TariffS.pv (x : TariffS) : PV := .agg (x.vals.map .sc)
def TariffS.cl : List Cl := [.i .i64, .i .i64, .i .i64, .i .i64, .i .i64, .i .i64]
theorem TariffS.of_cl {ps : List PV} (h : HasCs TariffS.cl ps) : ∃ x : TariffS, PV.agg ps = x.pv := by
  obtain ⟨p0, _, rfl, h0, h⟩ := HasCs.cons.1 h
  obtain ⟨p1, _, rfl, h1, h⟩ := HasCs.cons.1 h
  obtain ⟨p2, _, rfl, h2, h⟩ := HasCs.cons.1 h
  obtain ⟨p3, _, rfl, h3, h⟩ := HasCs.cons.1 h
  obtain ⟨p4, _, rfl, h4, h⟩ := HasCs.cons.1 h
  obtain ⟨p5, _, rfl, h5, h⟩ := HasCs.cons.1 h
  rw [HasCs.nil] at h; subst h
  obtain ⟨x0, rfl⟩ := h0.int_inv
  obtain ⟨x1, rfl⟩ := h1.int_inv
  obtain ⟨x2, rfl⟩ := h2.int_inv
  obtain ⟨x3, rfl⟩ := h3.int_inv
  obtain ⟨x4, rfl⟩ := h4.int_inv
  obtain ⟨x5, rfl⟩ := h5.int_inv
  exact ⟨⟨x0, x1, x2, x3, x4, x5⟩, rfl⟩
end Go.Proofs.Ythgnbkcopapbmaa
