/-
  The structures that the statements speak of, and their abstract values.
-/
import Derived.Test.YtaejaogidkgalaaDoorKd
namespace Go.Proofs.YtaejaogidkgalaaDoor
set_option linter.unusedVariables false
def intP (n : Int) : PV := .sc (.int .i64 n)
def boolP (b : Bool) : PV := .sc (.bool b)
def strP (s : ByteArray) : PV := .sc (.string s)
def intsP (l : List Int) : PV := .sl (l.map intP)
theorem intP_of (p : PV) (h : HasC (.i .i64) p) : ∃ x, p = intP x := by obtain ⟨n, rfl⟩ := h.int_inv; exact ⟨n, rfl⟩
theorem boolP_of (p : PV) (h : HasC .b p) : ∃ x, p = boolP x := by obtain ⟨n, rfl⟩ := h.bool_inv; exact ⟨n, rfl⟩
theorem strP_of (p : PV) (h : HasC .s p) : ∃ x, p = strP x := by obtain ⟨n, rfl⟩ := h.str_inv; exact ⟨n, rfl⟩
structure SpanS where
  lo : Int
  hi : Int
def SpanS.vals (x : SpanS) : List Value := [.int .i64 x.lo, .int .i64 x.hi]
def SpanS.pv (x : SpanS) : PV := .agg (x.vals.map .sc)
def SpanS.cl : List Cl := [.i .i64, .i .i64]
theorem SpanS.of_cl {ps : List PV} (h : HasCs SpanS.cl ps) : ∃ x : SpanS, PV.agg ps = x.pv := by
  obtain ⟨p0, _, rfl, h0, h⟩ := HasCs.cons.1 h
  obtain ⟨p1, _, rfl, h1, h⟩ := HasCs.cons.1 h
  rw [HasCs.nil] at h; subst h
  obtain ⟨x0, rfl⟩ := h0.int_inv
  obtain ⟨x1, rfl⟩ := h1.int_inv
  exact ⟨⟨x0, x1⟩, rfl⟩
structure LegS where
  bike : Int
  from_ : SpanS
  to_ : SpanS
def LegS.vals (x : LegS) : List Value := [.int .i64 x.bike, .int .i64 x.from_.lo, .int .i64 x.from_.hi, .int .i64 x.to_.lo, .int .i64 x.to_.hi]
def LegS.pv (x : LegS) : PV := .agg (x.vals.map .sc)
def LegS.cl : List Cl := [.i .i64, .i .i64, .i .i64, .i .i64, .i .i64]
theorem LegS.of_cl {ps : List PV} (h : HasCs LegS.cl ps) : ∃ x : LegS, PV.agg ps = x.pv := by
  obtain ⟨p0, _, rfl, h0, h⟩ := HasCs.cons.1 h
  obtain ⟨p1, _, rfl, h1, h⟩ := HasCs.cons.1 h
  obtain ⟨p2, _, rfl, h2, h⟩ := HasCs.cons.1 h
  obtain ⟨p3, _, rfl, h3, h⟩ := HasCs.cons.1 h
  obtain ⟨p4, _, rfl, h4, h⟩ := HasCs.cons.1 h
  rw [HasCs.nil] at h; subst h
  obtain ⟨x0, rfl⟩ := h0.int_inv
  obtain ⟨x1, rfl⟩ := h1.int_inv
  obtain ⟨x2, rfl⟩ := h2.int_inv
  obtain ⟨x3, rfl⟩ := h3.int_inv
  obtain ⟨x4, rfl⟩ := h4.int_inv
  exact ⟨⟨x0, ⟨x1, x2⟩, ⟨x3, x4⟩⟩, rfl⟩
structure PauseS where
  from_ : SpanS
  to_ : SpanS
def PauseS.vals (x : PauseS) : List Value := [.int .i64 x.from_.lo, .int .i64 x.from_.hi, .int .i64 x.to_.lo, .int .i64 x.to_.hi]
def PauseS.pv (x : PauseS) : PV := .agg (x.vals.map .sc)
def PauseS.cl : List Cl := [.i .i64, .i .i64, .i .i64, .i .i64]
theorem PauseS.of_cl {ps : List PV} (h : HasCs PauseS.cl ps) : ∃ x : PauseS, PV.agg ps = x.pv := by
  obtain ⟨p0, _, rfl, h0, h⟩ := HasCs.cons.1 h
  obtain ⟨p1, _, rfl, h1, h⟩ := HasCs.cons.1 h
  obtain ⟨p2, _, rfl, h2, h⟩ := HasCs.cons.1 h
  obtain ⟨p3, _, rfl, h3, h⟩ := HasCs.cons.1 h
  rw [HasCs.nil] at h; subst h
  obtain ⟨x0, rfl⟩ := h0.int_inv
  obtain ⟨x1, rfl⟩ := h1.int_inv
  obtain ⟨x2, rfl⟩ := h2.int_inv
  obtain ⟨x3, rfl⟩ := h3.int_inv
  exact ⟨⟨⟨x0, x1⟩, ⟨x2, x3⟩⟩, rfl⟩
structure RideS where
  id : Int
  rider : Int
  start : SpanS
  end_ : SpanS
  open_ : Bool
  legs : List LegS
  pauses : List PauseS
  fromWhere : Int
  fromPlace : Int
  where_ : Int
  place : Int
def RideS.pv (x : RideS) : PV := .agg [.sc (.int .i64 x.id), .sc (.int .i64 x.rider), .sc (.int .i64 x.start.lo), .sc (.int .i64 x.start.hi), .sc (.int .i64 x.end_.lo), .sc (.int .i64 x.end_.hi), .sc (.bool x.open_), .sl (x.legs.map LegS.pv), .sl (x.pauses.map PauseS.pv), .sc (.int .i64 x.fromWhere), .sc (.int .i64 x.fromPlace), .sc (.int .i64 x.where_), .sc (.int .i64 x.place)]
def RideS.cl : List Cl := [.i .i64, .i .i64, .i .i64, .i .i64, .i .i64, .i .i64, .b, .sl true LegS.cl, .sl true PauseS.cl, .i .i64, .i .i64, .i .i64, .i .i64]
theorem RideS.of_cl {ps : List PV} (h : HasCs RideS.cl ps) : ∃ x : RideS, PV.agg ps = x.pv := by
  obtain ⟨p0, _, rfl, h0, h⟩ := HasCs.cons.1 h
  obtain ⟨p1, _, rfl, h1, h⟩ := HasCs.cons.1 h
  obtain ⟨p2, _, rfl, h2, h⟩ := HasCs.cons.1 h
  obtain ⟨p3, _, rfl, h3, h⟩ := HasCs.cons.1 h
  obtain ⟨p4, _, rfl, h4, h⟩ := HasCs.cons.1 h
  obtain ⟨p5, _, rfl, h5, h⟩ := HasCs.cons.1 h
  obtain ⟨p6, _, rfl, h6, h⟩ := HasCs.cons.1 h
  obtain ⟨p7, _, rfl, h7, h⟩ := HasCs.cons.1 h
  obtain ⟨p8, _, rfl, h8, h⟩ := HasCs.cons.1 h
  obtain ⟨p9, _, rfl, h9, h⟩ := HasCs.cons.1 h
  obtain ⟨p10, _, rfl, h10, h⟩ := HasCs.cons.1 h
  obtain ⟨p11, _, rfl, h11, h⟩ := HasCs.cons.1 h
  obtain ⟨p12, _, rfl, h12, h⟩ := HasCs.cons.1 h
  rw [HasCs.nil] at h; subst h
  obtain ⟨x0, rfl⟩ := h0.int_inv
  obtain ⟨x1, rfl⟩ := h1.int_inv
  obtain ⟨x2, rfl⟩ := h2.int_inv
  obtain ⟨x3, rfl⟩ := h3.int_inv
  obtain ⟨x4, rfl⟩ := h4.int_inv
  obtain ⟨x5, rfl⟩ := h5.int_inv
  obtain ⟨x6, rfl⟩ := h6.bool_inv
  obtain ⟨x7, rfl⟩ := HasC.sl_inv (fun _ => LegS.of_cl) h7
  obtain ⟨x8, rfl⟩ := HasC.sl_inv (fun _ => PauseS.of_cl) h8
  obtain ⟨x9, rfl⟩ := h9.int_inv
  obtain ⟨x10, rfl⟩ := h10.int_inv
  obtain ⟨x11, rfl⟩ := h11.int_inv
  obtain ⟨x12, rfl⟩ := h12.int_inv
  exact ⟨⟨x0, x1, ⟨x2, x3⟩, ⟨x4, x5⟩, x6, x7, x8, x9, x10, x11, x12⟩, rfl⟩
structure ItemS where
  kind : Int
  ref_ : Int
  amount : Int
def ItemS.vals (x : ItemS) : List Value := [.int .i64 x.kind, .int .i64 x.ref_, .int .i64 x.amount]
def ItemS.pv (x : ItemS) : PV := .agg (x.vals.map .sc)
def ItemS.cl : List Cl := [.i .i64, .i .i64, .i .i64]
theorem ItemS.of_cl {ps : List PV} (h : HasCs ItemS.cl ps) : ∃ x : ItemS, PV.agg ps = x.pv := by
  obtain ⟨p0, _, rfl, h0, h⟩ := HasCs.cons.1 h
  obtain ⟨p1, _, rfl, h1, h⟩ := HasCs.cons.1 h
  obtain ⟨p2, _, rfl, h2, h⟩ := HasCs.cons.1 h
  rw [HasCs.nil] at h; subst h
  obtain ⟨x0, rfl⟩ := h0.int_inv
  obtain ⟨x1, rfl⟩ := h1.int_inv
  obtain ⟨x2, rfl⟩ := h2.int_inv
  exact ⟨⟨x0, x1, x2⟩, rfl⟩
structure FareS where
  ride : Int
  rider : Int
  items : List ItemS
  total : Int
def FareS.pv (x : FareS) : PV := .agg [.sc (.int .i64 x.ride), .sc (.int .i64 x.rider), .sl (x.items.map ItemS.pv), .sc (.int .i64 x.total)]
def FareS.cl : List Cl := [.i .i64, .i .i64, .sl true ItemS.cl, .i .i64]
theorem FareS.of_cl {ps : List PV} (h : HasCs FareS.cl ps) : ∃ x : FareS, PV.agg ps = x.pv := by
  obtain ⟨p0, _, rfl, h0, h⟩ := HasCs.cons.1 h
  obtain ⟨p1, _, rfl, h1, h⟩ := HasCs.cons.1 h
  obtain ⟨p2, _, rfl, h2, h⟩ := HasCs.cons.1 h
  obtain ⟨p3, _, rfl, h3, h⟩ := HasCs.cons.1 h
  rw [HasCs.nil] at h; subst h
  obtain ⟨x0, rfl⟩ := h0.int_inv
  obtain ⟨x1, rfl⟩ := h1.int_inv
  obtain ⟨x2, rfl⟩ := HasC.sl_inv (fun _ => ItemS.of_cl) h2
  obtain ⟨x3, rfl⟩ := h3.int_inv
  exact ⟨⟨x0, x1, x2, x3⟩, rfl⟩
structure RefS where
  id : Int
  ride : Int
  item : Int
  amount : Int
def RefS.vals (x : RefS) : List Value := [.int .i64 x.id, .int .i64 x.ride, .int .i64 x.item, .int .i64 x.amount]
def RefS.pv (x : RefS) : PV := .agg (x.vals.map .sc)
def RefS.cl : List Cl := [.i .i64, .i .i64, .i .i64, .i .i64]
theorem RefS.of_cl {ps : List PV} (h : HasCs RefS.cl ps) : ∃ x : RefS, PV.agg ps = x.pv := by
  obtain ⟨p0, _, rfl, h0, h⟩ := HasCs.cons.1 h
  obtain ⟨p1, _, rfl, h1, h⟩ := HasCs.cons.1 h
  obtain ⟨p2, _, rfl, h2, h⟩ := HasCs.cons.1 h
  obtain ⟨p3, _, rfl, h3, h⟩ := HasCs.cons.1 h
  rw [HasCs.nil] at h; subst h
  obtain ⟨x0, rfl⟩ := h0.int_inv
  obtain ⟨x1, rfl⟩ := h1.int_inv
  obtain ⟨x2, rfl⟩ := h2.int_inv
  obtain ⟨x3, rfl⟩ := h3.int_inv
  exact ⟨⟨x0, x1, x2, x3⟩, rfl⟩
structure WinS where
  from_ : Int
  to_ : Int
def WinS.vals (x : WinS) : List Value := [.int .i64 x.from_, .int .i64 x.to_]
def WinS.pv (x : WinS) : PV := .agg (x.vals.map .sc)
def WinS.cl : List Cl := [.i .i64, .i .i64]
theorem WinS.of_cl {ps : List PV} (h : HasCs WinS.cl ps) : ∃ x : WinS, PV.agg ps = x.pv := by
  obtain ⟨p0, _, rfl, h0, h⟩ := HasCs.cons.1 h
  obtain ⟨p1, _, rfl, h1, h⟩ := HasCs.cons.1 h
  rw [HasCs.nil] at h; subst h
  obtain ⟨x0, rfl⟩ := h0.int_inv
  obtain ⟨x1, rfl⟩ := h1.int_inv
  exact ⟨⟨x0, x1⟩, rfl⟩
structure InvS where
  id : Int
  rider : Int
  when_ : WinS
  fares : List FareS
  refunds : List RefS
  total : Int
def InvS.pv (x : InvS) : PV := .agg [.sc (.int .i64 x.id), .sc (.int .i64 x.rider), .sc (.int .i64 x.when_.from_), .sc (.int .i64 x.when_.to_), .sl (x.fares.map FareS.pv), .sl (x.refunds.map RefS.pv), .sc (.int .i64 x.total)]
def InvS.cl : List Cl := [.i .i64, .i .i64, .i .i64, .i .i64, .sl true FareS.cl, .sl true RefS.cl, .i .i64]
theorem InvS.of_cl {ps : List PV} (h : HasCs InvS.cl ps) : ∃ x : InvS, PV.agg ps = x.pv := by
  obtain ⟨p0, _, rfl, h0, h⟩ := HasCs.cons.1 h
  obtain ⟨p1, _, rfl, h1, h⟩ := HasCs.cons.1 h
  obtain ⟨p2, _, rfl, h2, h⟩ := HasCs.cons.1 h
  obtain ⟨p3, _, rfl, h3, h⟩ := HasCs.cons.1 h
  obtain ⟨p4, _, rfl, h4, h⟩ := HasCs.cons.1 h
  obtain ⟨p5, _, rfl, h5, h⟩ := HasCs.cons.1 h
  obtain ⟨p6, _, rfl, h6, h⟩ := HasCs.cons.1 h
  rw [HasCs.nil] at h; subst h
  obtain ⟨x0, rfl⟩ := h0.int_inv
  obtain ⟨x1, rfl⟩ := h1.int_inv
  obtain ⟨x2, rfl⟩ := h2.int_inv
  obtain ⟨x3, rfl⟩ := h3.int_inv
  obtain ⟨x4, rfl⟩ := HasC.sl_inv (fun _ => FareS.of_cl) h4
  obtain ⟨x5, rfl⟩ := HasC.sl_inv (fun _ => RefS.of_cl) h5
  obtain ⟨x6, rfl⟩ := h6.int_inv
  exact ⟨⟨x0, x1, ⟨x2, x3⟩, x4, x5, x6⟩, rfl⟩
structure CaseS where
  id : Int
  rider : Int
  when_ : WinS
  rides : List RideS
  fares : List FareS
  refunds : List RefS
def CaseS.pv (x : CaseS) : PV := .agg [.sc (.int .i64 x.id), .sc (.int .i64 x.rider), .sc (.int .i64 x.when_.from_), .sc (.int .i64 x.when_.to_), .sl (x.rides.map RideS.pv), .sl (x.fares.map FareS.pv), .sl (x.refunds.map RefS.pv)]
def CaseS.cl : List Cl := [.i .i64, .i .i64, .i .i64, .i .i64, .sl true RideS.cl, .sl true FareS.cl, .sl true RefS.cl]
theorem CaseS.of_cl {ps : List PV} (h : HasCs CaseS.cl ps) : ∃ x : CaseS, PV.agg ps = x.pv := by
  obtain ⟨p0, _, rfl, h0, h⟩ := HasCs.cons.1 h
  obtain ⟨p1, _, rfl, h1, h⟩ := HasCs.cons.1 h
  obtain ⟨p2, _, rfl, h2, h⟩ := HasCs.cons.1 h
  obtain ⟨p3, _, rfl, h3, h⟩ := HasCs.cons.1 h
  obtain ⟨p4, _, rfl, h4, h⟩ := HasCs.cons.1 h
  obtain ⟨p5, _, rfl, h5, h⟩ := HasCs.cons.1 h
  obtain ⟨p6, _, rfl, h6, h⟩ := HasCs.cons.1 h
  rw [HasCs.nil] at h; subst h
  obtain ⟨x0, rfl⟩ := h0.int_inv
  obtain ⟨x1, rfl⟩ := h1.int_inv
  obtain ⟨x2, rfl⟩ := h2.int_inv
  obtain ⟨x3, rfl⟩ := h3.int_inv
  obtain ⟨x4, rfl⟩ := HasC.sl_inv (fun _ => RideS.of_cl) h4
  obtain ⟨x5, rfl⟩ := HasC.sl_inv (fun _ => FareS.of_cl) h5
  obtain ⟨x6, rfl⟩ := HasC.sl_inv (fun _ => RefS.of_cl) h6
  exact ⟨⟨x0, x1, ⟨x2, x3⟩, x4, x5, x6⟩, rfl⟩
end Go.Proofs.YtaejaogidkgalaaDoor
