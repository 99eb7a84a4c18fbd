/-
  The structures that the statements speak of, and their abstract values.
-/
import Derived.Test.YtjnfldkcbcfboaaGreatDoorKd
namespace Go.Proofs.YtjnfldkcbcfboaaGreatDoor
set_option linter.unusedVariables false
def intP (n : Int) : PV := .sc (.int .i64 n)
def boolP (b : Bool) : PV := .sc (.bool b)
def strP (s : ByteArray) : PV := .sc (.string s)
def intsP (l : List Int) : PV := .sl (l.map intP)
theorem intP_of (p : PV) (h : HasC (.i .i64) p) : ∃ x, p = intP x := by obtain ⟨n, rfl⟩ := h.int_inv; exact ⟨n, rfl⟩
theorem boolP_of (p : PV) (h : HasC .b p) : ∃ x, p = boolP x := by obtain ⟨n, rfl⟩ := h.bool_inv; exact ⟨n, rfl⟩
theorem strP_of (p : PV) (h : HasC .s p) : ∃ x, p = strP x := by obtain ⟨n, rfl⟩ := h.str_inv; exact ⟨n, rfl⟩
structure WinS where
  from_ : Int
  to_ : Int
def WinS.vals (x : WinS) : List Value := [.int .i64 x.from_, .int .i64 x.to_]
def WinS.pv (x : WinS) : PV := .agg (x.vals.map .sc)
def WinS.cl : List Cl := [.i .i64, .i .i64]
theorem WinS.of_cl {ps : List PV} (h : HasCs WinS.cl ps) : ∃ x : WinS, PV.agg ps = x.pv := by
  obtain ⟨p0, _, rfl, h0, h⟩ := HasCs.cons.1 h
  obtain ⟨p1, _, rfl, h1, h⟩ := HasCs.cons.1 h
  rw [HasCs.nil] at h; subst h
  obtain ⟨x0, rfl⟩ := h0.int_inv
  obtain ⟨x1, rfl⟩ := h1.int_inv
  exact ⟨⟨x0, x1⟩, rfl⟩
structure TableS where
  rows : Int
  cols : Int
  cells : List Int
def TableS.pv (x : TableS) : PV := .agg [.sc (.int .i64 x.rows), .sc (.int .i64 x.cols), .sl (x.cells.map intP)]
def TableS.cl : List Cl := [.i .i64, .i .i64, .sl false [.i .i64]]
theorem TableS.of_cl {ps : List PV} (h : HasCs TableS.cl ps) : ∃ x : TableS, PV.agg ps = x.pv := by
  obtain ⟨p0, _, rfl, h0, h⟩ := HasCs.cons.1 h
  obtain ⟨p1, _, rfl, h1, h⟩ := HasCs.cons.1 h
  obtain ⟨p2, _, rfl, h2, h⟩ := HasCs.cons.1 h
  rw [HasCs.nil] at h; subst h
  obtain ⟨x0, rfl⟩ := h0.int_inv
  obtain ⟨x1, rfl⟩ := h1.int_inv
  obtain ⟨x2, rfl⟩ := HasC.sl1_inv intP_of h2
  exact ⟨⟨x0, x1, x2⟩, rfl⟩
structure NoiseS where
  weights : List Int
def NoiseS.pv (x : NoiseS) : PV := .agg [.sl (x.weights.map intP)]
def NoiseS.cl : List Cl := [.sl false [.i .i64]]
theorem NoiseS.of_cl {ps : List PV} (h : HasCs NoiseS.cl ps) : ∃ x : NoiseS, PV.agg ps = x.pv := by
  obtain ⟨p0, _, rfl, h0, h⟩ := HasCs.cons.1 h
  rw [HasCs.nil] at h; subst h
  obtain ⟨x0, rfl⟩ := HasC.sl1_inv intP_of h0
  exact ⟨⟨x0⟩, rfl⟩
structure RelS where
  when_ : WinS
  each : Int
  table : TableS
  hidden : List Bool
  rowSums : List Int
  colSums : List Int
  noise : NoiseS
def RelS.pv (x : RelS) : PV := .agg [.sc (.int .i64 x.when_.from_), .sc (.int .i64 x.when_.to_), .sc (.int .i64 x.each), .sc (.int .i64 x.table.rows), .sc (.int .i64 x.table.cols), .sl (x.table.cells.map intP), .sl (x.hidden.map boolP), .sl (x.rowSums.map intP), .sl (x.colSums.map intP), .sl (x.noise.weights.map intP)]
def RelS.cl : List Cl := [.i .i64, .i .i64, .i .i64, .i .i64, .i .i64, .sl false [.i .i64], .sl false [.b], .sl false [.i .i64], .sl false [.i .i64], .sl false [.i .i64]]
theorem RelS.of_cl {ps : List PV} (h : HasCs RelS.cl ps) : ∃ x : RelS, PV.agg ps = x.pv := by
  obtain ⟨p0, _, rfl, h0, h⟩ := HasCs.cons.1 h
  obtain ⟨p1, _, rfl, h1, h⟩ := HasCs.cons.1 h
  obtain ⟨p2, _, rfl, h2, h⟩ := HasCs.cons.1 h
  obtain ⟨p3, _, rfl, h3, h⟩ := HasCs.cons.1 h
  obtain ⟨p4, _, rfl, h4, h⟩ := HasCs.cons.1 h
  obtain ⟨p5, _, rfl, h5, h⟩ := HasCs.cons.1 h
  obtain ⟨p6, _, rfl, h6, h⟩ := HasCs.cons.1 h
  obtain ⟨p7, _, rfl, h7, h⟩ := HasCs.cons.1 h
  obtain ⟨p8, _, rfl, h8, h⟩ := HasCs.cons.1 h
  obtain ⟨p9, _, rfl, h9, h⟩ := HasCs.cons.1 h
  rw [HasCs.nil] at h; subst h
  obtain ⟨x0, rfl⟩ := h0.int_inv
  obtain ⟨x1, rfl⟩ := h1.int_inv
  obtain ⟨x2, rfl⟩ := h2.int_inv
  obtain ⟨x3, rfl⟩ := h3.int_inv
  obtain ⟨x4, rfl⟩ := h4.int_inv
  obtain ⟨x5, rfl⟩ := HasC.sl1_inv intP_of h5
  obtain ⟨x6, rfl⟩ := HasC.sl1_inv boolP_of h6
  obtain ⟨x7, rfl⟩ := HasC.sl1_inv intP_of h7
  obtain ⟨x8, rfl⟩ := HasC.sl1_inv intP_of h8
  obtain ⟨x9, rfl⟩ := HasC.sl1_inv intP_of h9
  exact ⟨⟨⟨x0, x1⟩, x2, ⟨x3, x4, x5⟩, x6, x7, x8, ⟨x9⟩⟩, rfl⟩
structure FleetS where
  bikes : Int
  riders : Int
  devices : Int
  docks : List Int
  trucks : List Int
def FleetS.pv (x : FleetS) : PV := .agg [.sc (.int .i64 x.bikes), .sc (.int .i64 x.riders), .sc (.int .i64 x.devices), .sl (x.docks.map intP), .sl (x.trucks.map intP)]
def FleetS.cl : List Cl := [.i .i64, .i .i64, .i .i64, .sl false [.i .i64], .sl false [.i .i64]]
theorem FleetS.of_cl {ps : List PV} (h : HasCs FleetS.cl ps) : ∃ x : FleetS, PV.agg ps = x.pv := by
  obtain ⟨p0, _, rfl, h0, h⟩ := HasCs.cons.1 h
  obtain ⟨p1, _, rfl, h1, h⟩ := HasCs.cons.1 h
  obtain ⟨p2, _, rfl, h2, h⟩ := HasCs.cons.1 h
  obtain ⟨p3, _, rfl, h3, h⟩ := HasCs.cons.1 h
  obtain ⟨p4, _, rfl, h4, h⟩ := HasCs.cons.1 h
  rw [HasCs.nil] at h; subst h
  obtain ⟨x0, rfl⟩ := h0.int_inv
  obtain ⟨x1, rfl⟩ := h1.int_inv
  obtain ⟨x2, rfl⟩ := h2.int_inv
  obtain ⟨x3, rfl⟩ := HasC.sl1_inv intP_of h3
  obtain ⟨x4, rfl⟩ := HasC.sl1_inv intP_of h4
  exact ⟨⟨x0, x1, x2, x3, x4⟩, rfl⟩
structure SpotS where
  where_ : Int
  place : Int
  ride : Int
  paused : Bool
def SpotS.vals (x : SpotS) : List Value := [.int .i64 x.where_, .int .i64 x.place, .int .i64 x.ride, .bool x.paused]
def SpotS.pv (x : SpotS) : PV := .agg (x.vals.map .sc)
def SpotS.cl : List Cl := [.i .i64, .i .i64, .i .i64, .b]
theorem SpotS.of_cl {ps : List PV} (h : HasCs SpotS.cl ps) : ∃ x : SpotS, PV.agg ps = x.pv := by
  obtain ⟨p0, _, rfl, h0, h⟩ := HasCs.cons.1 h
  obtain ⟨p1, _, rfl, h1, h⟩ := HasCs.cons.1 h
  obtain ⟨p2, _, rfl, h2, h⟩ := HasCs.cons.1 h
  obtain ⟨p3, _, rfl, h3, h⟩ := HasCs.cons.1 h
  rw [HasCs.nil] at h; subst h
  obtain ⟨x0, rfl⟩ := h0.int_inv
  obtain ⟨x1, rfl⟩ := h1.int_inv
  obtain ⟨x2, rfl⟩ := h2.int_inv
  obtain ⟨x3, rfl⟩ := h3.bool_inv
  exact ⟨⟨x0, x1, x2, x3⟩, rfl⟩
end Go.Proofs.YtjnfldkcbcfboaaGreatDoor
