import Derived.Test.YtfpdhalfkfffnaaV3
namespace Go.Proofs.Ytfpdhalfkfffnaa
open Go.RowKit
set_option linter.unusedVariables false
set_option linter.unusedSimpArgs false
set_option linter.unnecessarySimpa false

theorem sameD_c (a b : RideS) (w : World) (HA : RideS.ok w a) (HB : RideS.ok w b) : Calls Try.prog 14 #[RV a, RV b] w (Ret w (.bool (sameL a b))) := by
  cases h0 : (a.id == b.id)
  · exact same_no0 a b w h0
  cases h1 : (a.rider == b.rider)
  · exact same_no1 a b w h0 h1
  cases h2 : (a.start.lo == b.start.lo)
  · exact same_no2 a b w h0 h1 h2
  cases h3 : (a.start.hi == b.start.hi)
  · exact same_no3 a b w h0 h1 h2 h3
  cases h4 : (a.end_.lo == b.end_.lo)
  · exact same_no4 a b w h0 h1 h2 h3 h4
  cases h5 : (a.end_.hi == b.end_.hi)
  · exact same_no5 a b w h0 h1 h2 h3 h4 h5
  cases h6 : (a.open_ == b.open_)
  · exact same_no6 a b w h0 h1 h2 h3 h4 h5 h6
  cases h7 : (a.fromWhere == b.fromWhere)
  · exact same_no7 a b w h0 h1 h2 h3 h4 h5 h6 h7
  cases h8 : (a.fromPlace == b.fromPlace)
  · exact same_no8 a b w h0 h1 h2 h3 h4 h5 h6 h7 h8
  cases h9 : (a.where_ == b.where_)
  · exact same_no9 a b w h0 h1 h2 h3 h4 h5 h6 h7 h8 h9
  cases h10 : (a.place == b.place)
  · exact same_no10 a b w h0 h1 h2 h3 h4 h5 h6 h7 h8 h9 h10
  cases h11 : (a.legs.length == b.legs.length)
  · exact same_no11 a b w h0 h1 h2 h3 h4 h5 h6 h7 h8 h9 h10 h11
  cases h12 : (a.pauses.length == b.pauses.length)
  · exact same_no12 a b w h0 h1 h2 h3 h4 h5 h6 h7 h8 h9 h10 h11 h12
  exact same_yes a b w HA HB (by simp only [sameHead, eqS, h0, h1, h2, h3, h4, h5, h6, h7, h8, h9, h10, h11, h12, Bool.and_true])


end Go.Proofs.Ytfpdhalfkfffnaa
