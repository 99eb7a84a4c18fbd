import Derived.Test.YtfpdhalfkfffnaaV1
import Derived.Test.YtfpdhalfkfffnaaW3
namespace Go.Proofs.Ytfpdhalfkfffnaa
open Go.RowKit
set_option linter.unusedVariables false
set_option linter.unusedSimpArgs false
set_option linter.unnecessarySimpa false

def sameHead (a b : RideS) : Bool := a.id == b.id && (a.rider == b.rider && (eqS a.start b.start && (eqS a.end_ b.end_ && (a.open_ == b.open_ && (a.fromWhere == b.fromWhere && (a.fromPlace == b.fromPlace && (a.where_ == b.where_ && (a.place == b.place && (a.legs.length == b.legs.length && a.pauses.length == b.pauses.length)))))))))
theorem wp_world {P : Program} {c : Code} {Q : Exit → Act → World → Prop} {a : Act} {w : World} (h : ∀ W0, W0 = w → Code.wp P c Q a W0) : Code.wp P c Q a w := h w rfl
deriving instance DecidableEq for SpanS, LegS, PauseS, EvS
def sameL (a b : RideS) : Bool := sameHead a b && (decide (a.legs = b.legs) && decide (a.pauses = b.pauses))

set_option maxRecDepth 100000 in
set_option maxHeartbeats 1600000 in
theorem same_no0 (a b : RideS) (w : World) (h0 : (a.id == b.id) = false) : Calls Try.prog 14 #[RV a, RV b] w (Ret w (.bool (sameL a b))) := by
  have hV := hide (show sameL a b = false by simp only [sameL, sameHead, eqS, h0, Bool.true_and, Bool.false_and, Bool.and_false])
  have g0 : (a.id != b.id) = true := by simp only [bne, h0, Bool.not_false, Bool.not_true]
  go_enter Try.func14, Try.ntmps14
  go_wp2
  go_ret
  exact ⟨by rw [hV.out]; rfl, by repeat (first | with_reducible exact (Below.refl _ _) | with_reducible refine Below.setCell ?_ ?_ _ | with_reducible refine Below.alloc ?_ ?_ _ | with_reducible refine Below.drew ?_ | with_reducible refine below_drewN ?_ _ | omega | (simp <;> omega))⟩
set_option maxRecDepth 100000 in
set_option maxHeartbeats 1600000 in
theorem same_no1 (a b : RideS) (w : World) (h0 : (a.id == b.id) = true) (h1 : (a.rider == b.rider) = false) : Calls Try.prog 14 #[RV a, RV b] w (Ret w (.bool (sameL a b))) := by
  have hV := hide (show sameL a b = false by simp only [sameL, sameHead, eqS, h0, h1, Bool.true_and, Bool.false_and, Bool.and_false])
  have g0 : (a.id != b.id) = false := by simp only [bne, h0, Bool.not_false, Bool.not_true]
  have g1 : (a.rider != b.rider) = true := by simp only [bne, h1, Bool.not_false, Bool.not_true]
  go_enter Try.func14, Try.ntmps14
  go_wp2
  go_ret
  exact ⟨by rw [hV.out]; rfl, by repeat (first | with_reducible exact (Below.refl _ _) | with_reducible refine Below.setCell ?_ ?_ _ | with_reducible refine Below.alloc ?_ ?_ _ | with_reducible refine Below.drew ?_ | with_reducible refine below_drewN ?_ _ | omega | (simp <;> omega))⟩
set_option maxRecDepth 100000 in
set_option maxHeartbeats 1600000 in
theorem same_no2 (a b : RideS) (w : World) (h0 : (a.id == b.id) = true) (h1 : (a.rider == b.rider) = true) (h2 : (a.start.lo == b.start.lo) = false) : Calls Try.prog 14 #[RV a, RV b] w (Ret w (.bool (sameL a b))) := by
  have hV := hide (show sameL a b = false by simp only [sameL, sameHead, eqS, h0, h1, h2, Bool.true_and, Bool.false_and, Bool.and_false])
  have g0 : (a.id != b.id) = false := by simp only [bne, h0, Bool.not_false, Bool.not_true]
  have g1 : (a.rider != b.rider) = false := by simp only [bne, h1, Bool.not_false, Bool.not_true]
  have g2 : (a.start.lo != b.start.lo) = true := by simp only [bne, h2, Bool.not_false, Bool.not_true]
  go_enter Try.func14, Try.ntmps14
  go_wp2
  go_ret
  exact ⟨by rw [hV.out]; rfl, by repeat (first | with_reducible exact (Below.refl _ _) | with_reducible refine Below.setCell ?_ ?_ _ | with_reducible refine Below.alloc ?_ ?_ _ | with_reducible refine Below.drew ?_ | with_reducible refine below_drewN ?_ _ | omega | (simp <;> omega))⟩
set_option maxRecDepth 100000 in
set_option maxHeartbeats 1600000 in
theorem same_no3 (a b : RideS) (w : World) (h0 : (a.id == b.id) = true) (h1 : (a.rider == b.rider) = true) (h2 : (a.start.lo == b.start.lo) = true) (h3 : (a.start.hi == b.start.hi) = false) : Calls Try.prog 14 #[RV a, RV b] w (Ret w (.bool (sameL a b))) := by
  have hV := hide (show sameL a b = false by simp only [sameL, sameHead, eqS, h0, h1, h2, h3, Bool.true_and, Bool.false_and, Bool.and_false])
  have g0 : (a.id != b.id) = false := by simp only [bne, h0, Bool.not_false, Bool.not_true]
  have g1 : (a.rider != b.rider) = false := by simp only [bne, h1, Bool.not_false, Bool.not_true]
  have g2 : (a.start.lo != b.start.lo) = false := by simp only [bne, h2, Bool.not_false, Bool.not_true]
  have g3 : (a.start.hi != b.start.hi) = true := by simp only [bne, h3, Bool.not_false, Bool.not_true]
  go_enter Try.func14, Try.ntmps14
  go_wp2
  go_ret
  exact ⟨by rw [hV.out]; rfl, by repeat (first | with_reducible exact (Below.refl _ _) | with_reducible refine Below.setCell ?_ ?_ _ | with_reducible refine Below.alloc ?_ ?_ _ | with_reducible refine Below.drew ?_ | with_reducible refine below_drewN ?_ _ | omega | (simp <;> omega))⟩
set_option maxRecDepth 100000 in
set_option maxHeartbeats 1600000 in
theorem same_no4 (a b : RideS) (w : World) (h0 : (a.id == b.id) = true) (h1 : (a.rider == b.rider) = true) (h2 : (a.start.lo == b.start.lo) = true) (h3 : (a.start.hi == b.start.hi) = true) (h4 : (a.end_.lo == b.end_.lo) = false) : Calls Try.prog 14 #[RV a, RV b] w (Ret w (.bool (sameL a b))) := by
  have hV := hide (show sameL a b = false by simp only [sameL, sameHead, eqS, h0, h1, h2, h3, h4, Bool.true_and, Bool.false_and, Bool.and_false])
  have g0 : (a.id != b.id) = false := by simp only [bne, h0, Bool.not_false, Bool.not_true]
  have g1 : (a.rider != b.rider) = false := by simp only [bne, h1, Bool.not_false, Bool.not_true]
  have g2 : (a.start.lo != b.start.lo) = false := by simp only [bne, h2, Bool.not_false, Bool.not_true]
  have g3 : (a.start.hi != b.start.hi) = false := by simp only [bne, h3, Bool.not_false, Bool.not_true]
  have g4 : (a.end_.lo != b.end_.lo) = true := by simp only [bne, h4, Bool.not_false, Bool.not_true]
  go_enter Try.func14, Try.ntmps14
  go_wp2
  go_ret
  exact ⟨by rw [hV.out]; rfl, by repeat (first | with_reducible exact (Below.refl _ _) | with_reducible refine Below.setCell ?_ ?_ _ | with_reducible refine Below.alloc ?_ ?_ _ | with_reducible refine Below.drew ?_ | with_reducible refine below_drewN ?_ _ | omega | (simp <;> omega))⟩
set_option maxRecDepth 100000 in
set_option maxHeartbeats 1600000 in
theorem same_no5 (a b : RideS) (w : World) (h0 : (a.id == b.id) = true) (h1 : (a.rider == b.rider) = true) (h2 : (a.start.lo == b.start.lo) = true) (h3 : (a.start.hi == b.start.hi) = true) (h4 : (a.end_.lo == b.end_.lo) = true) (h5 : (a.end_.hi == b.end_.hi) = false) : Calls Try.prog 14 #[RV a, RV b] w (Ret w (.bool (sameL a b))) := by
  have hV := hide (show sameL a b = false by simp only [sameL, sameHead, eqS, h0, h1, h2, h3, h4, h5, Bool.true_and, Bool.false_and, Bool.and_false])
  have g0 : (a.id != b.id) = false := by simp only [bne, h0, Bool.not_false, Bool.not_true]
  have g1 : (a.rider != b.rider) = false := by simp only [bne, h1, Bool.not_false, Bool.not_true]
  have g2 : (a.start.lo != b.start.lo) = false := by simp only [bne, h2, Bool.not_false, Bool.not_true]
  have g3 : (a.start.hi != b.start.hi) = false := by simp only [bne, h3, Bool.not_false, Bool.not_true]
  have g4 : (a.end_.lo != b.end_.lo) = false := by simp only [bne, h4, Bool.not_false, Bool.not_true]
  have g5 : (a.end_.hi != b.end_.hi) = true := by simp only [bne, h5, Bool.not_false, Bool.not_true]
  go_enter Try.func14, Try.ntmps14
  go_wp2
  go_ret
  exact ⟨by rw [hV.out]; rfl, by repeat (first | with_reducible exact (Below.refl _ _) | with_reducible refine Below.setCell ?_ ?_ _ | with_reducible refine Below.alloc ?_ ?_ _ | with_reducible refine Below.drew ?_ | with_reducible refine below_drewN ?_ _ | omega | (simp <;> omega))⟩
set_option maxRecDepth 100000 in
set_option maxHeartbeats 1600000 in
theorem same_no6 (a b : RideS) (w : World) (h0 : (a.id == b.id) = true) (h1 : (a.rider == b.rider) = true) (h2 : (a.start.lo == b.start.lo) = true) (h3 : (a.start.hi == b.start.hi) = true) (h4 : (a.end_.lo == b.end_.lo) = true) (h5 : (a.end_.hi == b.end_.hi) = true) (h6 : (a.open_ == b.open_) = false) : Calls Try.prog 14 #[RV a, RV b] w (Ret w (.bool (sameL a b))) := by
  have hV := hide (show sameL a b = false by simp only [sameL, sameHead, eqS, h0, h1, h2, h3, h4, h5, h6, Bool.true_and, Bool.false_and, Bool.and_false])
  have g0 : (a.id != b.id) = false := by simp only [bne, h0, Bool.not_false, Bool.not_true]
  have g1 : (a.rider != b.rider) = false := by simp only [bne, h1, Bool.not_false, Bool.not_true]
  have g2 : (a.start.lo != b.start.lo) = false := by simp only [bne, h2, Bool.not_false, Bool.not_true]
  have g3 : (a.start.hi != b.start.hi) = false := by simp only [bne, h3, Bool.not_false, Bool.not_true]
  have g4 : (a.end_.lo != b.end_.lo) = false := by simp only [bne, h4, Bool.not_false, Bool.not_true]
  have g5 : (a.end_.hi != b.end_.hi) = false := by simp only [bne, h5, Bool.not_false, Bool.not_true]
  have g6 : (a.open_ != b.open_) = true := by simp only [bne, h6, Bool.not_false, Bool.not_true]
  go_enter Try.func14, Try.ntmps14
  go_wp2
  go_ret
  exact ⟨by rw [hV.out]; rfl, by repeat (first | with_reducible exact (Below.refl _ _) | with_reducible refine Below.setCell ?_ ?_ _ | with_reducible refine Below.alloc ?_ ?_ _ | with_reducible refine Below.drew ?_ | with_reducible refine below_drewN ?_ _ | omega | (simp <;> omega))⟩
set_option maxRecDepth 100000 in
set_option maxHeartbeats 1600000 in
theorem same_no7 (a b : RideS) (w : World) (h0 : (a.id == b.id) = true) (h1 : (a.rider == b.rider) = true) (h2 : (a.start.lo == b.start.lo) = true) (h3 : (a.start.hi == b.start.hi) = true) (h4 : (a.end_.lo == b.end_.lo) = true) (h5 : (a.end_.hi == b.end_.hi) = true) (h6 : (a.open_ == b.open_) = true) (h7 : (a.fromWhere == b.fromWhere) = false) : Calls Try.prog 14 #[RV a, RV b] w (Ret w (.bool (sameL a b))) := by
  have hV := hide (show sameL a b = false by simp only [sameL, sameHead, eqS, h0, h1, h2, h3, h4, h5, h6, h7, Bool.true_and, Bool.false_and, Bool.and_false])
  have g0 : (a.id != b.id) = false := by simp only [bne, h0, Bool.not_false, Bool.not_true]
  have g1 : (a.rider != b.rider) = false := by simp only [bne, h1, Bool.not_false, Bool.not_true]
  have g2 : (a.start.lo != b.start.lo) = false := by simp only [bne, h2, Bool.not_false, Bool.not_true]
  have g3 : (a.start.hi != b.start.hi) = false := by simp only [bne, h3, Bool.not_false, Bool.not_true]
  have g4 : (a.end_.lo != b.end_.lo) = false := by simp only [bne, h4, Bool.not_false, Bool.not_true]
  have g5 : (a.end_.hi != b.end_.hi) = false := by simp only [bne, h5, Bool.not_false, Bool.not_true]
  have g6 : (a.open_ != b.open_) = false := by simp only [bne, h6, Bool.not_false, Bool.not_true]
  have g7 : (a.fromWhere != b.fromWhere) = true := by simp only [bne, h7, Bool.not_false, Bool.not_true]
  go_enter Try.func14, Try.ntmps14
  go_wp2
  go_ret
  exact ⟨by rw [hV.out]; rfl, by repeat (first | with_reducible exact (Below.refl _ _) | with_reducible refine Below.setCell ?_ ?_ _ | with_reducible refine Below.alloc ?_ ?_ _ | with_reducible refine Below.drew ?_ | with_reducible refine below_drewN ?_ _ | omega | (simp <;> omega))⟩
set_option maxRecDepth 100000 in
set_option maxHeartbeats 1600000 in
theorem same_no8 (a b : RideS) (w : World) (h0 : (a.id == b.id) = true) (h1 : (a.rider == b.rider) = true) (h2 : (a.start.lo == b.start.lo) = true) (h3 : (a.start.hi == b.start.hi) = true) (h4 : (a.end_.lo == b.end_.lo) = true) (h5 : (a.end_.hi == b.end_.hi) = true) (h6 : (a.open_ == b.open_) = true) (h7 : (a.fromWhere == b.fromWhere) = true) (h8 : (a.fromPlace == b.fromPlace) = false) : Calls Try.prog 14 #[RV a, RV b] w (Ret w (.bool (sameL a b))) := by
  have hV := hide (show sameL a b = false by simp only [sameL, sameHead, eqS, h0, h1, h2, h3, h4, h5, h6, h7, h8, Bool.true_and, Bool.false_and, Bool.and_false])
  have g0 : (a.id != b.id) = false := by simp only [bne, h0, Bool.not_false, Bool.not_true]
  have g1 : (a.rider != b.rider) = false := by simp only [bne, h1, Bool.not_false, Bool.not_true]
  have g2 : (a.start.lo != b.start.lo) = false := by simp only [bne, h2, Bool.not_false, Bool.not_true]
  have g3 : (a.start.hi != b.start.hi) = false := by simp only [bne, h3, Bool.not_false, Bool.not_true]
  have g4 : (a.end_.lo != b.end_.lo) = false := by simp only [bne, h4, Bool.not_false, Bool.not_true]
  have g5 : (a.end_.hi != b.end_.hi) = false := by simp only [bne, h5, Bool.not_false, Bool.not_true]
  have g6 : (a.open_ != b.open_) = false := by simp only [bne, h6, Bool.not_false, Bool.not_true]
  have g7 : (a.fromWhere != b.fromWhere) = false := by simp only [bne, h7, Bool.not_false, Bool.not_true]
  have g8 : (a.fromPlace != b.fromPlace) = true := by simp only [bne, h8, Bool.not_false, Bool.not_true]
  go_enter Try.func14, Try.ntmps14
  go_wp2
  go_ret
  exact ⟨by rw [hV.out]; rfl, by repeat (first | with_reducible exact (Below.refl _ _) | with_reducible refine Below.setCell ?_ ?_ _ | with_reducible refine Below.alloc ?_ ?_ _ | with_reducible refine Below.drew ?_ | with_reducible refine below_drewN ?_ _ | omega | (simp <;> omega))⟩
set_option maxRecDepth 100000 in
set_option maxHeartbeats 1600000 in
theorem same_no9 (a b : RideS) (w : World) (h0 : (a.id == b.id) = true) (h1 : (a.rider == b.rider) = true) (h2 : (a.start.lo == b.start.lo) = true) (h3 : (a.start.hi == b.start.hi) = true) (h4 : (a.end_.lo == b.end_.lo) = true) (h5 : (a.end_.hi == b.end_.hi) = true) (h6 : (a.open_ == b.open_) = true) (h7 : (a.fromWhere == b.fromWhere) = true) (h8 : (a.fromPlace == b.fromPlace) = true) (h9 : (a.where_ == b.where_) = false) : Calls Try.prog 14 #[RV a, RV b] w (Ret w (.bool (sameL a b))) := by
  have hV := hide (show sameL a b = false by simp only [sameL, sameHead, eqS, h0, h1, h2, h3, h4, h5, h6, h7, h8, h9, Bool.true_and, Bool.false_and, Bool.and_false])
  have g0 : (a.id != b.id) = false := by simp only [bne, h0, Bool.not_false, Bool.not_true]
  have g1 : (a.rider != b.rider) = false := by simp only [bne, h1, Bool.not_false, Bool.not_true]
  have g2 : (a.start.lo != b.start.lo) = false := by simp only [bne, h2, Bool.not_false, Bool.not_true]
  have g3 : (a.start.hi != b.start.hi) = false := by simp only [bne, h3, Bool.not_false, Bool.not_true]
  have g4 : (a.end_.lo != b.end_.lo) = false := by simp only [bne, h4, Bool.not_false, Bool.not_true]
  have g5 : (a.end_.hi != b.end_.hi) = false := by simp only [bne, h5, Bool.not_false, Bool.not_true]
  have g6 : (a.open_ != b.open_) = false := by simp only [bne, h6, Bool.not_false, Bool.not_true]
  have g7 : (a.fromWhere != b.fromWhere) = false := by simp only [bne, h7, Bool.not_false, Bool.not_true]
  have g8 : (a.fromPlace != b.fromPlace) = false := by simp only [bne, h8, Bool.not_false, Bool.not_true]
  have g9 : (a.where_ != b.where_) = true := by simp only [bne, h9, Bool.not_false, Bool.not_true]
  go_enter Try.func14, Try.ntmps14
  go_wp2
  go_ret
  exact ⟨by rw [hV.out]; rfl, by repeat (first | with_reducible exact (Below.refl _ _) | with_reducible refine Below.setCell ?_ ?_ _ | with_reducible refine Below.alloc ?_ ?_ _ | with_reducible refine Below.drew ?_ | with_reducible refine below_drewN ?_ _ | omega | (simp <;> omega))⟩
set_option maxRecDepth 100000 in
set_option maxHeartbeats 1600000 in
theorem same_no10 (a b : RideS) (w : World) (h0 : (a.id == b.id) = true) (h1 : (a.rider == b.rider) = true) (h2 : (a.start.lo == b.start.lo) = true) (h3 : (a.start.hi == b.start.hi) = true) (h4 : (a.end_.lo == b.end_.lo) = true) (h5 : (a.end_.hi == b.end_.hi) = true) (h6 : (a.open_ == b.open_) = true) (h7 : (a.fromWhere == b.fromWhere) = true) (h8 : (a.fromPlace == b.fromPlace) = true) (h9 : (a.where_ == b.where_) = true) (h10 : (a.place == b.place) = false) : Calls Try.prog 14 #[RV a, RV b] w (Ret w (.bool (sameL a b))) := by
  have hV := hide (show sameL a b = false by simp only [sameL, sameHead, eqS, h0, h1, h2, h3, h4, h5, h6, h7, h8, h9, h10, Bool.true_and, Bool.false_and, Bool.and_false])
  have g0 : (a.id != b.id) = false := by simp only [bne, h0, Bool.not_false, Bool.not_true]
  have g1 : (a.rider != b.rider) = false := by simp only [bne, h1, Bool.not_false, Bool.not_true]
  have g2 : (a.start.lo != b.start.lo) = false := by simp only [bne, h2, Bool.not_false, Bool.not_true]
  have g3 : (a.start.hi != b.start.hi) = false := by simp only [bne, h3, Bool.not_false, Bool.not_true]
  have g4 : (a.end_.lo != b.end_.lo) = false := by simp only [bne, h4, Bool.not_false, Bool.not_true]
  have g5 : (a.end_.hi != b.end_.hi) = false := by simp only [bne, h5, Bool.not_false, Bool.not_true]
  have g6 : (a.open_ != b.open_) = false := by simp only [bne, h6, Bool.not_false, Bool.not_true]
  have g7 : (a.fromWhere != b.fromWhere) = false := by simp only [bne, h7, Bool.not_false, Bool.not_true]
  have g8 : (a.fromPlace != b.fromPlace) = false := by simp only [bne, h8, Bool.not_false, Bool.not_true]
  have g9 : (a.where_ != b.where_) = false := by simp only [bne, h9, Bool.not_false, Bool.not_true]
  have g10 : (a.place != b.place) = true := by simp only [bne, h10, Bool.not_false, Bool.not_true]
  go_enter Try.func14, Try.ntmps14
  go_wp2
  go_ret
  exact ⟨by rw [hV.out]; rfl, by repeat (first | with_reducible exact (Below.refl _ _) | with_reducible refine Below.setCell ?_ ?_ _ | with_reducible refine Below.alloc ?_ ?_ _ | with_reducible refine Below.drew ?_ | with_reducible refine below_drewN ?_ _ | omega | (simp <;> omega))⟩
set_option maxRecDepth 100000 in
set_option maxHeartbeats 1600000 in
theorem same_no11 (a b : RideS) (w : World) (h0 : (a.id == b.id) = true) (h1 : (a.rider == b.rider) = true) (h2 : (a.start.lo == b.start.lo) = true) (h3 : (a.start.hi == b.start.hi) = true) (h4 : (a.end_.lo == b.end_.lo) = true) (h5 : (a.end_.hi == b.end_.hi) = true) (h6 : (a.open_ == b.open_) = true) (h7 : (a.fromWhere == b.fromWhere) = true) (h8 : (a.fromPlace == b.fromPlace) = true) (h9 : (a.where_ == b.where_) = true) (h10 : (a.place == b.place) = true) (h11 : (a.legs.length == b.legs.length) = false) : Calls Try.prog 14 #[RV a, RV b] w (Ret w (.bool (sameL a b))) := by
  have hV := hide (show sameL a b = false by simp only [sameL, sameHead, eqS, h0, h1, h2, h3, h4, h5, h6, h7, h8, h9, h10, h11, Bool.true_and, Bool.false_and, Bool.and_false])
  have g0 : (a.id != b.id) = false := by simp only [bne, h0, Bool.not_false, Bool.not_true]
  have g1 : (a.rider != b.rider) = false := by simp only [bne, h1, Bool.not_false, Bool.not_true]
  have g2 : (a.start.lo != b.start.lo) = false := by simp only [bne, h2, Bool.not_false, Bool.not_true]
  have g3 : (a.start.hi != b.start.hi) = false := by simp only [bne, h3, Bool.not_false, Bool.not_true]
  have g4 : (a.end_.lo != b.end_.lo) = false := by simp only [bne, h4, Bool.not_false, Bool.not_true]
  have g5 : (a.end_.hi != b.end_.hi) = false := by simp only [bne, h5, Bool.not_false, Bool.not_true]
  have g6 : (a.open_ != b.open_) = false := by simp only [bne, h6, Bool.not_false, Bool.not_true]
  have g7 : (a.fromWhere != b.fromWhere) = false := by simp only [bne, h7, Bool.not_false, Bool.not_true]
  have g8 : (a.fromPlace != b.fromPlace) = false := by simp only [bne, h8, Bool.not_false, Bool.not_true]
  have g9 : (a.where_ != b.where_) = false := by simp only [bne, h9, Bool.not_false, Bool.not_true]
  have g10 : (a.place != b.place) = false := by simp only [bne, h10, Bool.not_false, Bool.not_true]
  have g11 : (a.legs.length != b.legs.length) = true := by simp only [bne, h11, Bool.not_false, Bool.not_true]
  have k11 : ((a.legs.length : Int) != (b.legs.length : Int)) = true := by have := h11; rw [beq_eq_false_iff_ne] at this; rw [bne_iff_ne]; omega
  go_enter Try.func14, Try.ntmps14
  go_wp2
  go_ret
  exact ⟨by rw [hV.out]; rfl, by repeat (first | with_reducible exact (Below.refl _ _) | with_reducible refine Below.setCell ?_ ?_ _ | with_reducible refine Below.alloc ?_ ?_ _ | with_reducible refine Below.drew ?_ | with_reducible refine below_drewN ?_ _ | omega | (simp <;> omega))⟩
set_option maxRecDepth 100000 in
set_option maxHeartbeats 1600000 in
theorem same_no12 (a b : RideS) (w : World) (h0 : (a.id == b.id) = true) (h1 : (a.rider == b.rider) = true) (h2 : (a.start.lo == b.start.lo) = true) (h3 : (a.start.hi == b.start.hi) = true) (h4 : (a.end_.lo == b.end_.lo) = true) (h5 : (a.end_.hi == b.end_.hi) = true) (h6 : (a.open_ == b.open_) = true) (h7 : (a.fromWhere == b.fromWhere) = true) (h8 : (a.fromPlace == b.fromPlace) = true) (h9 : (a.where_ == b.where_) = true) (h10 : (a.place == b.place) = true) (h11 : (a.legs.length == b.legs.length) = true) (h12 : (a.pauses.length == b.pauses.length) = false) : Calls Try.prog 14 #[RV a, RV b] w (Ret w (.bool (sameL a b))) := by
  have hV := hide (show sameL a b = false by simp only [sameL, sameHead, eqS, h0, h1, h2, h3, h4, h5, h6, h7, h8, h9, h10, h11, h12, Bool.true_and, Bool.false_and, Bool.and_false])
  have g0 : (a.id != b.id) = false := by simp only [bne, h0, Bool.not_false, Bool.not_true]
  have g1 : (a.rider != b.rider) = false := by simp only [bne, h1, Bool.not_false, Bool.not_true]
  have g2 : (a.start.lo != b.start.lo) = false := by simp only [bne, h2, Bool.not_false, Bool.not_true]
  have g3 : (a.start.hi != b.start.hi) = false := by simp only [bne, h3, Bool.not_false, Bool.not_true]
  have g4 : (a.end_.lo != b.end_.lo) = false := by simp only [bne, h4, Bool.not_false, Bool.not_true]
  have g5 : (a.end_.hi != b.end_.hi) = false := by simp only [bne, h5, Bool.not_false, Bool.not_true]
  have g6 : (a.open_ != b.open_) = false := by simp only [bne, h6, Bool.not_false, Bool.not_true]
  have g7 : (a.fromWhere != b.fromWhere) = false := by simp only [bne, h7, Bool.not_false, Bool.not_true]
  have g8 : (a.fromPlace != b.fromPlace) = false := by simp only [bne, h8, Bool.not_false, Bool.not_true]
  have g9 : (a.where_ != b.where_) = false := by simp only [bne, h9, Bool.not_false, Bool.not_true]
  have g10 : (a.place != b.place) = false := by simp only [bne, h10, Bool.not_false, Bool.not_true]
  have g11 : (a.legs.length != b.legs.length) = false := by simp only [bne, h11, Bool.not_false, Bool.not_true]
  have g12 : (a.pauses.length != b.pauses.length) = true := by simp only [bne, h12, Bool.not_false, Bool.not_true]
  have k11 : ((a.legs.length : Int) != (b.legs.length : Int)) = false := by have := h11; rw [beq_iff_eq] at this; rw [this]; exact bne_self_eq_false _
  have k12 : ((a.pauses.length : Int) != (b.pauses.length : Int)) = true := by have := h12; rw [beq_eq_false_iff_ne] at this; rw [bne_iff_ne]; omega
  go_enter Try.func14, Try.ntmps14
  go_wp2
  go_ret
  exact ⟨by rw [hV.out]; rfl, by repeat (first | with_reducible exact (Below.refl _ _) | with_reducible refine Below.setCell ?_ ?_ _ | with_reducible refine Below.alloc ?_ ?_ _ | with_reducible refine Below.drew ?_ | with_reducible refine below_drewN ?_ _ | omega | (simp <;> omega))⟩


end Go.Proofs.Ytfpdhalfkfffnaa
