/-
  The translated codes of functions, checked by the kernel.
-/
import Derived.Test.YtjlhnlfalomenaaDoorKc
import Derived.KernelRfl
namespace Go.Proofs.YtjlhnlfalomenaaDoor
set_option linter.unusedVariables false
set_option linter.unusedSimpArgs false
set_option linter.unnecessarySimpa false
theorem Jbmix : Tryd.prog.follows .mixedOrders = true := by kernel_rfl
def ac37 : ACode :=
 (.seq (.reg [⟨(some 4), none, (.mv (.c (.sc (.int .u64 (0)))))⟩,
  ⟨(some 5), none, (.mv (.c (.sc (.int .u64 (0)))))⟩] none)
 (.seq (.reg [⟨(some 14), none, (.mv (.t 0))⟩,
  ⟨(some 15), none, (.bin .and (.t 14) (.c (.sc (.int .u64 (4294967295)))))⟩,
  ⟨(some 6), none, (.mv (.t 15))⟩] none)
 (.seq (.reg [⟨(some 16), none, (.mv (.t 0))⟩,
  ⟨(some 17), none, (.bin .shr (.t 16) (.c (.sc (.int .u64 (32)))))⟩,
  ⟨(some 7), none, (.mv (.t 17))⟩] none)
 (.seq (.reg [⟨(some 18), none, (.mv (.t 1))⟩,
  ⟨(some 19), none, (.bin .and (.t 18) (.c (.sc (.int .u64 (4294967295)))))⟩,
  ⟨(some 8), none, (.mv (.t 19))⟩] none)
 (.seq (.reg [⟨(some 20), none, (.mv (.t 1))⟩,
  ⟨(some 21), none, (.bin .shr (.t 20) (.c (.sc (.int .u64 (32)))))⟩,
  ⟨(some 9), none, (.mv (.t 21))⟩] none)
 (.seq (.reg [⟨(some 22), none, (.mv (.t 6))⟩,
  ⟨(some 23), none, (.mv (.t 8))⟩,
  ⟨(some 24), none, (.bin .mul (.t 22) (.t 23))⟩,
  ⟨(some 10), none, (.mv (.t 24))⟩] none)
 (.seq (.reg [⟨(some 25), none, (.mv (.t 7))⟩,
  ⟨(some 26), none, (.mv (.t 8))⟩,
  ⟨(some 27), none, (.bin .mul (.t 25) (.t 26))⟩,
  ⟨(some 28), none, (.mv (.t 10))⟩,
  ⟨(some 29), none, (.bin .shr (.t 28) (.c (.sc (.int .u64 (32)))))⟩,
  ⟨(some 30), none, (.bin .add (.t 27) (.t 29))⟩,
  ⟨(some 11), none, (.mv (.t 30))⟩] none)
 (.seq (.reg [⟨(some 31), none, (.mv (.t 11))⟩,
  ⟨(some 32), none, (.bin .and (.t 31) (.c (.sc (.int .u64 (4294967295)))))⟩,
  ⟨(some 12), none, (.mv (.t 32))⟩] none)
 (.seq (.reg [⟨(some 33), none, (.mv (.t 11))⟩,
  ⟨(some 34), none, (.bin .shr (.t 33) (.c (.sc (.int .u64 (32)))))⟩,
  ⟨(some 13), none, (.mv (.t 34))⟩] none)
 (.seq (.reg [⟨(some 35), none, (.mv (.t 12))⟩,
  ⟨(some 36), none, (.mv (.t 6))⟩,
  ⟨(some 37), none, (.mv (.t 9))⟩,
  ⟨(some 38), none, (.bin .mul (.t 36) (.t 37))⟩,
  ⟨(some 39), none, (.bin .add (.t 35) (.t 38))⟩,
  ⟨(some 12), none, (.mv (.t 39))⟩] none)
 (.seq (.reg [⟨(some 40), none, (.mv (.t 7))⟩,
  ⟨(some 41), none, (.mv (.t 9))⟩,
  ⟨(some 42), none, (.bin .mul (.t 40) (.t 41))⟩,
  ⟨(some 43), none, (.mv (.t 13))⟩,
  ⟨(some 44), none, (.bin .add (.t 42) (.t 43))⟩,
  ⟨(some 45), none, (.mv (.t 12))⟩,
  ⟨(some 46), none, (.bin .shr (.t 45) (.c (.sc (.int .u64 (32)))))⟩,
  ⟨(some 47), none, (.bin .add (.t 44) (.t 46))⟩,
  ⟨(some 4), none, (.mv (.t 47))⟩] none)
 (.seq (.reg [⟨(some 48), none, (.mv (.t 0))⟩,
  ⟨(some 49), none, (.mv (.t 1))⟩,
  ⟨(some 50), none, (.bin .mul (.t 48) (.t 49))⟩,
  ⟨(some 5), none, (.mv (.t 50))⟩] none) .ret))))))))))))
theorem good37 {args : List PV} {r : PV} (hl : args.length ≤ 51) (h : Run Tryd.prog [.code ac37] (endQ [(.t 4), (.t 5)] r) ⟨initT 0 args, [], 0, 51⟩) : Good Tryd.prog 37 args r :=
  good_run (by kernel_rfl) Jbmix Tryd.func37 rfl (hs := []) (hs' := []) (by kernel_rfl) hl h
def ac47 : ACode :=
 (.seq (.reg [⟨(some 2), none, (.mv (.c (.sc (.int .i64 (0)))))⟩] none)
 (.seq (.reg [⟨(some 3), none, (.mv (.t 0))⟩,
  ⟨(some 4), none, (.call 53 [(.t 3)])⟩,
  ⟨(some 5), none, (.bin .sub (.c (.sc (.int .i64 (64)))) (.t 4))⟩,
  ⟨(some 2), none, (.mv (.t 5))⟩] none) .ret))
theorem good47 {args : List PV} {r : PV} (hl : args.length ≤ 6) (h : Run Tryd.prog [.code ac47] (endQ [(.t 2)] r) ⟨initT 0 args, [], 0, 6⟩) : Good Tryd.prog 47 args r :=
  good_run (by kernel_rfl) Jbmix Tryd.func47 rfl (hs := []) (hs' := []) (by kernel_rfl) hl h
def Jbbs0 : ByteArray := ⟨#[0, 1, 2, 2, 3, 3, 3, 3, 4, 4, 4, 4, 4, 4, 4, 4, 5, 5, 5, 5, 5, 5, 5, 5, 5, 5, 5, 5, 5, 5, 5, 5, 6, 6, 6, 6, 6, 6, 6, 6, 6, 6, 6, 6, 6, 6, 6, 6, 6, 6, 6, 6, 6, 6, 6, 6, 6, 6, 6, 6, 6, 6, 6, 6, 7, 7, 7, 7, 7, 7, 7, 7, 7, 7, 7, 7, 7, 7, 7, 7, 7, 7, 7, 7, 7, 7, 7, 7, 7, 7, 7, 7, 7, 7, 7, 7, 7, 7, 7, 7, 7, 7, 7, 7, 7, 7, 7, 7, 7, 7, 7, 7, 7, 7, 7, 7, 7, 7, 7, 7, 7, 7, 7, 7, 7, 7, 7, 7, 8, 8, 8, 8, 8, 8, 8, 8, 8, 8, 8, 8, 8, 8, 8, 8, 8, 8, 8, 8, 8, 8, 8, 8, 8, 8, 8, 8, 8, 8, 8, 8, 8, 8, 8, 8, 8, 8, 8, 8, 8, 8, 8, 8, 8, 8, 8, 8, 8, 8, 8, 8, 8, 8, 8, 8, 8, 8, 8, 8, 8, 8, 8, 8, 8, 8, 8, 8, 8, 8, 8, 8, 8, 8, 8, 8, 8, 8, 8, 8, 8, 8, 8, 8, 8, 8, 8, 8, 8, 8, 8, 8, 8, 8, 8, 8, 8, 8, 8, 8, 8, 8, 8, 8, 8, 8, 8, 8, 8, 8, 8, 8, 8, 8, 8, 8, 8, 8, 8, 8, 8, 8, 8, 8, 8, 8, 8, 8]⟩
def ac53 : ACode :=
 (.seq (.reg [⟨(some 2), none, (.mv (.c (.sc (.int .i64 (0)))))⟩] none)
 (.seq (.seq (.reg [⟨(some 3), none, (.mv (.t 0))⟩,
  ⟨(some 4), none, (.bin .geq (.t 3) (.c (.sc (.int .u64 (4294967296)))))⟩] none)
 (.cond (.t 4)
 (.seq (.reg [⟨(some 5), none, (.mv (.t 0))⟩,
  ⟨(some 6), none, (.bin .shr (.t 5) (.c (.sc (.int .u64 (32)))))⟩,
  ⟨(some 0), none, (.mv (.t 6))⟩] none) (.reg [⟨(some 2), none, (.mv (.c (.sc (.int .i64 (32)))))⟩] none)) .skip))
 (.seq (.seq (.reg [⟨(some 7), none, (.mv (.t 0))⟩,
  ⟨(some 8), none, (.bin .geq (.t 7) (.c (.sc (.int .u64 (65536)))))⟩] none)
 (.cond (.t 8)
 (.seq (.reg [⟨(some 9), none, (.mv (.t 0))⟩,
  ⟨(some 10), none, (.bin .shr (.t 9) (.c (.sc (.int .u64 (16)))))⟩,
  ⟨(some 0), none, (.mv (.t 10))⟩] none) (.reg [⟨(some 11), none, (.mv (.t 2))⟩,
  ⟨(some 12), none, (.bin .add (.t 11) (.c (.sc (.int .i64 (16)))))⟩,
  ⟨(some 2), none, (.mv (.t 12))⟩] none)) .skip))
 (.seq (.seq (.reg [⟨(some 13), none, (.mv (.t 0))⟩,
  ⟨(some 14), none, (.bin .geq (.t 13) (.c (.sc (.int .u64 (256)))))⟩] none)
 (.cond (.t 14)
 (.seq (.reg [⟨(some 15), none, (.mv (.t 0))⟩,
  ⟨(some 16), none, (.bin .shr (.t 15) (.c (.sc (.int .u64 (8)))))⟩,
  ⟨(some 0), none, (.mv (.t 16))⟩] none) (.reg [⟨(some 17), none, (.mv (.t 2))⟩,
  ⟨(some 18), none, (.bin .add (.t 17) (.c (.sc (.int .i64 (8)))))⟩,
  ⟨(some 2), none, (.mv (.t 18))⟩] none)) .skip))
 (.seq (.reg [⟨(some 19), none, (.mv (.t 2))⟩,
  ⟨(some 20), none, (.mv (.t 0))⟩,
  ⟨(some 21), none, (.conv .u8 (.t 20))⟩,
  ⟨(some 22), none, (.sidx (.c (.sc (.string Jbbs0))) (.t 21))⟩,
  ⟨(some 23), none, (.conv .i64 (.t 22))⟩,
  ⟨(some 24), none, (.bin .add (.t 19) (.t 23))⟩,
  ⟨(some 2), none, (.mv (.t 24))⟩] none) .ret)))))
theorem good53 {args : List PV} {r : PV} (hl : args.length ≤ 25) (h : Run Tryd.prog [.code ac53] (endQ [(.t 2)] r) ⟨initT 0 args, [], 0, 25⟩) : Good Tryd.prog 53 args r :=
  good_run (by kernel_rfl) Jbmix Tryd.func53 rfl (hs := []) (hs' := []) (by kernel_rfl) hl h
end Go.Proofs.YtjlhnlfalomenaaDoor
