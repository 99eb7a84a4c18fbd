/-
  Invoices: the law of all riders.
-/
import Derived.Test.YtaejaogidkgalaaDoorZs
namespace Go.Proofs.YtaejaogidkgalaaDoor
open Go.RowKit
open Nat (reduceAdd reduceEqDiff reduceLT reduceLeDiff reduceSub reducePow reduceMul)
open Int (reduceToNat reduceLE reduceEq)
set_option linter.unusedVariables false
set_option linter.unusedSimpArgs false
set_option linter.unnecessarySimpa false

def fsLt (fs : List FareS) (r : Int) : List FareS := fs.filter fun f => decide (f.rider < r)
theorem fsLt_succ (l : List RefS) (fs : List FareS) (r : Int) : netS l (fsLt fs (r + 1)) = netS l (fsLt fs r) + netS l (fs.filter fun f => f.rider == r) := by
  induction fs with
  | nil => rfl
  | cons f fs ih =>
    unfold fsLt netS at *
    simp only [List.filter_cons]
    by_cases h1 : f.rider < r
    · rw [decide_eq_true h1, decide_eq_true (by omega : f.rider < r + 1), show (f.rider == r) = false from beq_eq_false_iff_ne.2 (by omega)]
      simp only [if_true, Bool.false_eq_true, if_false, List.map_cons, List.sum_cons]; rw [ih]; omega
    · by_cases h2 : f.rider = r
      · rw [decide_eq_false h1, decide_eq_true (by omega : f.rider < r + 1), show (f.rider == r) = true from beq_iff_eq.2 h2]
        simp only [if_true, Bool.false_eq_true, if_false, List.map_cons, List.sum_cons]; rw [ih]; omega
      · rw [decide_eq_false h1, decide_eq_false (by omega : ¬ f.rider < r + 1), show (f.rider == r) = false from beq_eq_false_iff_ne.2 h2]
        simp only [Bool.false_eq_true, if_false]; exact ih
/-- What the law asks of a fare. -/
def rideOk (rs : List RideS) (f : FareS) : Prop := (findRd rs f.ride).isSome = true ∧ 0 ≤ startLo rs f.ride ∧ startLo rs f.ride ≤ 4294943999 ∧ 0 ≤ f.rider ∧ f.rider < 128 ∧ -1000000000000 ≤ f.total ∧ f.total ≤ 1000000000000
def allW : WinS := ⟨0, 4294944000⟩
theorem mine_rider {rs : List RideS} {fs : List FareS} (h : ∀ f ∈ fs, rideOk rs f) (r : Int) : mineF rs r allW fs = fs.filter fun f => f.rider == r := by
  unfold mineF
  refine List.filter_congr (fun f hf => ?_)
  obtain ⟨-, h1, h2, -⟩ := h f hf
  unfold mineB allW
  rw [decide_eq_true h1, decide_eq_true (by show startLo rs f.ride < 4294944000; omega), Bool.and_true, Bool.and_true]
theorem riders_ok {rs : List RideS} {fs : List FareS} {l : List RefS} (h : ∀ f ∈ fs, rideOk rs f) (hl : fs.length ≤ 256) (hc : checkR fs l = 0) {r : Nat} (hr : r < 128) : MakeOk 1 (r : Int) allW rs fs l := by
  refine ⟨?_, hl, List.all_eq_true.2 (fun f hf => (h f hf).1), hc, List.all_eq_true.2 (fun f hf => ?_)⟩
  · unfold rgB allW
    rw [decide_eq_false (by decide : ¬ (1 : Int) < 1), decide_eq_false (by decide : ¬ (1000000 : Int) < 1), decide_eq_false (by omega : ¬ (r : Int) < 0), decide_eq_false (by omega : ¬ (128 : Int) ≤ r)]; rfl
  · obtain ⟨-, -, -, -, -, h1, h2⟩ := h f (List.mem_filter.1 hf).1
    unfold moneyB; rw [decide_eq_true h1, decide_eq_true h2]; rfl
theorem refs_all {fs : List FareS} {l : List RefS} (hc : checkR fs l = 0) : refsF fs l = l := by
  unfold refsF
  refine List.filter_eq_self.2 (fun r hr => ?_)
  obtain ⟨f, x, hi, -⟩ := (one_zero ((check_ok.1 hc).2.1 r hr)).1
  unfold itemF at hi
  cases hf : findF fs r.ride with
  | none => rw [hf] at hi; cases hi
  | some g =>
    have hf2 : fs.find? (fun f => f.ride == r.ride) = some g := hf
    have h3 := List.find?_some hf2
    exact List.any_eq_true.2 ⟨g, List.mem_of_find?_eq_some hf2, h3⟩
theorem totF_ok {rs : List RideS} {fs : List FareS} : ∀ k, k ≤ fs.length → (∀ j (hj : j < fs.length), j < k → rideOk rs fs[j]) → -(k * 1000000000000 : Int) ≤ totF (fs.take k) ∧ totF (fs.take k) ≤ k * 1000000000000
  | 0, _, _ => by simp [totF]
  | k + 1, hk, h => by
    have ih := totF_ok k (by omega) (fun j hj hjk => h j hj (by omega))
    obtain ⟨-, -, -, -, -, h1, h2⟩ := h k (by omega) (by omega)
    rw [totF_succ (by omega)]; omega
set_option maxRecDepth 20000 in
set_option maxHeartbeats 8000000 in
theorem invoiceRiders_good (c : CaseS) : Good Tryd.prog 7 [c.pv] (.sc (.bool true)) := by
  have ga := awake_g
  have gf := few_g c
  have gp := proper_g c.fares
  have gc := check_g c.fares c.refunds
  refine good7 (by simp) ?_
  simp only [CaseS.pv, AW, reduceAdd, reduceCtorEq, reduceEqDiff, ↓reduceIte, reduceLT, reduceLeDiff, reduceSub, reducePow, reduceMul, reduceToNat, reduceLE, reduceEq, Int.reduceLT, Int.reduceBEq, Int.reduceBNe] at gf
  simp only [ac7, CaseS.pv, AW, reduceAdd, reduceCtorEq, reduceEqDiff, ↓reduceIte, reduceLT, reduceLeDiff, reduceSub, reducePow, reduceMul, reduceToNat, reduceLE, reduceEq, Int.reduceLT, Int.reduceBEq, Int.reduceBNe]
  refine ops_call (gf) (by simp only [AW, reduceAdd, reduceCtorEq, reduceEqDiff, ↓reduceIte, reduceLT, reduceLeDiff, reduceSub, reducePow, reduceMul, reduceToNat, reduceLE, reduceEq, Int.reduceLT, Int.reduceBEq, Int.reduceBNe]) ?_; simp only [AW, reduceAdd, reduceCtorEq, reduceEqDiff, ↓reduceIte, reduceLT, reduceLeDiff, reduceSub, reducePow, reduceMul, reduceToNat, reduceLE, reduceEq, Int.reduceLT, Int.reduceBEq, Int.reduceBNe]
  cases hf : fewC c
  · simp only [AW, reduceAdd, reduceCtorEq, reduceEqDiff, ↓reduceIte, reduceLT, reduceLeDiff, reduceSub, reducePow, reduceMul, reduceToNat, reduceLE, reduceEq, Int.reduceLT, Int.reduceBEq, Int.reduceBNe]
    refine ops_call (ga) rfl ?_; simp only [AW, reduceAdd, reduceCtorEq, reduceEqDiff, ↓reduceIte, reduceLT, reduceLeDiff, reduceSub, reducePow, reduceMul, reduceToNat, reduceLE, reduceEq, Int.reduceLT, Int.reduceBEq, Int.reduceBNe]
  simp only [AW, reduceAdd, reduceCtorEq, reduceEqDiff, ↓reduceIte, reduceLT, reduceLeDiff, reduceSub, reducePow, reduceMul, reduceToNat, reduceLE, reduceEq, Int.reduceLT, Int.reduceBEq, Int.reduceBNe]
  refine ops_call (gp) (by simp only [AW, reduceAdd, reduceCtorEq, reduceEqDiff, ↓reduceIte, reduceLT, reduceLeDiff, reduceSub, reducePow, reduceMul, reduceToNat, reduceLE, reduceEq, Int.reduceLT, Int.reduceBEq, Int.reduceBNe]) ?_; simp only [AW, reduceAdd, reduceCtorEq, reduceEqDiff, ↓reduceIte, reduceLT, reduceLeDiff, reduceSub, reducePow, reduceMul, reduceToNat, reduceLE, reduceEq, Int.reduceLT, Int.reduceBEq, Int.reduceBNe]
  cases hp : properB c.fares
  · simp only [AW, reduceAdd, reduceCtorEq, reduceEqDiff, ↓reduceIte, reduceLT, reduceLeDiff, reduceSub, reducePow, reduceMul, reduceToNat, reduceLE, reduceEq, Int.reduceLT, Int.reduceBEq, Int.reduceBNe]
    refine ops_call (ga) rfl ?_; simp only [AW, reduceAdd, reduceCtorEq, reduceEqDiff, ↓reduceIte, reduceLT, reduceLeDiff, reduceSub, reducePow, reduceMul, reduceToNat, reduceLE, reduceEq, Int.reduceLT, Int.reduceBEq, Int.reduceBNe]
  obtain ⟨hR, hI, h3, h4⟩ := fewC_iff hf
  have hI2 : ∀ f ∈ c.fares, f.items.length ≤ 1000 := fun f h => Nat.le_trans (hI f h) (by decide)
  have hp2 := hp
  unfold properB at hp2
  rw [Bool.and_eq_true, decide_eq_true_eq, List.all_eq_true] at hp2
  obtain ⟨hadd, hN⟩ := hp2
  have hfl : c.fares.length ≤ 256 := by omega
  have hlen : c.fares.length ≤ maxLen := by unfold maxLen; omega
  have hlenR : c.refunds.length ≤ maxLen := by unfold maxLen; omega
  simp only [AW, reduceAdd, reduceCtorEq, reduceEqDiff, ↓reduceIte, reduceLT, reduceLeDiff, reduceSub, reducePow, reduceMul, reduceToNat, reduceLE, reduceEq, Int.reduceLT, Int.reduceBEq, Int.reduceBNe]
  refine run_loop (ι := Nat) (fun k => ⟨[(1, .ptr 0 0), (3, .sc (.int .i64 (totF (c.fares.take k)))), (4, .sc (.int .i64 (k : Int)))], [(0, .var [.sc (.int .i64 c.id), .sc (.int .i64 c.rider), .sc (.int .i64 c.when_.from_), .sc (.int .i64 c.when_.to_), .sl (c.rides.map RideS.pv), .sl (c.fares.map FareS.pv), .sl (c.refunds.map RefS.pv)])], 13, 150⟩) (fun k => k ≤ c.fares.length ∧ (∀ j (hj : j < c.fares.length), j < k → rideOk c.rides c.fares[j])) (fun k => c.fares.length - k) 13 (fun _ => rfl) 0 (by simp only [LW, Nat.reduceMod, Nat.reduceDiv, Int.natCast_zero, List.take_zero, totF, List.map_nil, List.sum_nil, AW, reduceAdd, reduceCtorEq, reduceEqDiff, ↓reduceIte, reduceLT, reduceLeDiff, reduceSub, reducePow, reduceMul, reduceToNat, reduceLE, reduceEq, Int.reduceLT, Int.reduceBEq, Int.reduceBNe]) ⟨Nat.zero_le _, nofun⟩ (fun k hk => ?_)
  obtain ⟨gk, ik⟩ := hk
  by_cases hltk : k < c.fares.length
  rotate_left
  · have dk : decide ((k : Int) < ((c.fares.length : Nat) : Int)) = false := by rw [decide_eq_false_iff_not]; exact fun h => hltk (Int.ofNat_lt.1 h)
    have ek : k = c.fares.length := Nat.le_antisymm gk (Nat.le_of_not_lt hltk)
    subst ek
    have hall : ∀ f ∈ c.fares, rideOk c.rides f := fun f hf => by
      obtain ⟨j, hj, rfl⟩ := List.getElem_of_mem hf
      exact ik j hj hj
    have htb := totF_ok c.fares.length (Nat.le_refl _) ik
    rw [List.take_length] at htb ⊢
    simp only [dk, List.length_map, AW, reduceAdd, reduceCtorEq, reduceEqDiff, ↓reduceIte, reduceLT, reduceLeDiff, reduceSub, reducePow, reduceMul, reduceToNat, reduceLE, reduceEq, Int.reduceLT, Int.reduceBEq, Int.reduceBNe]
    refine ops_call (gc) (by simp only [AW, reduceAdd, reduceCtorEq, reduceEqDiff, ↓reduceIte, reduceLT, reduceLeDiff, reduceSub, reducePow, reduceMul, reduceToNat, reduceLE, reduceEq, Int.reduceLT, Int.reduceBEq, Int.reduceBNe]) ?_; simp only [AW, reduceAdd, reduceCtorEq, reduceEqDiff, ↓reduceIte, reduceLT, reduceLeDiff, reduceSub, reducePow, reduceMul, reduceToNat, reduceLE, reduceEq, Int.reduceLT, Int.reduceBEq, Int.reduceBNe]
    cases hz : (checkR c.fares c.refunds != 0)
    rotate_left
    · simp only [AW, reduceAdd, reduceCtorEq, reduceEqDiff, ↓reduceIte, reduceLT, reduceLeDiff, reduceSub, reducePow, reduceMul, reduceToNat, reduceLE, reduceEq, Int.reduceLT, Int.reduceBEq, Int.reduceBNe]
      refine ops_call (ga) rfl ?_; simp only [AW, reduceAdd, reduceCtorEq, reduceEqDiff, ↓reduceIte, reduceLT, reduceLeDiff, reduceSub, reducePow, reduceMul, reduceToNat, reduceLE, reduceEq, Int.reduceLT, Int.reduceBEq, Int.reduceBNe]
    have hck : checkR c.fares c.refunds = 0 := by simpa using hz
    obtain ⟨-, hamt⟩ := check_amt hck
    simp only [AW, reduceAdd, reduceCtorEq, reduceEqDiff, ↓reduceIte, reduceLT, reduceLeDiff, reduceSub, reducePow, reduceMul, reduceToNat, reduceLE, reduceEq, Int.reduceLT, Int.reduceBEq, Int.reduceBNe]
    refine run_loop (ι := Nat) (fun q => ⟨[(1, .ptr 0 0), (3, .sc (.int .i64 (totF c.fares - amtR (c.refunds.take q)))), (7, .sc (.int .i64 (q : Int)))], [(0, .var [.sc (.int .i64 c.id), .sc (.int .i64 c.rider), .sc (.int .i64 c.when_.from_), .sc (.int .i64 c.when_.to_), .sl (c.rides.map RideS.pv), .sl (c.fares.map FareS.pv), .sl (c.refunds.map RefS.pv)])], 25, 150⟩) (fun q => q ≤ c.refunds.length) (fun q => c.refunds.length - q) 25 (fun _ => rfl) 0 (by simp only [LW, Nat.reduceMod, Nat.reduceDiv, Int.natCast_zero, List.take_zero, amtR, List.map_nil, List.sum_nil, Int.sub_zero, AW, reduceAdd, reduceCtorEq, reduceEqDiff, ↓reduceIte, reduceLT, reduceLeDiff, reduceSub, reducePow, reduceMul, reduceToNat, reduceLE, reduceEq, Int.reduceLT, Int.reduceBEq, Int.reduceBNe]) (Nat.zero_le _) (fun q hq => ?_)
    have gq := hq
    by_cases hltq : q < c.refunds.length
    rotate_left
    · have dq : decide ((q : Int) < ((c.refunds.length : Nat) : Int)) = false := by rw [decide_eq_false_iff_not]; exact fun h => hltq (Int.ofNat_lt.1 h)
      have eq : q = c.refunds.length := Nat.le_antisymm gq (Nat.le_of_not_lt hltq)
      subst eq
      have hnet : totF c.fares - amtR c.refunds = netS c.refunds c.fares := by rw [netS_eq c.refunds hN, refs_all hck]
      have hz0 : netS c.refunds (fsLt c.fares 0) = 0 := by
        have : fsLt c.fares 0 = [] := List.filter_eq_nil_iff.2 (fun f hf => by have := (hall f hf).2.2.2.1; rw [decide_eq_true_eq]; omega)
        rw [this]; rfl
      rw [List.take_length, hnet]
      simp only [dq, List.length_map, AW, reduceAdd, reduceCtorEq, reduceEqDiff, ↓reduceIte, reduceLT, reduceLeDiff, reduceSub, reducePow, reduceMul, reduceToNat, reduceLE, reduceEq, Int.reduceLT, Int.reduceBEq, Int.reduceBNe]
      refine run_loop (ι := Nat) (fun m => ⟨[(1, .ptr 0 0), (3, .sc (.int .i64 (netS c.refunds c.fares))), (8, .sc (.int .i64 (netS c.refunds (fsLt c.fares (m : Int))))), (9, .sc (.int .i64 (m : Int)))], [(0, .var [.sc (.int .i64 c.id), .sc (.int .i64 c.rider), .sc (.int .i64 c.when_.from_), .sc (.int .i64 c.when_.to_), .sl (c.rides.map RideS.pv), .sl (c.fares.map FareS.pv), .sl (c.refunds.map RefS.pv)])], 32, 150⟩) (fun m => m ≤ 128) (fun m => 128 - m) 32 (fun _ => rfl) 0 (by simp only [LW, Nat.reduceMod, Nat.reduceDiv, Int.natCast_zero, hz0, AW, reduceAdd, reduceCtorEq, reduceEqDiff, ↓reduceIte, reduceLT, reduceLeDiff, reduceSub, reducePow, reduceMul, reduceToNat, reduceLE, reduceEq, Int.reduceLT, Int.reduceBEq, Int.reduceBNe]) (Nat.zero_le _) (fun m hm => ?_)
      have gm := hm
      by_cases hltm : m < 128
      rotate_left
      · have em : m = 128 := Nat.le_antisymm gm (Nat.le_of_not_lt hltm)
        subst em
        have dm128 : decide (((128 : Nat) : Int) < 128) = false := by decide
        have hend : fsLt c.fares ((128 : Nat) : Int) = c.fares := List.filter_eq_self.2 (fun f hf => decide_eq_true (hall f hf).2.2.2.2.1)
        rw [hend]
        simp only [dm128, AW, reduceAdd, reduceCtorEq, reduceEqDiff, ↓reduceIte, reduceLT, reduceLeDiff, reduceSub, reducePow, reduceMul, reduceToNat, reduceLE, reduceEq, Int.reduceLT, Int.reduceBEq, Int.reduceBNe]
        refine ops_call (ga) rfl ?_; simp only [AW, reduceAdd, reduceCtorEq, reduceEqDiff, ↓reduceIte, reduceLT, reduceLeDiff, reduceSub, reducePow, reduceMul, reduceToNat, reduceLE, reduceEq, Int.reduceLT, Int.reduceBEq, Int.reduceBNe]
      have dm : decide ((m : Int) < 128) = true := by rw [decide_eq_true_eq]; omega
      have ho := riders_ok hall hfl hck hltm
      have g5 := make_g 1 (m : Int) allW c.rides c.fares c.refunds hR hI2
      have hmi := mine_rider hall (m : Int)
      have hmN : ((mineF c.rides (m : Int) allW c.fares).map (·.ride)).Nodup := nodup_filter _ hN
      rw [make_eq ho, ← netS_eq c.refunds hmN, hmi] at g5
      have hsu := fsLt_succ c.refunds c.fares (m : Int)
      have hb := netS_bnd h4 hamt (m := fsLt c.fares ((m : Int) + 1)) (fun f hf => hadd f (List.mem_filter.1 hf).1)
      have hbl : (fsLt c.fares ((m : Int) + 1)).length ≤ c.fares.length := List.length_filter_le _ _
      rw [← Int.natCast_succ] at hsu hb hbl
      generalize netS c.refunds (c.fares.filter fun f => f.rider == (m : Int)) = tt at *
      have w1 : IntKind.i64.wrap (netS c.refunds (fsLt c.fares (m : Int)) + tt) = netS c.refunds (fsLt c.fares ((m + 1 : Nat) : Int)) := by rw [← hsu]; exact wrap_id ⟨by omega, by omega⟩
      simp only [makeP, intP, InvS.pv, allW, WinS.pv, WinS.vals, List.map_cons, List.map_nil, AW, reduceAdd, reduceCtorEq, reduceEqDiff, ↓reduceIte, reduceLT, reduceLeDiff, reduceSub, reducePow, reduceMul, reduceToNat, reduceLE, reduceEq, Int.reduceLT, Int.reduceBEq, Int.reduceBNe] at g5
      simp only [dm, AW, reduceAdd, reduceCtorEq, reduceEqDiff, ↓reduceIte, reduceLT, reduceLeDiff, reduceSub, reducePow, reduceMul, reduceToNat, reduceLE, reduceEq, Int.reduceLT, Int.reduceBEq, Int.reduceBNe]
      refine ops_call (g5) (by simp only [AW, reduceAdd, reduceCtorEq, reduceEqDiff, ↓reduceIte, reduceLT, reduceLeDiff, reduceSub, reducePow, reduceMul, reduceToNat, reduceLE, reduceEq, Int.reduceLT, Int.reduceBEq, Int.reduceBNe]) ?_; simp only [AW, reduceAdd, reduceCtorEq, reduceEqDiff, ↓reduceIte, reduceLT, reduceLeDiff, reduceSub, reducePow, reduceMul, reduceToNat, reduceLE, reduceEq, Int.reduceLT, Int.reduceBEq, Int.reduceBNe]
      (try simp only [w1, AW, reduceAdd, reduceCtorEq, reduceEqDiff, ↓reduceIte, reduceLT, reduceLeDiff, reduceSub, reducePow, reduceMul, reduceToNat, reduceLE, reduceEq, Int.reduceLT, Int.reduceBEq, Int.reduceBNe])
      (try simp only [wrap_succ hltm (by decide : 128 ≤ maxLen), AW, reduceAdd, reduceCtorEq, reduceEqDiff, ↓reduceIte, reduceLT, reduceLeDiff, reduceSub, reducePow, reduceMul, reduceToNat, reduceLE, reduceEq, Int.reduceLT, Int.reduceBEq, Int.reduceBNe])
      refine ⟨m + 1, hltm, ?_, meas_lt hltm⟩
      simp only [LW, Nat.reduceMod, Nat.reduceDiv, AW, reduceAdd, reduceCtorEq, reduceEqDiff, ↓reduceIte, reduceLT, reduceLeDiff, reduceSub, reducePow, reduceMul, reduceToNat, reduceLE, reduceEq, Int.reduceLT, Int.reduceBEq, Int.reduceBNe]
    have dq : decide ((q : Int) < ((c.refunds.length : Nat) : Int)) = true := by rw [decide_eq_true_eq]; exact Int.ofNat_lt.2 hltq
    have es := amtR_succ hltq
    have hb := amtR_bnd (amtOk_take hamt (q + 1))
    have hbl : (c.refunds.take (q + 1)).length ≤ 100 := by rw [List.length_take]; omega
    have w1 : IntKind.i64.wrap (totF c.fares - amtR (c.refunds.take q) - c.refunds[q].amount) = totF c.fares - amtR (c.refunds.take (q + 1)) := by rw [es, wrap_id ⟨by omega, by omega⟩]; omega
    simp only [dq, List.length_map, map_getD hltq, hltq, RefS.pv, RefS.vals, List.map_cons, List.map_nil, w1, AW, reduceAdd, reduceCtorEq, reduceEqDiff, ↓reduceIte, reduceLT, reduceLeDiff, reduceSub, reducePow, reduceMul, reduceToNat, reduceLE, reduceEq, Int.reduceLT, Int.reduceBEq, Int.reduceBNe]
    (try simp only [wrap_succ hltq hlenR, AW, reduceAdd, reduceCtorEq, reduceEqDiff, ↓reduceIte, reduceLT, reduceLeDiff, reduceSub, reducePow, reduceMul, reduceToNat, reduceLE, reduceEq, Int.reduceLT, Int.reduceBEq, Int.reduceBNe])
    refine ⟨q + 1, hltq, ?_, meas_lt hltq⟩
    simp only [LW, Nat.reduceMod, Nat.reduceDiv, AW, reduceAdd, reduceCtorEq, reduceEqDiff, ↓reduceIte, reduceLT, reduceLeDiff, reduceSub, reducePow, reduceMul, reduceToNat, reduceLE, reduceEq, Int.reduceLT, Int.reduceBEq, Int.reduceBNe]
  have dk : decide ((k : Int) < ((c.fares.length : Nat) : Int)) = true := by rw [decide_eq_true_eq]; exact Int.ofNat_lt.2 hltk
  have gr := rfindR_g c.rides c.fares[k].ride
  simp only [dk, List.length_map, map_getD hltk, hltk, FareS.pv, AW, reduceAdd, reduceCtorEq, reduceEqDiff, ↓reduceIte, reduceLT, reduceLeDiff, reduceSub, reducePow, reduceMul, reduceToNat, reduceLE, reduceEq, Int.reduceLT, Int.reduceBEq, Int.reduceBNe]
  cases hfr : findRd c.rides c.fares[k].ride with
  | none =>
    rw [hfr] at gr
    simp only [findRP, zeroR, RideS.pv, List.map_nil, AW, reduceAdd, reduceCtorEq, reduceEqDiff, ↓reduceIte, reduceLT, reduceLeDiff, reduceSub, reducePow, reduceMul, reduceToNat, reduceLE, reduceEq, Int.reduceLT, Int.reduceBEq, Int.reduceBNe] at gr
    refine ops_call (gr) (by simp only [intP, AW, reduceAdd, reduceCtorEq, reduceEqDiff, ↓reduceIte, reduceLT, reduceLeDiff, reduceSub, reducePow, reduceMul, reduceToNat, reduceLE, reduceEq, Int.reduceLT, Int.reduceBEq, Int.reduceBNe]) ?_; simp only [intP, AW, reduceAdd, reduceCtorEq, reduceEqDiff, ↓reduceIte, reduceLT, reduceLeDiff, reduceSub, reducePow, reduceMul, reduceToNat, reduceLE, reduceEq, Int.reduceLT, Int.reduceBEq, Int.reduceBNe]
    (try refine drawnK rfl ?_)
    (try simp only [AW, reduceAdd, reduceCtorEq, reduceEqDiff, ↓reduceIte, reduceLT, reduceLeDiff, reduceSub, reducePow, reduceMul, reduceToNat, reduceLE, reduceEq, Int.reduceLT, Int.reduceBEq, Int.reduceBNe])
    refine ops_call (ga) rfl ?_; simp only [AW, reduceAdd, reduceCtorEq, reduceEqDiff, ↓reduceIte, reduceLT, reduceLeDiff, reduceSub, reducePow, reduceMul, reduceToNat, reduceLE, reduceEq, Int.reduceLT, Int.reduceBEq, Int.reduceBNe]
  | some r =>
    have hst : startLo c.rides c.fares[k].ride = r.start.lo := by unfold startLo; rw [hfr]
    rw [hfr] at gr
    simp only [findRP, RideS.pv, AW, reduceAdd, reduceCtorEq, reduceEqDiff, ↓reduceIte, reduceLT, reduceLeDiff, reduceSub, reducePow, reduceMul, reduceToNat, reduceLE, reduceEq, Int.reduceLT, Int.reduceBEq, Int.reduceBNe] at gr
    refine ops_call (gr) (by simp only [intP, AW, reduceAdd, reduceCtorEq, reduceEqDiff, ↓reduceIte, reduceLT, reduceLeDiff, reduceSub, reducePow, reduceMul, reduceToNat, reduceLE, reduceEq, Int.reduceLT, Int.reduceBEq, Int.reduceBNe]) ?_; simp only [intP, AW, reduceAdd, reduceCtorEq, reduceEqDiff, ↓reduceIte, reduceLT, reduceLeDiff, reduceSub, reducePow, reduceMul, reduceToNat, reduceLE, reduceEq, Int.reduceLT, Int.reduceBEq, Int.reduceBNe]
    (try refine drawnK rfl ?_)
    (try simp only [AW, reduceAdd, reduceCtorEq, reduceEqDiff, ↓reduceIte, reduceLT, reduceLeDiff, reduceSub, reducePow, reduceMul, reduceToNat, reduceLE, reduceEq, Int.reduceLT, Int.reduceBEq, Int.reduceBNe])
    cases q1 : decide (r.start.lo < 0)
    rotate_left
    · simp only [List.length_map, map_getD hltk, hltk, FareS.pv, q1, AW, reduceAdd, reduceCtorEq, reduceEqDiff, ↓reduceIte, reduceLT, reduceLeDiff, reduceSub, reducePow, reduceMul, reduceToNat, reduceLE, reduceEq, Int.reduceLT, Int.reduceBEq, Int.reduceBNe]
      refine ops_call (ga) rfl ?_; simp only [AW, reduceAdd, reduceCtorEq, reduceEqDiff, ↓reduceIte, reduceLT, reduceLeDiff, reduceSub, reducePow, reduceMul, reduceToNat, reduceLE, reduceEq, Int.reduceLT, Int.reduceBEq, Int.reduceBNe]
    simp only [List.length_map, map_getD hltk, hltk, FareS.pv, q1, AW, reduceAdd, reduceCtorEq, reduceEqDiff, ↓reduceIte, reduceLT, reduceLeDiff, reduceSub, reducePow, reduceMul, reduceToNat, reduceLE, reduceEq, Int.reduceLT, Int.reduceBEq, Int.reduceBNe]
    cases q2 : decide ((4294943999 : Int) < r.start.lo)
    rotate_left
    · simp only [List.length_map, map_getD hltk, hltk, FareS.pv, q1, q2, AW, reduceAdd, reduceCtorEq, reduceEqDiff, ↓reduceIte, reduceLT, reduceLeDiff, reduceSub, reducePow, reduceMul, reduceToNat, reduceLE, reduceEq, Int.reduceLT, Int.reduceBEq, Int.reduceBNe]
      refine ops_call (ga) rfl ?_; simp only [AW, reduceAdd, reduceCtorEq, reduceEqDiff, ↓reduceIte, reduceLT, reduceLeDiff, reduceSub, reducePow, reduceMul, reduceToNat, reduceLE, reduceEq, Int.reduceLT, Int.reduceBEq, Int.reduceBNe]
    simp only [List.length_map, map_getD hltk, hltk, FareS.pv, q1, q2, AW, reduceAdd, reduceCtorEq, reduceEqDiff, ↓reduceIte, reduceLT, reduceLeDiff, reduceSub, reducePow, reduceMul, reduceToNat, reduceLE, reduceEq, Int.reduceLT, Int.reduceBEq, Int.reduceBNe]
    cases q3 : decide (c.fares[k].rider < 0)
    rotate_left
    · simp only [List.length_map, map_getD hltk, hltk, FareS.pv, q1, q2, q3, AW, reduceAdd, reduceCtorEq, reduceEqDiff, ↓reduceIte, reduceLT, reduceLeDiff, reduceSub, reducePow, reduceMul, reduceToNat, reduceLE, reduceEq, Int.reduceLT, Int.reduceBEq, Int.reduceBNe]
      refine ops_call (ga) rfl ?_; simp only [AW, reduceAdd, reduceCtorEq, reduceEqDiff, ↓reduceIte, reduceLT, reduceLeDiff, reduceSub, reducePow, reduceMul, reduceToNat, reduceLE, reduceEq, Int.reduceLT, Int.reduceBEq, Int.reduceBNe]
    simp only [List.length_map, map_getD hltk, hltk, FareS.pv, q1, q2, q3, AW, reduceAdd, reduceCtorEq, reduceEqDiff, ↓reduceIte, reduceLT, reduceLeDiff, reduceSub, reducePow, reduceMul, reduceToNat, reduceLE, reduceEq, Int.reduceLT, Int.reduceBEq, Int.reduceBNe]
    cases q4 : decide ((128 : Int) ≤ c.fares[k].rider)
    rotate_left
    · simp only [List.length_map, map_getD hltk, hltk, FareS.pv, q1, q2, q3, q4, AW, reduceAdd, reduceCtorEq, reduceEqDiff, ↓reduceIte, reduceLT, reduceLeDiff, reduceSub, reducePow, reduceMul, reduceToNat, reduceLE, reduceEq, Int.reduceLT, Int.reduceBEq, Int.reduceBNe]
      refine ops_call (ga) rfl ?_; simp only [AW, reduceAdd, reduceCtorEq, reduceEqDiff, ↓reduceIte, reduceLT, reduceLeDiff, reduceSub, reducePow, reduceMul, reduceToNat, reduceLE, reduceEq, Int.reduceLT, Int.reduceBEq, Int.reduceBNe]
    simp only [List.length_map, map_getD hltk, hltk, FareS.pv, q1, q2, q3, q4, AW, reduceAdd, reduceCtorEq, reduceEqDiff, ↓reduceIte, reduceLT, reduceLeDiff, reduceSub, reducePow, reduceMul, reduceToNat, reduceLE, reduceEq, Int.reduceLT, Int.reduceBEq, Int.reduceBNe]
    cases q5 : decide ((1000000000000 : Int) < c.fares[k].total)
    rotate_left
    · simp only [List.length_map, map_getD hltk, hltk, FareS.pv, q1, q2, q3, q4, q5, AW, reduceAdd, reduceCtorEq, reduceEqDiff, ↓reduceIte, reduceLT, reduceLeDiff, reduceSub, reducePow, reduceMul, reduceToNat, reduceLE, reduceEq, Int.reduceLT, Int.reduceBEq, Int.reduceBNe]
      refine ops_call (ga) rfl ?_; simp only [AW, reduceAdd, reduceCtorEq, reduceEqDiff, ↓reduceIte, reduceLT, reduceLeDiff, reduceSub, reducePow, reduceMul, reduceToNat, reduceLE, reduceEq, Int.reduceLT, Int.reduceBEq, Int.reduceBNe]
    simp only [List.length_map, map_getD hltk, hltk, FareS.pv, q1, q2, q3, q4, q5, AW, reduceAdd, reduceCtorEq, reduceEqDiff, ↓reduceIte, reduceLT, reduceLeDiff, reduceSub, reducePow, reduceMul, reduceToNat, reduceLE, reduceEq, Int.reduceLT, Int.reduceBEq, Int.reduceBNe]
    cases q6 : decide (c.fares[k].total < -1000000000000)
    rotate_left
    · simp only [List.length_map, map_getD hltk, hltk, FareS.pv, q1, q2, q3, q4, q5, q6, AW, reduceAdd, reduceCtorEq, reduceEqDiff, ↓reduceIte, reduceLT, reduceLeDiff, reduceSub, reducePow, reduceMul, reduceToNat, reduceLE, reduceEq, Int.reduceLT, Int.reduceBEq, Int.reduceBNe]
      refine ops_call (ga) rfl ?_; simp only [AW, reduceAdd, reduceCtorEq, reduceEqDiff, ↓reduceIte, reduceLT, reduceLeDiff, reduceSub, reducePow, reduceMul, reduceToNat, reduceLE, reduceEq, Int.reduceLT, Int.reduceBEq, Int.reduceBNe]
    simp only [List.length_map, map_getD hltk, hltk, FareS.pv, q1, q2, q3, q4, q5, q6, AW, reduceAdd, reduceCtorEq, reduceEqDiff, ↓reduceIte, reduceLT, reduceLeDiff, reduceSub, reducePow, reduceMul, reduceToNat, reduceLE, reduceEq, Int.reduceLT, Int.reduceBEq, Int.reduceBNe]
    have hnew : ∀ j (hj : j < c.fares.length), j < k + 1 → rideOk c.rides c.fares[j] := fun j hj hjk => by
      by_cases e : j = k
      · subst e
        have a1 := of_decide_eq_false q1; have a2 := of_decide_eq_false q2; have a3 := of_decide_eq_false q3
        have a4 := of_decide_eq_false q4; have a5 := of_decide_eq_false q5; have a6 := of_decide_eq_false q6
        exact ⟨by rw [hfr]; rfl, by rw [hst]; omega, by rw [hst]; omega, by omega, by omega, by omega, by omega⟩
      · exact ik j hj (by omega)
    have es := totF_succ hltk
    have tb := totF_ok (k + 1) hltk hnew
    have w1 : IntKind.i64.wrap (totF (c.fares.take k) + c.fares[k].total) = totF (c.fares.take (k + 1)) := by rw [← es]; exact wrap_id ⟨by omega, by omega⟩
    (try simp only [w1, AW, reduceAdd, reduceCtorEq, reduceEqDiff, ↓reduceIte, reduceLT, reduceLeDiff, reduceSub, reducePow, reduceMul, reduceToNat, reduceLE, reduceEq, Int.reduceLT, Int.reduceBEq, Int.reduceBNe])
    (try simp only [List.length_map, map_getD hltk, hltk, FareS.pv, w1, AW, reduceAdd, reduceCtorEq, reduceEqDiff, ↓reduceIte, reduceLT, reduceLeDiff, reduceSub, reducePow, reduceMul, reduceToNat, reduceLE, reduceEq, Int.reduceLT, Int.reduceBEq, Int.reduceBNe])
    (try simp only [wrap_succ hltk hlen, AW, reduceAdd, reduceCtorEq, reduceEqDiff, ↓reduceIte, reduceLT, reduceLeDiff, reduceSub, reducePow, reduceMul, reduceToNat, reduceLE, reduceEq, Int.reduceLT, Int.reduceBEq, Int.reduceBNe])
    refine ⟨k + 1, ⟨hltk, hnew⟩, ?_, meas_lt hltk⟩
    simp only [LW, Nat.reduceMod, Nat.reduceDiv, AW, reduceAdd, reduceCtorEq, reduceEqDiff, ↓reduceIte, reduceLT, reduceLeDiff, reduceSub, reducePow, reduceMul, reduceToNat, reduceLE, reduceEq, Int.reduceLT, Int.reduceBEq, Int.reduceBNe]


end Go.Proofs.YtaejaogidkgalaaDoor
