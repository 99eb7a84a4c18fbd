/-
  Invoices: the law of adjacent windows.
-/
import Derived.Test.YtaejaogidkgalaaDoorZs
namespace Go.Proofs.YtaejaogidkgalaaDoor
open Go.RowKit
open Nat (reduceAdd reduceEqDiff reduceLT reduceLeDiff reduceSub reducePow reduceMul)
open Int (reduceToNat reduceLE reduceEq)
set_option linter.unusedVariables false
set_option linter.unusedSimpArgs false
set_option linter.unnecessarySimpa false

def earlyB (rs : List RideS) (t : Int) (x : Int) : Bool := decide (startLo rs x < t)
def lateB (rs : List RideS) (t : Int) (x : Int) : Bool := !earlyB rs t x
theorem totF_split (q : FareS → Bool) (m : List FareS) : totF (m.filter q) + totF (m.filter fun f => !q f) = totF m := by
  induction m with
  | nil => rfl
  | cons f m ih =>
    unfold totF at *
    simp only [List.filter_cons]
    cases q f <;> simp only [Bool.not_true, Bool.not_false, if_true, Bool.false_eq_true, if_false, List.map_cons, List.sum_cons] <;> omega
theorem amtR_split (q : RefS → Bool) (m : List RefS) : amtR (m.filter q) + amtR (m.filter fun f => !q f) = amtR m := by
  induction m with
  | nil => rfl
  | cons f m ih =>
    unfold amtR at *
    simp only [List.filter_cons]
    cases q f <;> simp only [Bool.not_true, Bool.not_false, if_true, Bool.false_eq_true, if_false, List.map_cons, List.sum_cons] <;> omega
theorem len_split {α : Type} (q : α → Bool) (m : List α) : (m.filter q).length + (m.filter fun f => !q f).length = m.length := by
  induction m with
  | nil => rfl
  | cons f m ih =>
    simp only [List.filter_cons]
    cases q f <;> simp only [Bool.not_true, Bool.not_false, if_true, Bool.false_eq_true, if_false, List.length_cons] <;> omega
theorem mine_early {rs : List RideS} {r : Int} {w : WinS} {t : Int} (h1 : w.from_ ≤ t) (h2 : t ≤ w.to_) (fs : List FareS) : mineF rs r ⟨w.from_, t⟩ fs = (mineF rs r w fs).filter (fun f => earlyB rs t f.ride) := by
  unfold mineF
  rw [List.filter_filter]
  refine List.filter_congr (fun f _ => ?_)
  unfold mineB earlyB
  by_cases a : startLo rs f.ride < t
  · rw [decide_eq_true a, decide_eq_true (by omega : startLo rs f.ride < w.to_)]; simp
  · rw [decide_eq_false a]; simp
theorem mine_late {rs : List RideS} {r : Int} {w : WinS} {t : Int} (h1 : w.from_ ≤ t) (h2 : t ≤ w.to_) (fs : List FareS) : mineF rs r ⟨t, w.to_⟩ fs = (mineF rs r w fs).filter (fun f => !earlyB rs t f.ride) := by
  unfold mineF
  rw [List.filter_filter]
  refine List.filter_congr (fun f _ => ?_)
  unfold mineB earlyB
  by_cases a : startLo rs f.ride < t
  · rw [decide_eq_true a, decide_eq_false (by show ¬ t ≤ startLo rs f.ride; omega)]; simp
  · rw [decide_eq_false a, decide_eq_true (by show t ≤ startLo rs f.ride; omega), decide_eq_true (by omega : w.from_ ≤ startLo rs f.ride)]; simp
theorem refs_part (P : Int → Bool) (m : List FareS) (l : List RefS) : refsF (m.filter fun f => P f.ride) l = (refsF m l).filter (fun r => P r.ride) := by
  unfold refsF
  rw [List.filter_filter]
  refine List.filter_congr (fun r _ => ?_)
  unfold hasF
  rw [List.any_filter]
  cases hp : P r.ride
  · rw [Bool.false_and, Bool.eq_false_iff]; intro h
    obtain ⟨f, -, hf⟩ := List.any_eq_true.1 h
    rw [Bool.and_eq_true] at hf
    rw [beq_iff_eq.1 hf.2, hp] at hf; exact absurd hf.1 (by simp)
  · rw [Bool.true_and]
    congr 1
    funext f
    cases he : (f.ride == r.ride)
    · rw [Bool.and_false]
    · rw [beq_iff_eq.1 he, hp]; rfl
theorem rg_split {id r : Int} {w : WinS} {t : Int} (h1 : w.from_ ≤ t) (h2 : t ≤ w.to_) : rgB id r w = true ↔ rgB id r ⟨w.from_, t⟩ = true ∧ rgB id r ⟨t, w.to_⟩ = true := by
  unfold rgB
  simp only [Bool.not_eq_true', Bool.or_eq_false_iff, decide_eq_false_iff_not]
  constructor
  · rintro ⟨⟨⟨⟨⟨⟨a, b⟩, c⟩, d⟩, e⟩, f⟩, g⟩
    exact ⟨⟨⟨⟨⟨⟨⟨a, b⟩, c⟩, d⟩, e⟩, by omega⟩, by omega⟩, ⟨⟨⟨⟨⟨⟨a, b⟩, c⟩, d⟩, by omega⟩, by omega⟩, g⟩⟩
  · rintro ⟨⟨⟨⟨⟨⟨⟨a, b⟩, c⟩, d⟩, e⟩, f⟩, g⟩, ⟨⟨⟨⟨⟨⟨_, _⟩, _⟩, _⟩, _⟩, _⟩, g2⟩⟩
    exact ⟨⟨⟨⟨⟨⟨a, b⟩, c⟩, d⟩, e⟩, by omega⟩, g2⟩
theorem ok_split {id r : Int} {w : WinS} {t : Int} {rs : List RideS} {fs : List FareS} {l : List RefS} (h1 : w.from_ ≤ t) (h2 : t ≤ w.to_) : MakeOk id r w rs fs l ↔ MakeOk id r ⟨w.from_, t⟩ rs fs l ∧ MakeOk id r ⟨t, w.to_⟩ rs fs l := by
  constructor
  · intro h
    obtain ⟨a, b⟩ := (rg_split h1 h2).1 h.rg
    have hm := List.all_eq_true.1 h.money
    refine ⟨⟨a, h.fl, h.found, h.chk, ?_⟩, ⟨b, h.fl, h.found, h.chk, ?_⟩⟩
    · rw [mine_early h1 h2]; exact List.all_eq_true.2 (fun f hf => hm f (List.mem_filter.1 hf).1)
    · rw [mine_late h1 h2]; exact List.all_eq_true.2 (fun f hf => hm f (List.mem_filter.1 hf).1)
  · rintro ⟨ha, hb⟩
    refine ⟨(rg_split h1 h2).2 ⟨ha.rg, hb.rg⟩, ha.fl, ha.found, ha.chk, List.all_eq_true.2 (fun f hf => ?_)⟩
    have m1 := ha.money
    have m2 := hb.money
    rw [mine_early h1 h2] at m1
    rw [mine_late h1 h2] at m2
    cases hq : earlyB rs t f.ride
    · exact List.all_eq_true.1 m2 f (List.mem_filter.2 ⟨hf, by rw [hq]; rfl⟩)
    · exact List.all_eq_true.1 m1 f (List.mem_filter.2 ⟨hf, hq⟩)
theorem made_ok {c : CaseS} {w : WinS} (h : MakeOk c.id c.rider w c.rides c.fares c.refunds) : madeX c w = (⟨c.id, c.rider, w, mineF c.rides c.rider w c.fares, refsF (mineF c.rides c.rider w c.fares) c.refunds, totF (mineF c.rides c.rider w c.fares) - amtR (refsF (mineF c.rides c.rider w c.fares) c.refunds)⟩, 0) := make_eq h
theorem filter_get {α : Type} (q : α → Bool) {m : List α} {n : Nat} (h : n < m.length) (hq : q m[n] = true) : ((m.take n).filter q).length < (m.filter q).length ∧ ((m.filter q).drop ((m.take n).filter q).length).take 1 = [m[n]] := by
  have e : m = m.take n ++ m[n] :: m.drop (n + 1) := by
    rw [List.getElem_cons_drop, List.take_append_drop]
  have e2 : m.filter q = (m.take n).filter q ++ m[n] :: (m.drop (n + 1)).filter q := by
    conv => lhs; rw [e]
    rw [List.filter_append, List.filter_cons, if_pos hq]
  constructor
  · rw [e2, List.length_append, List.length_cons]; omega
  · rw [e2, List.drop_left]; rfl
theorem totF_len {m : List FareS} (h : m.all (fun f => moneyB f.total) = true) (hl : m.length ≤ 256) : -256000000000000 ≤ totF m ∧ totF m ≤ 256000000000000 := by
  have := totF_money h; omega
set_option maxRecDepth 20000 in
set_option maxHeartbeats 8000000 in
theorem invoiceOnce_good (c : CaseS) (t : Int) : Good Tryd.prog 5 [c.pv, intP t] (.sc (.bool true)) := by
  have ga := awake_g
  have gf := few_g c
  refine good5 (by simp) ?_
  simp only [CaseS.pv, AW, reduceAdd, reduceCtorEq, reduceEqDiff, ↓reduceIte, reduceLT, reduceLeDiff, reduceSub, reducePow, reduceMul, reduceToNat, reduceLE, reduceEq, Int.reduceLT, Int.reduceBEq, Int.reduceBNe] at gf
  simp only [ac5, CaseS.pv, intP, AW, reduceAdd, reduceCtorEq, reduceEqDiff, ↓reduceIte, reduceLT, reduceLeDiff, reduceSub, reducePow, reduceMul, reduceToNat, reduceLE, reduceEq, Int.reduceLT, Int.reduceBEq, Int.reduceBNe]
  refine ops_call (gf) (by simp only [AW, reduceAdd, reduceCtorEq, reduceEqDiff, ↓reduceIte, reduceLT, reduceLeDiff, reduceSub, reducePow, reduceMul, reduceToNat, reduceLE, reduceEq, Int.reduceLT, Int.reduceBEq, Int.reduceBNe]) ?_; simp only [AW, reduceAdd, reduceCtorEq, reduceEqDiff, ↓reduceIte, reduceLT, reduceLeDiff, reduceSub, reducePow, reduceMul, reduceToNat, reduceLE, reduceEq, Int.reduceLT, Int.reduceBEq, Int.reduceBNe]
  cases hf : fewC c
  · simp only [AW, reduceAdd, reduceCtorEq, reduceEqDiff, ↓reduceIte, reduceLT, reduceLeDiff, reduceSub, reducePow, reduceMul, reduceToNat, reduceLE, reduceEq, Int.reduceLT, Int.reduceBEq, Int.reduceBNe]
    refine ops_call (ga) rfl ?_; simp only [AW, reduceAdd, reduceCtorEq, reduceEqDiff, ↓reduceIte, reduceLT, reduceLeDiff, reduceSub, reducePow, reduceMul, reduceToNat, reduceLE, reduceEq, Int.reduceLT, Int.reduceBEq, Int.reduceBNe]
  cases q1 : decide (t < c.when_.from_)
  rotate_left
  · simp only [q1, AW, reduceAdd, reduceCtorEq, reduceEqDiff, ↓reduceIte, reduceLT, reduceLeDiff, reduceSub, reducePow, reduceMul, reduceToNat, reduceLE, reduceEq, Int.reduceLT, Int.reduceBEq, Int.reduceBNe]
    refine ops_call (ga) rfl ?_; simp only [AW, reduceAdd, reduceCtorEq, reduceEqDiff, ↓reduceIte, reduceLT, reduceLeDiff, reduceSub, reducePow, reduceMul, reduceToNat, reduceLE, reduceEq, Int.reduceLT, Int.reduceBEq, Int.reduceBNe]
  cases q2 : decide (c.when_.to_ < t)
  rotate_left
  · simp only [q1, q2, AW, reduceAdd, reduceCtorEq, reduceEqDiff, ↓reduceIte, reduceLT, reduceLeDiff, reduceSub, reducePow, reduceMul, reduceToNat, reduceLE, reduceEq, Int.reduceLT, Int.reduceBEq, Int.reduceBNe]
    refine ops_call (ga) rfl ?_; simp only [AW, reduceAdd, reduceCtorEq, reduceEqDiff, ↓reduceIte, reduceLT, reduceLeDiff, reduceSub, reducePow, reduceMul, reduceToNat, reduceLE, reduceEq, Int.reduceLT, Int.reduceBEq, Int.reduceBNe]
  have w1 : c.when_.from_ ≤ t := by have := of_decide_eq_false q1; omega
  have w2 : t ≤ c.when_.to_ := by have := of_decide_eq_false q2; omega
  obtain ⟨hR, hI, h3, h4⟩ := fewC_iff hf
  have hI2 : ∀ f ∈ c.fares, f.items.length ≤ 1000 := fun f h => Nat.le_trans (hI f h) (by decide)
  have g1 := made_g c c.when_ hR hI2
  have g2 := made_g c ⟨c.when_.from_, t⟩ hR hI2
  have g3 := made_g c ⟨t, c.when_.to_⟩ hR hI2
  have hsp := ok_split (id := c.id) (r := c.rider) (rs := c.rides) (fs := c.fares) (l := c.refunds) w1 w2
  rcases made_cases c c.when_ with ⟨e, he, hm⟩ | ⟨ho, hm⟩
  · have hx : (madeX c ⟨c.when_.from_, t⟩).2 ≠ 0 ∨ (madeX c ⟨t, c.when_.to_⟩).2 ≠ 0 := by
      by_cases a : (madeX c ⟨c.when_.from_, t⟩).2 = 0
      · by_cases b : (madeX c ⟨t, c.when_.to_⟩).2 = 0
        · exfalso
          have := made_ok (hsp.2 ⟨make_ok a, make_ok b⟩)
          rw [hm] at this
          exact he (congrArg Prod.snd this)
        · exact .inr b
      · exact .inl a
    generalize madeX c ⟨c.when_.from_, t⟩ = y2 at *
    generalize madeX c ⟨t, c.when_.to_⟩ = y3 at *
    rw [hm] at g1
    have he2 : (e != 0) = true := by simpa using he
    simp only [makeP, zeroX, intP, InvS.pv, WinS.pv, WinS.vals, List.map_cons, List.map_nil, CaseS.pv, AW, reduceAdd, reduceCtorEq, reduceEqDiff, ↓reduceIte, reduceLT, reduceLeDiff, reduceSub, reducePow, reduceMul, reduceToNat, reduceLE, reduceEq, Int.reduceLT, Int.reduceBEq, Int.reduceBNe] at g1
    simp only [makeP, zeroX, intP, InvS.pv, WinS.pv, WinS.vals, List.map_cons, List.map_nil, CaseS.pv, AW, reduceAdd, reduceCtorEq, reduceEqDiff, ↓reduceIte, reduceLT, reduceLeDiff, reduceSub, reducePow, reduceMul, reduceToNat, reduceLE, reduceEq, Int.reduceLT, Int.reduceBEq, Int.reduceBNe] at g2
    simp only [makeP, zeroX, intP, InvS.pv, WinS.pv, WinS.vals, List.map_cons, List.map_nil, CaseS.pv, AW, reduceAdd, reduceCtorEq, reduceEqDiff, ↓reduceIte, reduceLT, reduceLeDiff, reduceSub, reducePow, reduceMul, reduceToNat, reduceLE, reduceEq, Int.reduceLT, Int.reduceBEq, Int.reduceBNe] at g3
    simp only [q1, q2, AW, reduceAdd, reduceCtorEq, reduceEqDiff, ↓reduceIte, reduceLT, reduceLeDiff, reduceSub, reducePow, reduceMul, reduceToNat, reduceLE, reduceEq, Int.reduceLT, Int.reduceBEq, Int.reduceBNe]
    refine ops_call (g1) (by simp only [AW, reduceAdd, reduceCtorEq, reduceEqDiff, ↓reduceIte, reduceLT, reduceLeDiff, reduceSub, reducePow, reduceMul, reduceToNat, reduceLE, reduceEq, Int.reduceLT, Int.reduceBEq, Int.reduceBNe]) ?_; simp only [AW, reduceAdd, reduceCtorEq, reduceEqDiff, ↓reduceIte, reduceLT, reduceLeDiff, reduceSub, reducePow, reduceMul, reduceToNat, reduceLE, reduceEq, Int.reduceLT, Int.reduceBEq, Int.reduceBNe]
    refine ops_call (g2) (by simp only [AW, reduceAdd, reduceCtorEq, reduceEqDiff, ↓reduceIte, reduceLT, reduceLeDiff, reduceSub, reducePow, reduceMul, reduceToNat, reduceLE, reduceEq, Int.reduceLT, Int.reduceBEq, Int.reduceBNe]) ?_; simp only [AW, reduceAdd, reduceCtorEq, reduceEqDiff, ↓reduceIte, reduceLT, reduceLeDiff, reduceSub, reducePow, reduceMul, reduceToNat, reduceLE, reduceEq, Int.reduceLT, Int.reduceBEq, Int.reduceBNe]
    refine ops_call (g3) (by simp only [AW, reduceAdd, reduceCtorEq, reduceEqDiff, ↓reduceIte, reduceLT, reduceLeDiff, reduceSub, reducePow, reduceMul, reduceToNat, reduceLE, reduceEq, Int.reduceLT, Int.reduceBEq, Int.reduceBNe]) ?_; simp only [AW, reduceAdd, reduceCtorEq, reduceEqDiff, ↓reduceIte, reduceLT, reduceLeDiff, reduceSub, reducePow, reduceMul, reduceToNat, reduceLE, reduceEq, Int.reduceLT, Int.reduceBEq, Int.reduceBNe]
    simp only [he2, AW, reduceAdd, reduceCtorEq, reduceEqDiff, ↓reduceIte, reduceLT, reduceLeDiff, reduceSub, reducePow, reduceMul, reduceToNat, reduceLE, reduceEq, Int.reduceLT, Int.reduceBEq, Int.reduceBNe]
    have n0 : (((0 : Nat) : Int) == 0) = true := by decide
    cases h5 : (y2.2 != 0)
    · have h6 : (y3.2 != 0) = true := by
        rcases hx with h | h
        · have : (y2.2 != 0) = true := by simpa using h
          rw [h5] at this; cases this
        · simpa using h
      simp only [h6, n0, AW, reduceAdd, reduceCtorEq, reduceEqDiff, ↓reduceIte, reduceLT, reduceLeDiff, reduceSub, reducePow, reduceMul, reduceToNat, reduceLE, reduceEq, Int.reduceLT, Int.reduceBEq, Int.reduceBNe]
      refine ops_call (ga) rfl ?_; simp only [AW, reduceAdd, reduceCtorEq, reduceEqDiff, ↓reduceIte, reduceLT, reduceLeDiff, reduceSub, reducePow, reduceMul, reduceToNat, reduceLE, reduceEq, Int.reduceLT, Int.reduceBEq, Int.reduceBNe]
    · simp only [n0, AW, reduceAdd, reduceCtorEq, reduceEqDiff, ↓reduceIte, reduceLT, reduceLeDiff, reduceSub, reducePow, reduceMul, reduceToNat, reduceLE, reduceEq, Int.reduceLT, Int.reduceBEq, Int.reduceBNe]
      refine ops_call (ga) rfl ?_; simp only [AW, reduceAdd, reduceCtorEq, reduceEqDiff, ↓reduceIte, reduceLT, reduceLeDiff, reduceSub, reducePow, reduceMul, reduceToNat, reduceLE, reduceEq, Int.reduceLT, Int.reduceBEq, Int.reduceBNe]
  obtain ⟨hoa, hob⟩ := hsp.1 ho
  have hfl : (mineF c.rides c.rider c.when_ c.fares).length ≤ c.fares.length := List.length_filter_le _ _
  have hrl : (refsF (mineF c.rides c.rider c.when_ c.fares) c.refunds).length ≤ c.refunds.length := List.length_filter_le _ _
  have hit : ∀ f ∈ mineF c.rides c.rider c.when_ c.fares, f.items.length ≤ 1000000 := fun f h => Nat.le_trans (hI2 f (List.mem_filter.1 h).1) (by decide)
  have hfd : ∀ f ∈ mineF c.rides c.rider c.when_ c.fares, (findRd c.rides f.ride).isSome = true := fun f h => List.all_eq_true.1 ho.found f (List.mem_filter.1 h).1
  have hmon := ho.money
  obtain ⟨-, hamt⟩ := check_amt ho.chk
  have hamb := amt_sum (fun r => hasF (mineF c.rides c.rider c.when_ c.fares) r.ride) hamt
  rw [made_ok ho] at g1
  rw [made_ok hoa, mine_early w1 w2, refs_part (earlyB c.rides t)] at g2
  have hpl : refsF ((mineF c.rides c.rider c.when_ c.fares).filter fun f => !earlyB c.rides t f.ride) c.refunds = (refsF (mineF c.rides c.rider c.when_ c.fares) c.refunds).filter (fun r => !earlyB c.rides t r.ride) := refs_part (lateB c.rides t) _ _
  rw [made_ok hob, mine_late w1 w2, hpl] at g3
  clear hpl
  have tm := totF_money hmon
  have s1 := totF_split (fun f => earlyB c.rides t f.ride) (mineF c.rides c.rider c.when_ c.fares)
  have s2 := amtR_split (fun r => earlyB c.rides t r.ride) (refsF (mineF c.rides c.rider c.when_ c.fares) c.refunds)
  have s3 := len_split (fun f : FareS => earlyB c.rides t f.ride) (mineF c.rides c.rider c.when_ c.fares)
  have s4 := len_split (fun r : RefS => earlyB c.rides t r.ride) (refsF (mineF c.rides c.rider c.when_ c.fares) c.refunds)
  change 0 ≤ amtR (refsF (mineF c.rides c.rider c.when_ c.fares) c.refunds) ∧ amtR (refsF (mineF c.rides c.rider c.when_ c.fares) c.refunds) ≤ _ at hamb
  generalize mineF c.rides c.rider c.when_ c.fares = mine at *
  generalize refsF mine c.refunds = ra at *
  obtain ⟨rb, hrb⟩ : ∃ rb, (ra.filter fun r => earlyB c.rides t r.ride) = rb := ⟨_, rfl⟩
  obtain ⟨rc, hrc⟩ : ∃ rc, (ra.filter fun r => !earlyB c.rides t r.ride) = rc := ⟨_, rfl⟩
  obtain ⟨fa, hfa⟩ : ∃ fa, (mine.filter fun f => earlyB c.rides t f.ride) = fa := ⟨_, rfl⟩
  obtain ⟨fb, hfb⟩ : ∃ fb, (mine.filter fun f => !earlyB c.rides t f.ride) = fb := ⟨_, rfl⟩
  rw [hrb, hfa] at g2
  rw [hrc, hfb] at g3
  rw [hfa, hfb] at s1 s3
  rw [hrb, hrc] at s2 s4
  obtain ⟨ta, hta⟩ : ∃ x, totF mine - amtR ra = x := ⟨_, rfl⟩
  obtain ⟨tb, htb⟩ : ∃ x, totF fa - amtR rb = x := ⟨_, rfl⟩
  obtain ⟨tc, htc⟩ : ∃ x, totF fb - amtR rc = x := ⟨_, rfl⟩
  rw [hta] at g1
  rw [htb] at g2
  rw [htc] at g3
  have w3 : IntKind.i64.wrap (tb + tc) = ta := by rw [wrap_id ⟨by omega, by omega⟩]; omega
  have w4 : IntKind.i64.wrap ((fa.length : Int) + (fb.length : Int)) = (mine.length : Int) := by rw [wrap_id ⟨by omega, by omega⟩]; omega
  have w5 : IntKind.i64.wrap ((rb.length : Int) + (rc.length : Int)) = (ra.length : Int) := by rw [wrap_id ⟨by omega, by omega⟩]; omega
  have w6 : decide ((ra.length : Int) < (rb.length : Int)) = false := by rw [decide_eq_false_iff_not]; omega
  have w7 : ((mine.length : Int) != (mine.length : Int)) = false := bne_self_eq_false _
  have w8 : (ta != ta) = false := bne_self_eq_false _
  have hlen : mine.length ≤ maxLen := by unfold maxLen; omega
  simp only [makeP, zeroX, intP, InvS.pv, WinS.pv, WinS.vals, List.map_cons, List.map_nil, CaseS.pv, AW, reduceAdd, reduceCtorEq, reduceEqDiff, ↓reduceIte, reduceLT, reduceLeDiff, reduceSub, reducePow, reduceMul, reduceToNat, reduceLE, reduceEq, Int.reduceLT, Int.reduceBEq, Int.reduceBNe] at g1
  simp only [makeP, zeroX, intP, InvS.pv, WinS.pv, WinS.vals, List.map_cons, List.map_nil, CaseS.pv, AW, reduceAdd, reduceCtorEq, reduceEqDiff, ↓reduceIte, reduceLT, reduceLeDiff, reduceSub, reducePow, reduceMul, reduceToNat, reduceLE, reduceEq, Int.reduceLT, Int.reduceBEq, Int.reduceBNe] at g2
  simp only [makeP, zeroX, intP, InvS.pv, WinS.pv, WinS.vals, List.map_cons, List.map_nil, CaseS.pv, AW, reduceAdd, reduceCtorEq, reduceEqDiff, ↓reduceIte, reduceLT, reduceLeDiff, reduceSub, reducePow, reduceMul, reduceToNat, reduceLE, reduceEq, Int.reduceLT, Int.reduceBEq, Int.reduceBNe] at g3
  simp only [q1, q2, AW, reduceAdd, reduceCtorEq, reduceEqDiff, ↓reduceIte, reduceLT, reduceLeDiff, reduceSub, reducePow, reduceMul, reduceToNat, reduceLE, reduceEq, Int.reduceLT, Int.reduceBEq, Int.reduceBNe]
  refine ops_call (g1) (by simp only [AW, reduceAdd, reduceCtorEq, reduceEqDiff, ↓reduceIte, reduceLT, reduceLeDiff, reduceSub, reducePow, reduceMul, reduceToNat, reduceLE, reduceEq, Int.reduceLT, Int.reduceBEq, Int.reduceBNe]) ?_; simp only [AW, reduceAdd, reduceCtorEq, reduceEqDiff, ↓reduceIte, reduceLT, reduceLeDiff, reduceSub, reducePow, reduceMul, reduceToNat, reduceLE, reduceEq, Int.reduceLT, Int.reduceBEq, Int.reduceBNe]
  refine ops_call (g2) (by simp only [AW, reduceAdd, reduceCtorEq, reduceEqDiff, ↓reduceIte, reduceLT, reduceLeDiff, reduceSub, reducePow, reduceMul, reduceToNat, reduceLE, reduceEq, Int.reduceLT, Int.reduceBEq, Int.reduceBNe]) ?_; simp only [AW, reduceAdd, reduceCtorEq, reduceEqDiff, ↓reduceIte, reduceLT, reduceLeDiff, reduceSub, reducePow, reduceMul, reduceToNat, reduceLE, reduceEq, Int.reduceLT, Int.reduceBEq, Int.reduceBNe]
  refine ops_call (g3) (by simp only [AW, reduceAdd, reduceCtorEq, reduceEqDiff, ↓reduceIte, reduceLT, reduceLeDiff, reduceSub, reducePow, reduceMul, reduceToNat, reduceLE, reduceEq, Int.reduceLT, Int.reduceBEq, Int.reduceBNe]) ?_; simp only [AW, reduceAdd, reduceCtorEq, reduceEqDiff, ↓reduceIte, reduceLT, reduceLeDiff, reduceSub, reducePow, reduceMul, reduceToNat, reduceLE, reduceEq, Int.reduceLT, Int.reduceBEq, Int.reduceBNe]
  simp only [List.length_map, w3, w4, w6, w7, w8, AW, reduceAdd, reduceCtorEq, reduceEqDiff, ↓reduceIte, reduceLT, reduceLeDiff, reduceSub, reducePow, reduceMul, reduceToNat, reduceLE, reduceEq, Int.reduceLT, Int.reduceBEq, Int.reduceBNe]
  refine run_loop (ι := Nat) (fun n => ⟨[(1, .sc (.int .i64 t)), (2, .ptr 0 0), (5, .ptr 26 0), (7, .ptr 39 0), (9, .ptr 52 0), (11, .sc (.int .i64 (((mine.take n).filter fun f => earlyB c.rides t f.ride).length : Int))), (12, .sc (.int .i64 (((mine.take n).filter fun f => !earlyB c.rides t f.ride).length : Int))), (13, .sc (.int .i64 (n : Int)))], [(0, .var [.sc (.int .i64 c.id), .sc (.int .i64 c.rider), .sc (.int .i64 c.when_.from_), .sc (.int .i64 c.when_.to_), .sl (c.rides.map RideS.pv), .sl (c.fares.map FareS.pv), .sl (c.refunds.map RefS.pv)]), (26, .var [.sc (.int .i64 c.id), .sc (.int .i64 c.rider), .sc (.int .i64 c.when_.from_), .sc (.int .i64 c.when_.to_), .sl ((mine).map FareS.pv), .sl ((ra).map RefS.pv), .sc (.int .i64 (ta))]), (39, .var [.sc (.int .i64 c.id), .sc (.int .i64 c.rider), .sc (.int .i64 c.when_.from_), .sc (.int .i64 t), .sl ((fa).map FareS.pv), .sl ((rb).map RefS.pv), .sc (.int .i64 (tb))]), (52, .var [.sc (.int .i64 c.id), .sc (.int .i64 c.rider), .sc (.int .i64 t), .sc (.int .i64 c.when_.to_), .sl ((fb).map FareS.pv), .sl ((rc).map RefS.pv), .sc (.int .i64 (tc))])], 98, 200⟩) (fun n => n ≤ mine.length) (fun n => mine.length - n) 98 (fun _ => rfl) 0 (by simp only [LW, Nat.reduceMod, Nat.reduceDiv, Int.natCast_zero, List.take_zero, List.filter_nil, List.length_nil, AW, reduceAdd, reduceCtorEq, reduceEqDiff, ↓reduceIte, reduceLT, reduceLeDiff, reduceSub, reducePow, reduceMul, reduceToNat, reduceLE, reduceEq, Int.reduceLT, Int.reduceBEq, Int.reduceBNe]) (Nat.zero_le _) (fun n hn => ?_)
  have gn := hn
  by_cases hltn : n < mine.length
  rotate_left
  · have dn : decide ((n : Int) < ((mine.length : Nat) : Int)) = false := by rw [decide_eq_false_iff_not]; exact fun h => hltn (Int.ofNat_lt.1 h)
    have en : n = mine.length := Nat.le_antisymm gn (Nat.le_of_not_lt hltn)
    subst en
    simp only [dn, List.length_map, w5, AW, reduceAdd, reduceCtorEq, reduceEqDiff, ↓reduceIte, reduceLT, reduceLeDiff, reduceSub, reducePow, reduceMul, reduceToNat, reduceLE, reduceEq, Int.reduceLT, Int.reduceBEq, Int.reduceBNe]
    refine ops_call (ga) rfl ?_; simp only [AW, reduceAdd, reduceCtorEq, reduceEqDiff, ↓reduceIte, reduceLT, reduceLeDiff, reduceSub, reducePow, reduceMul, reduceToNat, reduceLE, reduceEq, Int.reduceLT, Int.reduceBEq, Int.reduceBNe]
  have dn : decide ((n : Int) < ((mine.length : Nat) : Int)) = true := by rw [decide_eq_true_eq]; exact Int.ofNat_lt.2 hltn
  have hmem := List.getElem_mem hltn
  have gr := rfindR_g c.rides mine[n].ride
  have gs := samefares_g [mine[n]] (fun f h => by rw [List.mem_singleton.1 h]; exact hit _ hmem)
  simp only [List.map_cons, List.map_nil, AW, reduceAdd, reduceCtorEq, reduceEqDiff, ↓reduceIte, reduceLT, reduceLeDiff, reduceSub, reducePow, reduceMul, reduceToNat, reduceLE, reduceEq, Int.reduceLT, Int.reduceBEq, Int.reduceBNe] at gs
  simp only [dn, List.length_map, map_getD hltn, hltn, FareS.pv, AW, reduceAdd, reduceCtorEq, reduceEqDiff, ↓reduceIte, reduceLT, reduceLeDiff, reduceSub, reducePow, reduceMul, reduceToNat, reduceLE, reduceEq, Int.reduceLT, Int.reduceBEq, Int.reduceBNe]
  cases hfr : findRd c.rides mine[n].ride with
  | none =>
    have := hfd _ hmem
    rw [hfr] at this; cases this
  | some r =>
    have hst : startLo c.rides mine[n].ride = r.start.lo := by unfold startLo; rw [hfr]
    have heq : earlyB c.rides t mine[n].ride = decide (r.start.lo < t) := by unfold earlyB; rw [hst]
    rw [hfr] at gr
    simp only [findRP, RideS.pv, AW, reduceAdd, reduceCtorEq, reduceEqDiff, ↓reduceIte, reduceLT, reduceLeDiff, reduceSub, reducePow, reduceMul, reduceToNat, reduceLE, reduceEq, Int.reduceLT, Int.reduceBEq, Int.reduceBNe] at gr
    refine ops_call (gr) (by simp only [intP, AW, reduceAdd, reduceCtorEq, reduceEqDiff, ↓reduceIte, reduceLT, reduceLeDiff, reduceSub, reducePow, reduceMul, reduceToNat, reduceLE, reduceEq, Int.reduceLT, Int.reduceBEq, Int.reduceBNe]) ?_; simp only [intP, AW, reduceAdd, reduceCtorEq, reduceEqDiff, ↓reduceIte, reduceLT, reduceLeDiff, reduceSub, reducePow, reduceMul, reduceToNat, reduceLE, reduceEq, Int.reduceLT, Int.reduceBEq, Int.reduceBNe]
    (try refine drawnK rfl ?_)
    (try simp only [AW, reduceAdd, reduceCtorEq, reduceEqDiff, ↓reduceIte, reduceLT, reduceLeDiff, reduceSub, reducePow, reduceMul, reduceToNat, reduceLE, reduceEq, Int.reduceLT, Int.reduceBEq, Int.reduceBNe])
    cases hq : decide (r.start.lo < t)
    · rw [hq] at heq
      have hno : ((mine.take (n + 1)).filter fun f => earlyB c.rides t f.ride).length = ((mine.take n).filter fun f => earlyB c.rides t f.ride).length := by
        rw [List.take_succ_eq_append_getElem hltn, List.filter_append, List.filter_cons, if_neg (by rw [heq]; simp), List.filter_nil, List.append_nil]
      obtain ⟨gi1, gi2⟩ := filter_get (fun f => !earlyB c.rides t f.ride) hltn (by rw [heq]; rfl)
      rw [hfb] at gi1 gi2
      have es : ((mine.take (n + 1)).filter (fun f => !earlyB c.rides t f.ride)).length = ((mine.take n).filter (fun f => !earlyB c.rides t f.ride)).length + 1 := by rw [List.take_succ_eq_append_getElem hltn, List.filter_append, List.filter_cons, if_pos (by rw [heq]; rfl), List.length_append]; rfl
      have hub : ((mine.take n).filter (fun f => !earlyB c.rides t f.ride)).length ≤ n := by have := List.length_filter_le (fun f => !earlyB c.rides t f.ride) (mine.take n); rw [List.length_take] at this; omega
      obtain ⟨i, hi⟩ : ∃ i, ((mine.take n).filter (fun f => !earlyB c.rides t f.ride)).length = i := ⟨_, rfl⟩
      rw [hi] at gi1 gi2 es hub ⊢
      have d1 : decide ((fb.length : Int) ≤ (i : Int)) = false := by rw [decide_eq_false_iff_not]; omega
      have w9 : IntKind.i64.wrap ((i : Int) + 1) = ((i + 1 : Nat) : Int) := wrap_succ (n := fb.length) gi1 (by unfold maxLen; omega)
      have w10 := wrap_succ hltn hlen
      have b1 : i ≤ i + 1 := Nat.le_succ _
      have b2 : n ≤ n + 1 := Nat.le_succ _
      have b3 : i + 1 ≤ fb.length := gi1
      have b4 : n + 1 ≤ mine.length := hltn
      have eA : List.drop i (List.take (i + 1) (fb.map FareS.pv)) = [mine[n].pv] := by
        rw [← List.map_take, ← List.map_drop, List.drop_take, show i + 1 - i = 1 by omega, gi2]; rfl
      have eB : List.drop n (List.take (n + 1) (mine.map FareS.pv)) = [mine[n].pv] := by
        rw [← List.map_take, ← List.map_drop, List.drop_take, show n + 1 - n = 1 by omega, List.drop_eq_getElem_cons hltn]; rfl
      simp only [List.length_map, d1, w9, w10, b1, b2, b3, b4, fares_fl, AW, reduceAdd, reduceCtorEq, reduceEqDiff, ↓reduceIte, reduceLT, reduceLeDiff, reduceSub, reducePow, reduceMul, reduceToNat, reduceLE, reduceEq, Int.reduceLT, Int.reduceBEq, Int.reduceBNe]
      rw [eA, eB]
      refine ops_call (gs) (by simp only [FareS.pv, AW, reduceAdd, reduceCtorEq, reduceEqDiff, ↓reduceIte, reduceLT, reduceLeDiff, reduceSub, reducePow, reduceMul, reduceToNat, reduceLE, reduceEq, Int.reduceLT, Int.reduceBEq, Int.reduceBNe]) ?_; simp only [FareS.pv, AW, reduceAdd, reduceCtorEq, reduceEqDiff, ↓reduceIte, reduceLT, reduceLeDiff, reduceSub, reducePow, reduceMul, reduceToNat, reduceLE, reduceEq, Int.reduceLT, Int.reduceBEq, Int.reduceBNe]
      (try refine drawnK rfl ?_)
      (try simp only [w9, AW, reduceAdd, reduceCtorEq, reduceEqDiff, ↓reduceIte, reduceLT, reduceLeDiff, reduceSub, reducePow, reduceMul, reduceToNat, reduceLE, reduceEq, Int.reduceLT, Int.reduceBEq, Int.reduceBNe])
      (try simp only [w10, AW, reduceAdd, reduceCtorEq, reduceEqDiff, ↓reduceIte, reduceLT, reduceLeDiff, reduceSub, reducePow, reduceMul, reduceToNat, reduceLE, reduceEq, Int.reduceLT, Int.reduceBEq, Int.reduceBNe])
      refine ⟨n + 1, hltn, ?_, meas_lt hltn⟩
      simp only [LW, Nat.reduceMod, Nat.reduceDiv, es, hno, AW, reduceAdd, reduceCtorEq, reduceEqDiff, ↓reduceIte, reduceLT, reduceLeDiff, reduceSub, reducePow, reduceMul, reduceToNat, reduceLE, reduceEq, Int.reduceLT, Int.reduceBEq, Int.reduceBNe]
    · rw [hq] at heq
      have hno : ((mine.take (n + 1)).filter fun f => !earlyB c.rides t f.ride).length = ((mine.take n).filter fun f => !earlyB c.rides t f.ride).length := by
        rw [List.take_succ_eq_append_getElem hltn, List.filter_append, List.filter_cons, if_neg (by rw [heq]; simp), List.filter_nil, List.append_nil]
      obtain ⟨gi1, gi2⟩ := filter_get (fun f => earlyB c.rides t f.ride) hltn heq
      rw [hfa] at gi1 gi2
      have es : ((mine.take (n + 1)).filter (fun f => earlyB c.rides t f.ride)).length = ((mine.take n).filter (fun f => earlyB c.rides t f.ride)).length + 1 := by rw [List.take_succ_eq_append_getElem hltn, List.filter_append, List.filter_cons, if_pos heq, List.length_append]; rfl
      have hub : ((mine.take n).filter (fun f => earlyB c.rides t f.ride)).length ≤ n := by have := List.length_filter_le (fun f => earlyB c.rides t f.ride) (mine.take n); rw [List.length_take] at this; omega
      obtain ⟨i, hi⟩ : ∃ i, ((mine.take n).filter (fun f => earlyB c.rides t f.ride)).length = i := ⟨_, rfl⟩
      rw [hi] at gi1 gi2 es hub ⊢
      have d1 : decide ((fa.length : Int) ≤ (i : Int)) = false := by rw [decide_eq_false_iff_not]; omega
      have w9 : IntKind.i64.wrap ((i : Int) + 1) = ((i + 1 : Nat) : Int) := wrap_succ (n := fa.length) gi1 (by unfold maxLen; omega)
      have w10 := wrap_succ hltn hlen
      have b1 : i ≤ i + 1 := Nat.le_succ _
      have b2 : n ≤ n + 1 := Nat.le_succ _
      have b3 : i + 1 ≤ fa.length := gi1
      have b4 : n + 1 ≤ mine.length := hltn
      have eA : List.drop i (List.take (i + 1) (fa.map FareS.pv)) = [mine[n].pv] := by
        rw [← List.map_take, ← List.map_drop, List.drop_take, show i + 1 - i = 1 by omega, gi2]; rfl
      have eB : List.drop n (List.take (n + 1) (mine.map FareS.pv)) = [mine[n].pv] := by
        rw [← List.map_take, ← List.map_drop, List.drop_take, show n + 1 - n = 1 by omega, List.drop_eq_getElem_cons hltn]; rfl
      simp only [List.length_map, d1, w9, w10, b1, b2, b3, b4, fares_fl, AW, reduceAdd, reduceCtorEq, reduceEqDiff, ↓reduceIte, reduceLT, reduceLeDiff, reduceSub, reducePow, reduceMul, reduceToNat, reduceLE, reduceEq, Int.reduceLT, Int.reduceBEq, Int.reduceBNe]
      rw [eA, eB]
      refine ops_call (gs) (by simp only [FareS.pv, AW, reduceAdd, reduceCtorEq, reduceEqDiff, ↓reduceIte, reduceLT, reduceLeDiff, reduceSub, reducePow, reduceMul, reduceToNat, reduceLE, reduceEq, Int.reduceLT, Int.reduceBEq, Int.reduceBNe]) ?_; simp only [FareS.pv, AW, reduceAdd, reduceCtorEq, reduceEqDiff, ↓reduceIte, reduceLT, reduceLeDiff, reduceSub, reducePow, reduceMul, reduceToNat, reduceLE, reduceEq, Int.reduceLT, Int.reduceBEq, Int.reduceBNe]
      (try refine drawnK rfl ?_)
      (try simp only [w9, AW, reduceAdd, reduceCtorEq, reduceEqDiff, ↓reduceIte, reduceLT, reduceLeDiff, reduceSub, reducePow, reduceMul, reduceToNat, reduceLE, reduceEq, Int.reduceLT, Int.reduceBEq, Int.reduceBNe])
      (try simp only [w10, AW, reduceAdd, reduceCtorEq, reduceEqDiff, ↓reduceIte, reduceLT, reduceLeDiff, reduceSub, reducePow, reduceMul, reduceToNat, reduceLE, reduceEq, Int.reduceLT, Int.reduceBEq, Int.reduceBNe])
      refine ⟨n + 1, hltn, ?_, meas_lt hltn⟩
      simp only [LW, Nat.reduceMod, Nat.reduceDiv, es, hno, AW, reduceAdd, reduceCtorEq, reduceEqDiff, ↓reduceIte, reduceLT, reduceLeDiff, reduceSub, reducePow, reduceMul, reduceToNat, reduceLE, reduceEq, Int.reduceLT, Int.reduceBEq, Int.reduceBNe]


end Go.Proofs.YtaejaogidkgalaaDoor
