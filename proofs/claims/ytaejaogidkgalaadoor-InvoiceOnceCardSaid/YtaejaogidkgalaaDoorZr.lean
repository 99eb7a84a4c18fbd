/-
  Invoices: proper fares, and what is made of them, in plain Lean.
-/
import Derived.Test.YtaejaogidkgalaaDoorZi
import Derived.Test.YtaejaogidkgalaaDoorXc
namespace Go.Proofs.YtaejaogidkgalaaDoor
open Go.RowKit
open Nat (reduceAdd reduceEqDiff reduceLT reduceLeDiff reduceSub reducePow reduceMul)
open Int (reduceToNat reduceLE reduceEq)
set_option linter.unusedVariables false
set_option linter.unusedSimpArgs false
set_option linter.unnecessarySimpa false

def properB (fs : List FareS) : Bool := fs.all addedB && decide (fs.map (·.ride)).Nodup
/-- What an invoice that was made has. -/
structure MakeOk (id rider : Int) (w : WinS) (rs : List RideS) (fs : List FareS) (l : List RefS) : Prop where
  rg : rgB id rider w = true
  fl : fs.length ≤ 256
  found : fs.all (fun f => (findRd rs f.ride).isSome) = true
  chk : checkR fs l = 0
  money : (mineF rs rider w fs).all (fun f => moneyB f.total) = true
theorem make_ok {id rider : Int} {w : WinS} {rs : List RideS} {fs : List FareS} {l : List RefS} (h : (makeX id rider w rs fs l).2 = 0) : MakeOk id rider w rs fs l := by
  unfold makeX at h
  by_cases h1 : rgB id rider w = false
  · rw [if_pos h1] at h; cases h
  rw [if_neg h1] at h
  by_cases h2 : 256 < fs.length
  · rw [if_pos h2] at h; cases h
  rw [if_neg h2] at h
  by_cases h3 : fs.all (fun f => (findRd rs f.ride).isSome) = false
  · rw [if_pos h3] at h; cases h
  rw [if_neg h3] at h
  by_cases h4 : checkR fs l ≠ 0
  · rw [if_pos h4] at h; exact absurd h h4
  rw [if_neg h4] at h
  by_cases h5 : (mineF rs rider w fs).all (fun f => moneyB f.total) = false
  · rw [if_pos h5] at h; cases h
  exact ⟨eq_true_of_ne_false h1, by omega, eq_true_of_ne_false h3, by simpa using h4, eq_true_of_ne_false h5⟩
theorem make_eq {id rider : Int} {w : WinS} {rs : List RideS} {fs : List FareS} {l : List RefS} (h : MakeOk id rider w rs fs l) : makeX id rider w rs fs l = (⟨id, rider, w, mineF rs rider w fs, refsF (mineF rs rider w fs) l, totF (mineF rs rider w fs) - amtR (refsF (mineF rs rider w fs) l)⟩, 0) := by
  have hf := h.fl
  unfold makeX
  rw [if_neg (by rw [h.rg]; simp), if_neg (by omega), if_neg (by rw [h.found]; simp), if_neg (by rw [h.chk]; simp), if_neg (by rw [h.money]; simp)]
theorem make_not {id rider : Int} {w : WinS} {rs : List RideS} {fs : List FareS} {l : List RefS} (h : (makeX id rider w rs fs l).2 ≠ 0) : (makeX id rider w rs fs l).1 = zeroX := by
  unfold makeX at h ⊢
  by_cases h1 : rgB id rider w = false
  · rw [if_pos h1]
  rw [if_neg h1] at h ⊢
  by_cases h2 : 256 < fs.length
  · rw [if_pos h2]
  rw [if_neg h2] at h ⊢
  by_cases h3 : fs.all (fun f => (findRd rs f.ride).isSome) = false
  · rw [if_pos h3]
  rw [if_neg h3] at h ⊢
  by_cases h4 : checkR fs l ≠ 0
  · rw [if_pos h4]
  rw [if_neg h4] at h ⊢
  by_cases h5 : (mineF rs rider w fs).all (fun f => moneyB f.total) = false
  · rw [if_pos h5]
  rw [if_neg h5] at h
  exact absurd rfl h
theorem find_nodup {l : List FareS} {x : Int} {f : FareS} (hN : (l.map (·.ride)).Nodup) (hf : f ∈ l) (hx : f.ride = x) : findF l x = some f := by
  induction l with
  | nil => cases hf
  | cons g l ih =>
    rw [List.map_cons, List.nodup_cons] at hN
    unfold findF at *
    rcases List.mem_cons.1 hf with e | e
    · subst e; rw [List.find?_cons, show (f.ride == x) = true from beq_iff_eq.2 hx]
    · have hne : ¬ (g.ride == x) = true := by
        intro h2
        exact hN.1 (List.mem_map.2 ⟨f, e, by rw [hx]; exact (beq_iff_eq.1 h2).symm⟩)
      rw [List.find?_cons, show (g.ride == x) = false from eq_false_of_ne_true hne]
      exact ih hN.2 e
theorem nodup_filter {l : List FareS} (p : FareS → Bool) (hN : (l.map (·.ride)).Nodup) : ((l.filter p).map (·.ride)).Nodup := hN.sublist (List.filter_sublist.map _)
theorem findF_filter {l : List FareS} (p : FareS → Bool) (hN : (l.map (·.ride)).Nodup) {x : Int} (hx : hasF (l.filter p) x = true) : findF (l.filter p) x = findF l x := by
  obtain ⟨f, hf, he⟩ := List.any_eq_true.1 hx
  have he := beq_iff_eq.1 he
  rw [find_nodup (nodup_filter p hN) hf he, find_nodup hN (List.mem_filter.1 hf).1 he]
theorem sI_refs {m : List FareS} {l : List RefS} {x : Int} (hx : hasF m x = true) (i : Int) : sI (refsF m l) x i = sI l x i := by
  unfold sI refsF
  rw [List.filter_filter]
  congr 2
  refine List.filter_congr (fun y _ => ?_)
  cases h : (y.ride == x)
  · rfl
  · rw [beq_iff_eq.1 h, hx, Bool.and_true]
theorem sR_refs {m : List FareS} {l : List RefS} {x : Int} (hx : hasF m x = true) : sR (refsF m l) x = sR l x := by
  unfold sR refsF
  rw [List.filter_filter]
  congr 2
  refine List.filter_congr (fun y _ => ?_)
  cases h : (y.ride == x)
  · rfl
  · rw [beq_iff_eq.1 h, hx]; rfl
theorem check_sub {fs : List FareS} {l : List RefS} (p : FareS → Bool) (hN : (fs.map (·.ride)).Nodup) (h : checkR fs l = 0) : checkR (fs.filter p) (refsF (fs.filter p) l) = 0 := by
  obtain ⟨h1, h2, h3, h4⟩ := check_ok.1 h
  have hsub : (refsF (fs.filter p) l).length ≤ l.length := List.length_filter_le _ _
  have hit : ∀ r ∈ refsF (fs.filter p) l, itemF (fs.filter p) r.ride r.item = itemF fs r.ride r.item := fun r hr => by
    unfold itemF; rw [findF_filter p hN (List.mem_filter.1 hr).2]
  refine check_ok.2 ⟨by omega, fun r hr => ?_, h3.sublist (List.filter_sublist.map _), fun r hr => ?_⟩
  · have := h2 r (List.mem_filter.1 hr).1
    unfold oneL at this ⊢
    rw [hit r hr]; exact this
  · have := h4 r (List.mem_filter.1 hr).1
    unfold amtBad at this ⊢
    rw [hit r hr, sI_refs (List.mem_filter.1 hr).2, sR_refs (List.mem_filter.1 hr).2]; exact this
theorem good_chk {id rider : Int} {w : WinS} {rs : List RideS} {fs : List FareS} {l : List RefS} (hp : properB fs = true) (h : MakeOk id rider w rs fs l) : checkX (makeX id rider w rs fs l).1 = 0 := by
  unfold properB at hp
  rw [Bool.and_eq_true, decide_eq_true_eq, List.all_eq_true] at hp
  obtain ⟨ha, hN⟩ := hp
  rw [make_eq h]
  have hl : (mineF rs rider w fs).length ≤ fs.length := List.length_filter_le _ _
  have hf := h.fl
  unfold checkX
  have hform : (mineF rs rider w fs).all (formB ⟨id, rider, w, mineF rs rider w fs, refsF (mineF rs rider w fs) l, totF (mineF rs rider w fs) - amtR (refsF (mineF rs rider w fs) l)⟩) = true := by
    refine List.all_eq_true.2 (fun f hf => ?_)
    obtain ⟨hm, hb⟩ := List.mem_filter.1 hf
    unfold mineB at hb
    simp only [Bool.and_eq_true] at hb
    unfold formB
    rw [ha f hm, Bool.and_true]; exact hb.1.1
  have hck : checkR (mineF rs rider w fs) (refsF (mineF rs rider w fs) l) = 0 := check_sub _ hN h.chk
  have hnd : ((mineF rs rider w fs).map (·.ride)).Nodup := nodup_filter _ hN
  rw [if_neg (by rw [h.rg]; simp), if_neg (show ¬ 256 < (mineF rs rider w fs).length by omega), if_neg (fun h => h hnd), if_neg (by rw [hform]; simp), if_neg (by rw [hck]; simp), if_neg (fun h => h rfl)]
/-- The sum of the net amounts. -/
def netS (l : List RefS) (m : List FareS) : Int := (m.map (fun f => f.total - sR l f.ride)).sum
theorem netS_succ (l : List RefS) {m : List FareS} {k : Nat} (h : k < m.length) : netS l (m.take (k + 1)) = netS l (m.take k) + (m[k].total - sR l m[k].ride) := by
  unfold netS; rw [List.take_succ_eq_append_getElem h, List.map_append, List.sum_append]; simp
theorem amt_cons (r : RefS) (l : List RefS) : amtR (r :: l) = r.amount + amtR l := by unfold amtR; rw [List.map_cons, List.sum_cons]
theorem refs_cons {f : FareS} {m : List FareS} (hn : hasF m f.ride = false) (l : List RefS) : amtR (refsF (f :: m) l) = sR l f.ride + amtR (refsF m l) := by
  induction l with
  | nil => rfl
  | cons r l ih =>
    have hc : hasF (f :: m) r.ride = ((f.ride == r.ride) || hasF m r.ride) := by unfold hasF; rw [List.any_cons]
    unfold refsF sR at *
    rw [List.filter_cons, List.filter_cons, List.filter_cons, hc]
    by_cases e : f.ride = r.ride
    · have e1 : (f.ride == r.ride) = true := beq_iff_eq.2 e
      have e2 : (r.ride == f.ride) = true := beq_iff_eq.2 e.symm
      rw [e1, e2, ← e, hn]
      simp only [Bool.true_or, if_true, Bool.false_eq_true, if_false, List.map_cons, List.sum_cons]
      rw [amt_cons, ih]; omega
    · have e1 : (f.ride == r.ride) = false := beq_eq_false_iff_ne.2 e
      have e2 : (r.ride == f.ride) = false := beq_eq_false_iff_ne.2 (fun h => e h.symm)
      rw [e1, e2, Bool.false_or]
      simp only [Bool.false_eq_true, if_false]
      cases hh : hasF m r.ride
      · simp only [Bool.false_eq_true, if_false]; exact ih
      · simp only [if_true]; rw [amt_cons, amt_cons, ih]; omega
theorem netS_eq {m : List FareS} (l : List RefS) (hN : (m.map (·.ride)).Nodup) : netS l m = totF m - amtR (refsF m l) := by
  induction m with
  | nil =>
    have : refsF [] l = [] := List.filter_eq_nil_iff.2 (fun _ _ => by simp [hasF])
    rw [this]; rfl
  | cons f m ih =>
    rw [List.map_cons, List.nodup_cons] at hN
    have hn : hasF m f.ride = false := by
      rw [Bool.eq_false_iff]; intro h
      obtain ⟨g, hg, he⟩ := List.any_eq_true.1 h
      exact hN.1 (List.mem_map.2 ⟨g, hg, beq_iff_eq.1 he⟩)
    have ih := ih hN.2
    rw [refs_cons hn]
    unfold netS totF at *
    rw [List.map_cons, List.sum_cons, List.map_cons, List.sum_cons, ih]; omega
theorem sR_bnd {l : List RefS} (h : amtOk l) (x : Int) : 0 ≤ sR l x ∧ sR l x ≤ l.length * 1000000000000 := amt_sum _ h
set_option maxHeartbeats 4000000 in
theorem proper_g (fs : List FareS) : Good Tryd.prog 22 [.sl (fs.map FareS.pv)] (.sc (.bool (properB fs))) := by
  refine .len (es := fs.map FareS.pv) (by simp) (fun hlen => ?_)
  rw [List.length_map] at hlen
  refine good22 (by simp) ?_
  simp only [ac22, AW, reduceAdd, reduceCtorEq, reduceEqDiff, ↓reduceIte, reduceLT, reduceLeDiff, reduceSub, reducePow, reduceMul, reduceToNat, reduceLE, reduceEq, Int.reduceLT, Int.reduceBEq, Int.reduceBNe]
  refine run_loop (ι := Nat) (fun k => ⟨[(0, .sl (fs.map FareS.pv)), (3, .sc (.int .i64 (k : Int)))], [], 2, 49⟩) (fun k => k ≤ fs.length ∧ (∀ j (hj : j < fs.length), j < k → addedB fs[j] = true ∧ hasF (fs.take j) fs[j].ride = false)) (fun k => fs.length - k) 2 (fun _ => rfl) 0 (by simp only [LW, Nat.reduceMod, Nat.reduceDiv, Int.natCast_zero, AW, reduceAdd, reduceCtorEq, reduceEqDiff, ↓reduceIte, reduceLT, reduceLeDiff, reduceSub, reducePow, reduceMul, reduceToNat, reduceLE, reduceEq, Int.reduceLT, Int.reduceBEq, Int.reduceBNe]) ⟨Nat.zero_le _, nofun⟩ (fun k hk => ?_)
  obtain ⟨gk, ik⟩ := hk
  by_cases hltk : k < fs.length
  rotate_left
  · have dk : decide ((k : Int) < ((fs.length : Nat) : Int)) = false := by rw [decide_eq_false_iff_not]; exact fun h => hltk (Int.ofNat_lt.1 h)
    have ek : k = fs.length := Nat.le_antisymm gk (Nat.le_of_not_lt hltk)
    subst ek
    have ha : fs.all addedB = true := all_yes (fun j hj => (ik j hj hj).1)
    have hN : (fs.map (·.ride)).Nodup := once_ok (fun j hj => (ik j hj hj).2)
    have hp : properB fs = true := by unfold properB; rw [ha, decide_eq_true hN]; rfl
    simp only [dk, List.length_map, hp, AW, reduceAdd, reduceCtorEq, reduceEqDiff, ↓reduceIte, reduceLT, reduceLeDiff, reduceSub, reducePow, reduceMul, reduceToNat, reduceLE, reduceEq, Int.reduceLT, Int.reduceBEq, Int.reduceBNe]
  have dk : decide ((k : Int) < ((fs.length : Nat) : Int)) = true := by rw [decide_eq_true_eq]; exact Int.ofNat_lt.2 hltk
  have gs := fsum_g fs[k].items
  simp only [dk, List.length_map, map_getD hltk, hltk, FareS.pv, AW, reduceAdd, reduceCtorEq, reduceEqDiff, ↓reduceIte, reduceLT, reduceLeDiff, reduceSub, reducePow, reduceMul, reduceToNat, reduceLE, reduceEq, Int.reduceLT, Int.reduceBEq, Int.reduceBNe]
  cases ha : addedB fs[k]
  · have hp : properB fs = false := by unfold properB; rw [all_no hltk ha]; rfl
    obtain ⟨n, e, he, hc⟩ := fsum_not ha
    rw [he] at gs
    simp only [intP, AW, reduceAdd, reduceCtorEq, reduceEqDiff, ↓reduceIte, reduceLT, reduceLeDiff, reduceSub, reducePow, reduceMul, reduceToNat, reduceLE, reduceEq, Int.reduceLT, Int.reduceBEq, Int.reduceBNe] at gs
    refine ops_call (gs) (by simp only [AW, reduceAdd, reduceCtorEq, reduceEqDiff, ↓reduceIte, reduceLT, reduceLeDiff, reduceSub, reducePow, reduceMul, reduceToNat, reduceLE, reduceEq, Int.reduceLT, Int.reduceBEq, Int.reduceBNe]) ?_; simp only [AW, reduceAdd, reduceCtorEq, reduceEqDiff, ↓reduceIte, reduceLT, reduceLeDiff, reduceSub, reducePow, reduceMul, reduceToNat, reduceLE, reduceEq, Int.reduceLT, Int.reduceBEq, Int.reduceBNe]
    cases h1 : (e != 0)
    rotate_left
    · simp only [hp, AW, reduceAdd, reduceCtorEq, reduceEqDiff, ↓reduceIte, reduceLT, reduceLeDiff, reduceSub, reducePow, reduceMul, reduceToNat, reduceLE, reduceEq, Int.reduceLT, Int.reduceBEq, Int.reduceBNe]
    have h0 : e = 0 := by simpa using h1
    have hne : n ≠ fs[k].total := by rcases hc with h | h; exact absurd h0 h; exact h.2
    have h2 : (n != fs[k].total) = true := by simpa using hne
    simp only [List.length_map, map_getD hltk, hltk, FareS.pv, h2, hp, AW, reduceAdd, reduceCtorEq, reduceEqDiff, ↓reduceIte, reduceLT, reduceLeDiff, reduceSub, reducePow, reduceMul, reduceToNat, reduceLE, reduceEq, Int.reduceLT, Int.reduceBEq, Int.reduceBNe]
  rw [fsum_added ha] at gs
  simp only [intP, AW, reduceAdd, reduceCtorEq, reduceEqDiff, ↓reduceIte, reduceLT, reduceLeDiff, reduceSub, reducePow, reduceMul, reduceToNat, reduceLE, reduceEq, Int.reduceLT, Int.reduceBEq, Int.reduceBNe] at gs
  refine ops_call (gs) (by simp only [AW, reduceAdd, reduceCtorEq, reduceEqDiff, ↓reduceIte, reduceLT, reduceLeDiff, reduceSub, reducePow, reduceMul, reduceToNat, reduceLE, reduceEq, Int.reduceLT, Int.reduceBEq, Int.reduceBNe]) ?_; simp only [AW, reduceAdd, reduceCtorEq, reduceEqDiff, ↓reduceIte, reduceLT, reduceLeDiff, reduceSub, reducePow, reduceMul, reduceToNat, reduceLE, reduceEq, Int.reduceLT, Int.reduceBEq, Int.reduceBNe]
  simp only [List.length_map, map_getD hltk, hltk, FareS.pv, AW, reduceAdd, reduceCtorEq, reduceEqDiff, ↓reduceIte, reduceLT, reduceLeDiff, reduceSub, reducePow, reduceMul, reduceToNat, reduceLE, reduceEq, Int.reduceLT, Int.reduceBEq, Int.reduceBNe]
  refine run_loop (ι := Nat) (fun m => ⟨[(0, .sl (fs.map FareS.pv)), (3, .sc (.int .i64 (k : Int))), (6, .sc (.int .i64 (m : Int)))], [], 29, 49⟩) (fun m => m ≤ k ∧ (∀ j (hj : j < fs.length), j < m → fs[j].ride ≠ fs[k].ride)) (fun m => k - m) 29 (fun _ => rfl) 0 (by simp only [LW, Nat.reduceMod, Nat.reduceDiv, Int.natCast_zero, AW, reduceAdd, reduceCtorEq, reduceEqDiff, ↓reduceIte, reduceLT, reduceLeDiff, reduceSub, reducePow, reduceMul, reduceToNat, reduceLE, reduceEq, Int.reduceLT, Int.reduceBEq, Int.reduceBNe]) ⟨Nat.zero_le _, nofun⟩ (fun m hm => ?_)
  obtain ⟨gm, im⟩ := hm
  by_cases hltm : m < k
  rotate_left
  · have dm : decide ((m : Int) < ((k : Nat) : Int)) = false := by rw [decide_eq_false_iff_not]; exact fun h => hltm (Int.ofNat_lt.1 h)
    have em : m = k := Nat.le_antisymm gm (Nat.le_of_not_lt hltm)
    subst em
    have hno : hasF (fs.take m) fs[m].ride = false := by
      rw [Bool.eq_false_iff]; intro h
      obtain ⟨g, hg, he⟩ := List.any_eq_true.1 h
      obtain ⟨j, hj, rfl⟩ := List.getElem_of_mem hg
      rw [List.length_take] at hj
      rw [List.getElem_take] at he
      exact im j (by omega) (by omega) (beq_iff_eq.1 he)
    simp only [dm, AW, reduceAdd, reduceCtorEq, reduceEqDiff, ↓reduceIte, reduceLT, reduceLeDiff, reduceSub, reducePow, reduceMul, reduceToNat, reduceLE, reduceEq, Int.reduceLT, Int.reduceBEq, Int.reduceBNe]
    (try simp only [wrap_succ hltk hlen, AW, reduceAdd, reduceCtorEq, reduceEqDiff, ↓reduceIte, reduceLT, reduceLeDiff, reduceSub, reducePow, reduceMul, reduceToNat, reduceLE, reduceEq, Int.reduceLT, Int.reduceBEq, Int.reduceBNe])
    refine ⟨m + 1, ⟨hltk, fun j hj hjk => ?_⟩, ?_, meas_lt hltk⟩
    · by_cases e : j = m
      · subst e; exact ⟨ha, hno⟩
      · exact ik j hj (by omega)
    · simp only [LW, Nat.reduceMod, Nat.reduceDiv, AW, reduceAdd, reduceCtorEq, reduceEqDiff, ↓reduceIte, reduceLT, reduceLeDiff, reduceSub, reducePow, reduceMul, reduceToNat, reduceLE, reduceEq, Int.reduceLT, Int.reduceBEq, Int.reduceBNe]
  have dm : decide ((m : Int) < ((k : Nat) : Int)) = true := by rw [decide_eq_true_eq]; exact Int.ofNat_lt.2 hltm
  have hm2 : m < fs.length := by omega
  simp only [dm, List.length_map, map_getD hltk, hltk, map_getD hm2, hm2, FareS.pv, AW, reduceAdd, reduceCtorEq, reduceEqDiff, ↓reduceIte, reduceLT, reduceLeDiff, reduceSub, reducePow, reduceMul, reduceToNat, reduceLE, reduceEq, Int.reduceLT, Int.reduceBEq, Int.reduceBNe]
  (try refine drawnK rfl ?_); (try simp only [AW, reduceAdd, reduceCtorEq, reduceEqDiff, ↓reduceIte, reduceLT, reduceLeDiff, reduceSub, reducePow, reduceMul, reduceToNat, reduceLE, reduceEq, Int.reduceLT, Int.reduceBEq, Int.reduceBNe])
  cases he : (fs[k].ride == fs[m].ride)
  · simp only [AW, reduceAdd, reduceCtorEq, reduceEqDiff, ↓reduceIte, reduceLT, reduceLeDiff, reduceSub, reducePow, reduceMul, reduceToNat, reduceLE, reduceEq, Int.reduceLT, Int.reduceBEq, Int.reduceBNe]
    (try simp only [wrap_succ hltm (by omega : k ≤ maxLen), AW, reduceAdd, reduceCtorEq, reduceEqDiff, ↓reduceIte, reduceLT, reduceLeDiff, reduceSub, reducePow, reduceMul, reduceToNat, reduceLE, reduceEq, Int.reduceLT, Int.reduceBEq, Int.reduceBNe])
    refine ⟨m + 1, ⟨hltm, fun j hj hjm => ?_⟩, ?_, meas_lt hltm⟩
    · by_cases e : j = m
      · subst e; intro h2; rw [beq_eq_false_iff_ne] at he; exact he h2.symm
      · exact im j hj (by omega)
    · simp only [LW, Nat.reduceMod, Nat.reduceDiv, AW, reduceAdd, reduceCtorEq, reduceEqDiff, ↓reduceIte, reduceLT, reduceLeDiff, reduceSub, reducePow, reduceMul, reduceToNat, reduceLE, reduceEq, Int.reduceLT, Int.reduceBEq, Int.reduceBNe]
  · have ht : hasF (fs.take k) fs[k].ride = true := List.any_eq_true.2 ⟨fs[m], List.mem_take_iff_getElem.2 ⟨m, by omega, rfl⟩, beq_iff_eq.2 (beq_iff_eq.1 he).symm⟩
    have hp : properB fs = false := by unfold properB; rw [decide_eq_false (once_not hltk ht), Bool.and_false]
    simp only [hp, AW, reduceAdd, reduceCtorEq, reduceEqDiff, ↓reduceIte, reduceLT, reduceLeDiff, reduceSub, reducePow, reduceMul, reduceToNat, reduceLE, reduceEq, Int.reduceLT, Int.reduceBEq, Int.reduceBNe]


end Go.Proofs.YtaejaogidkgalaaDoor
