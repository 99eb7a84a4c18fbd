/-
  Union, walked over a contract of the sort.
-/
import Derived.Test.YthgnbkcopapbmaaEk
import Derived.Test.YthgnbkcopapbmaaEl
import Derived.Test.YthgnbkcopapbmaaEb
namespace Go.Proofs.Ythgnbkcopapbmaa
open Go.RowKit
open Nat (reduceAdd reduceEqDiff reduceLT reduceLeDiff reduceSub reducePow reduceMul)
open Int (reduceToNat reduceLE reduceEq)
set_option linter.unusedVariables false
set_option linter.unusedSimpArgs false
set_option linter.unnecessarySimpa false

def stepU (ou : List WinS) (w : WinS) : List WinS := if w.from_ = w.to_ then ou else if ou.length = 0 then ou ++ [w] else if w.from_ ≤ (ou.getD (ou.length - 1) ⟨0, 0⟩).to_ then ou.modify (ou.length - 1) (fun x => ⟨x.from_, max x.to_ w.to_⟩) else ou ++ [w]
def mergeU (l : List WinS) : List WinS := l.foldl stepU []
theorem stepU_len (ou : List WinS) (w : WinS) : (stepU ou w).length ≤ ou.length + 1 := by
  unfold stepU
  split
  · omega
  · split
    · simp
    · split
      · rw [List.length_modify]; omega
      · simp
theorem mergeU_len (l : List WinS) : (mergeU l).length ≤ l.length := by
  have h : ∀ (l : List WinS) (a : List WinS), (l.foldl stepU a).length ≤ a.length + l.length := by
    intro l
    induction l with
    | nil => intro a; simp
    | cons x l ih => intro a; rw [List.foldl_cons, List.length_cons]; have := ih (stepU a x); have := stepU_len a x; omega
  have := h l []
  rw [List.length_nil, Nat.zero_add] at this
  exact this
theorem mergeU_succ {l : List WinS} {k : Nat} (h : k < l.length) : mergeU (l.take (k + 1)) = stepU (mergeU (l.take k)) l[k] := by
  unfold mergeU; rw [List.take_succ_eq_append_getElem h, List.foldl_append]; rfl
theorem set_full {es qs : List PV} (h : qs.length = es.length) : setAt es 0 qs = qs := by
  rw [setAt_eq (by omega)]
  simp [h]
theorem wins_ok (l : List WinS) : ((l.map WinS.pv).all fun p => p.flat.length == 2 && p.flat.all PV.cellOk) = true := by
  rw [List.all_eq_true]; intro x hx; obtain ⟨y, _, rfl⟩ := List.mem_map.1 hx; rfl
theorem set_to {l : List WinS} (h : 0 < l.length) (v : Int) : (l.map WinS.pv).set (l.length - 1) (.agg (((l.map WinS.pv).getD (l.length - 1) .dead).flat.set 1 (.sc (.int .i64 v)))) = (l.modify (l.length - 1) (fun x => ⟨x.from_, v⟩)).map WinS.pv := by
  have hlt : l.length - 1 < l.length := by omega
  rw [map_getD hlt]
  refine List.ext_getElem (by simp) (fun i h1 h2 => ?_)
  rw [List.getElem_set, List.getElem_map, List.getElem_map, List.getElem_modify]
  by_cases e : l.length - 1 = i
  · subst e; rw [if_pos rfl, if_pos rfl]; rfl
  · rw [if_neg e, if_neg e]
theorem modify_at {l : List WinS} (h : 0 < l.length) (w : WinS) : l.modify (l.length - 1) (fun x => ⟨x.from_, max x.to_ w.to_⟩) = l.modify (l.length - 1) (fun x => ⟨x.from_, max (l[l.length - 1]'(by omega)).to_ w.to_⟩) := by
  refine List.ext_getElem (by simp) (fun i h1 h2 => ?_)
  rw [List.getElem_modify, List.getElem_modify]
  by_cases e : l.length - 1 = i
  · subst e; simp
  · rw [if_neg e, if_neg e]
set_option maxHeartbeats 8000000 in
theorem union_of (sortW : List WinS → List WinS) (hlen : ∀ l, (sortW l).length = l.length) (hsort : ∀ l : List WinS, l.length ≤ 1000000 → GoodM Try.prog 69 [] [.sc (.func (.func 70) #[] #[])] 48 2 (l.map WinS.pv) (.tup []) ((sortW l).map WinS.pv)) (l : List WinS) (hl : l.length ≤ 100000) : Good Try.prog 48 [.sl (l.map WinS.pv)] (if (l.any fun w => !wokB w) = true then .tup [.sl [], intP 1] else .tup [.sl ((mergeU (sortW l)).map WinS.pv), intP 0]) := by
  have f0 : (0 : Int) ≤ (l.length : Int) := by omega
  have f2 : ((16 : Nat) : Int) * (l.length : Int) ≤ 281474976710656 := by omega
  have f3 : (l.length : Int) ≤ 9223372036854775807 := by omega
  have sf : ∀ z : PV, setAt (List.replicate l.length z) 0 ((l.map WinS.pv).take l.length) = l.map WinS.pv := by
    intro z
    have e : (l.map WinS.pv).take l.length = l.map WinS.pv := List.take_of_length_le (by simp)
    rw [e]; exact set_full (by simp)
  have gb := whas_bad l
  have gs := hsort l (by omega)
  have hm := hlen l
  refine good48 (by simp) ?_
  simp only [ac48, List.length_map, f0, f2, f3, Int.le_refl, Int.toNat_natCast, List.length_replicate, wins_ok, sf, AW, reduceAdd, reduceCtorEq, reduceEqDiff, ↓reduceIte, reduceLT, reduceLeDiff, reduceSub, reducePow, reduceMul, reduceToNat, reduceLE, reduceEq, Int.reduceLT, Int.reduceBEq, Int.reduceBNe]
  refine ops_call (gb) (by simp only [AW, reduceAdd, reduceCtorEq, reduceEqDiff, ↓reduceIte, reduceLT, reduceLeDiff, reduceSub, reducePow, reduceMul, reduceToNat, reduceLE, reduceEq, Int.reduceLT, Int.reduceBEq, Int.reduceBNe]) ?_; simp only [AW, reduceAdd, reduceCtorEq, reduceEqDiff, ↓reduceIte, reduceLT, reduceLeDiff, reduceSub, reducePow, reduceMul, reduceToNat, reduceLE, reduceEq, Int.reduceLT, Int.reduceBEq, Int.reduceBNe]
  cases hb : (l.any fun w => !wokB w)
  rotate_left
  · simp only [intP, AW, reduceAdd, reduceCtorEq, reduceEqDiff, ↓reduceIte, reduceLT, reduceLeDiff, reduceSub, reducePow, reduceMul, reduceToNat, reduceLE, reduceEq, Int.reduceLT, Int.reduceBEq, Int.reduceBNe]
  generalize sortW l = m at *
  simp only [AW, reduceAdd, reduceCtorEq, reduceEqDiff, ↓reduceIte, reduceLT, reduceLeDiff, reduceSub, reducePow, reduceMul, reduceToNat, reduceLE, reduceEq, Int.reduceLT, Int.reduceBEq, Int.reduceBNe]
  refine ops_callM (s := 4) (ver := 0) [] [.sc (.func (.func 70) #[] #[])] (gs) (by simp only [AW, reduceAdd, reduceCtorEq, reduceEqDiff, ↓reduceIte, reduceLT, reduceLeDiff, reduceSub, reducePow, reduceMul, reduceToNat, reduceLE, reduceEq, Int.reduceLT, Int.reduceBEq, Int.reduceBNe]) (by simp only [AW, reduceAdd, reduceCtorEq, reduceEqDiff, ↓reduceIte, reduceLT, reduceLeDiff, reduceSub, reducePow, reduceMul, reduceToNat, reduceLE, reduceEq, Int.reduceLT, Int.reduceBEq, Int.reduceBNe]) (by simp only [List.not_mem_nil, AW, reduceAdd, reduceCtorEq, reduceEqDiff, ↓reduceIte, reduceLT, reduceLeDiff, reduceSub, reducePow, reduceMul, reduceToNat, reduceLE, reduceEq, Int.reduceLT, Int.reduceBEq, Int.reduceBNe]) (by simp only [AW, reduceAdd, reduceCtorEq, reduceEqDiff, ↓reduceIte, reduceLT, reduceLeDiff, reduceSub, reducePow, reduceMul, reduceToNat, reduceLE, reduceEq, Int.reduceLT, Int.reduceBEq, Int.reduceBNe]) (by simp only [AW, reduceAdd, reduceCtorEq, reduceEqDiff, ↓reduceIte, reduceLT, reduceLeDiff, reduceSub, reducePow, reduceMul, reduceToNat, reduceLE, reduceEq, Int.reduceLT, Int.reduceBEq, Int.reduceBNe]) ?_; simp only [AW, reduceAdd, reduceCtorEq, reduceEqDiff, ↓reduceIte, reduceLT, reduceLeDiff, reduceSub, reducePow, reduceMul, reduceToNat, reduceLE, reduceEq, Int.reduceLT, Int.reduceBEq, Int.reduceBNe]
  (try simp only [List.length_map, AW, reduceAdd, reduceCtorEq, reduceEqDiff, ↓reduceIte, reduceLT, reduceLeDiff, reduceSub, reducePow, reduceMul, reduceToNat, reduceLE, reduceEq, Int.reduceLT, Int.reduceBEq, Int.reduceBNe])
  refine run_loop (ι := Nat) (fun k => ⟨[(5, .own 17 0), (19, .own 4 0), (20, .sc (.int .i64 (m.length : Int))), (21, .sc (.int .i64 (k : Int)))], [(4, .row 48 2 0 (m.map WinS.pv)), (17, .row 48 2 0 ((mergeU (m.take k)).map WinS.pv))], 18, 65⟩) (fun k => k ≤ m.length) (fun k => m.length - k) 18 (fun _ => rfl) 0 (by simp only [LW, Nat.reduceMod, Nat.reduceDiv, Int.natCast_zero, List.take_zero, mergeU, List.foldl_nil, List.map_nil, List.length_map, Nat.zero_lt_one, AW, reduceAdd, reduceCtorEq, reduceEqDiff, ↓reduceIte, reduceLT, reduceLeDiff, reduceSub, reducePow, reduceMul, reduceToNat, reduceLE, reduceEq, Int.reduceLT, Int.reduceBEq, Int.reduceBNe]) (Nat.zero_le _) (fun k hk => ?_)
  have gk := hk
  by_cases hltk : k < m.length
  rotate_left
  · have dk : decide ((k : Int) < ((m.length : Nat) : Int)) = false := by rw [decide_eq_false_iff_not]; exact fun h => hltk (Int.ofNat_lt.1 h)
    have ek : k = m.length := Nat.le_antisymm gk (Nat.le_of_not_lt hltk)
    rw [ek]
    rw [List.take_length]
    simp only [dlt_irr3, List.length_map, intP, AW, reduceAdd, reduceCtorEq, reduceEqDiff, ↓reduceIte, reduceLT, reduceLeDiff, reduceSub, reducePow, reduceMul, reduceToNat, reduceLE, reduceEq, Int.reduceLT, Int.reduceBEq, Int.reduceBNe]
  have dk : decide ((k : Int) < ((m.length : Nat) : Int)) = true := by rw [decide_eq_true_eq]; exact Int.ofNat_lt.2 hltk
  have hs := mergeU_succ hltk
  have hol := mergeU_len (m.take k)
  have hol2 : (m.take k).length ≤ 100000 := by rw [List.length_take]; omega
  generalize mergeU (m.take k) = ou at *
  have wk := wrap_succ hltk (show m.length ≤ maxLen by unfold maxLen; omega)
  unfold stepU at hs
  simp only [dk, map_getD hltk, hltk, WinS.pv, WinS.vals, List.map_cons, List.map_nil, List.length_map, AW, reduceAdd, reduceCtorEq, reduceEqDiff, ↓reduceIte, reduceLT, reduceLeDiff, reduceSub, reducePow, reduceMul, reduceToNat, reduceLE, reduceEq, Int.reduceLT, Int.reduceBEq, Int.reduceBNe]
  by_cases h1 : m[k].from_ = m[k].to_
  · have d1 : (m[k].from_ == m[k].to_) = true := by rw [beq_iff_eq]; exact h1
    rw [if_pos h1] at hs
    simp only [d1, wk, AW, reduceAdd, reduceCtorEq, reduceEqDiff, ↓reduceIte, reduceLT, reduceLeDiff, reduceSub, reducePow, reduceMul, reduceToNat, reduceLE, reduceEq, Int.reduceLT, Int.reduceBEq, Int.reduceBNe]
    refine ⟨k + 1, hltk, ?_, meas_lt0 hltk⟩
    simp only [LW, Nat.reduceMod, Nat.reduceDiv, hs, AW, reduceAdd, reduceCtorEq, reduceEqDiff, ↓reduceIte, reduceLT, reduceLeDiff, reduceSub, reducePow, reduceMul, reduceToNat, reduceLE, reduceEq, Int.reduceLT, Int.reduceBEq, Int.reduceBNe]
  have d1 : (m[k].from_ == m[k].to_) = false := by rw [beq_eq_false_iff_ne]; exact h1
  rw [if_neg h1] at hs
  have q1 : ou.length + 1 ≤ maxLen := by unfold maxLen; omega
  have q2 : (ou.length + 1) * 16 ≤ 140737488355328 := by omega
  have ea : (ou ++ [m[k]]).map WinS.pv = ou.map WinS.pv ++ [(m[k]).pv] := by rw [List.map_append]; rfl
  by_cases h2 : ou.length = 0
  · have wl : IntKind.i64.wrap ((ou.length : Int) - 1) = -1 := by rw [h2]; decide
    have d2 : decide ((0 : Int) ≤ -1) = false := by decide
    rw [if_pos h2] at hs
    simp only [d1, wl, d2, AW, reduceAdd, reduceCtorEq, reduceEqDiff, ↓reduceIte, reduceLT, reduceLeDiff, reduceSub, reducePow, reduceMul, reduceToNat, reduceLE, reduceEq, Int.reduceLT, Int.reduceBEq, Int.reduceBNe]
    (try simp only [q1, q2, wk, List.length_map, AW, reduceAdd, reduceCtorEq, reduceEqDiff, ↓reduceIte, reduceLT, reduceLeDiff, reduceSub, reducePow, reduceMul, reduceToNat, reduceLE, reduceEq, Int.reduceLT, Int.reduceBEq, Int.reduceBNe])
    (first | (refine drawnK rfl ?_; (try simp only [AW, reduceAdd, reduceCtorEq, reduceEqDiff, ↓reduceIte, reduceLT, reduceLeDiff, reduceSub, reducePow, reduceMul, reduceToNat, reduceLE, reduceEq, Int.reduceLT, Int.reduceBEq, Int.reduceBNe])) | rfl | skip)
    (try simp only [q1, q2, wk, List.length_map, AW, reduceAdd, reduceCtorEq, reduceEqDiff, ↓reduceIte, reduceLT, reduceLeDiff, reduceSub, reducePow, reduceMul, reduceToNat, reduceLE, reduceEq, Int.reduceLT, Int.reduceBEq, Int.reduceBNe])
    refine ⟨k + 1, hltk, ?_, meas_lt0 hltk⟩
    simp only [LW, Nat.reduceMod, Nat.reduceDiv, hs, ea, WinS.pv, WinS.vals, List.map_cons, List.map_nil, AW, reduceAdd, reduceCtorEq, reduceEqDiff, ↓reduceIte, reduceLT, reduceLeDiff, reduceSub, reducePow, reduceMul, reduceToNat, reduceLE, reduceEq, Int.reduceLT, Int.reduceBEq, Int.reduceBNe]
  have hop : 0 < ou.length := by omega
  have hlt : ou.length - 1 < ou.length := by omega
  have wl : IntKind.i64.wrap ((ou.length : Int) - 1) = ((ou.length - 1 : Nat) : Int) := by rw [wrap_id ⟨by omega, by omega⟩]; omega
  have d2 : decide ((0 : Int) ≤ ((ou.length - 1 : Nat) : Int)) = true := by rw [decide_eq_true_eq]; omega
  have eg : ou.getD (ou.length - 1) ⟨0, 0⟩ = ou[ou.length - 1] := by rw [List.getD_eq_getElem?_getD, List.getElem?_eq_getElem hlt]; rfl
  rw [if_neg h2, eg] at hs
  have hst := set_to hop
  have hma := modify_at hop m[k]
  simp only [d1, wl, d2, hlt, map_getD hlt, WinS.pv, WinS.vals, List.map_cons, List.map_nil, List.length_map, AW, reduceAdd, reduceCtorEq, reduceEqDiff, ↓reduceIte, reduceLT, reduceLeDiff, reduceSub, reducePow, reduceMul, reduceToNat, reduceLE, reduceEq, Int.reduceLT, Int.reduceBEq, Int.reduceBNe]
  (first | (refine drawnK rfl ?_; (try simp only [AW, reduceAdd, reduceCtorEq, reduceEqDiff, ↓reduceIte, reduceLT, reduceLeDiff, reduceSub, reducePow, reduceMul, reduceToNat, reduceLE, reduceEq, Int.reduceLT, Int.reduceBEq, Int.reduceBNe])) | rfl | skip)
  cases h3 : decide (m[k].from_ ≤ ou[ou.length - 1].to_)
  · have h3' := of_decide_eq_false h3
    rw [if_neg h3'] at hs
    (first | (refine drawnK rfl ?_; (try simp only [AW, reduceAdd, reduceCtorEq, reduceEqDiff, ↓reduceIte, reduceLT, reduceLeDiff, reduceSub, reducePow, reduceMul, reduceToNat, reduceLE, reduceEq, Int.reduceLT, Int.reduceBEq, Int.reduceBNe])) | rfl | skip)
    (try simp only [q1, q2, wk, List.length_map, AW, reduceAdd, reduceCtorEq, reduceEqDiff, ↓reduceIte, reduceLT, reduceLeDiff, reduceSub, reducePow, reduceMul, reduceToNat, reduceLE, reduceEq, Int.reduceLT, Int.reduceBEq, Int.reduceBNe])
    (first | (refine drawnK rfl ?_; (try simp only [AW, reduceAdd, reduceCtorEq, reduceEqDiff, ↓reduceIte, reduceLT, reduceLeDiff, reduceSub, reducePow, reduceMul, reduceToNat, reduceLE, reduceEq, Int.reduceLT, Int.reduceBEq, Int.reduceBNe])) | rfl | skip)
    (try simp only [q1, q2, wk, List.length_map, AW, reduceAdd, reduceCtorEq, reduceEqDiff, ↓reduceIte, reduceLT, reduceLeDiff, reduceSub, reducePow, reduceMul, reduceToNat, reduceLE, reduceEq, Int.reduceLT, Int.reduceBEq, Int.reduceBNe])
    refine ⟨k + 1, hltk, ?_, meas_lt0 hltk⟩
    simp only [LW, Nat.reduceMod, Nat.reduceDiv, hs, ea, WinS.pv, WinS.vals, List.map_cons, List.map_nil, AW, reduceAdd, reduceCtorEq, reduceEqDiff, ↓reduceIte, reduceLT, reduceLeDiff, reduceSub, reducePow, reduceMul, reduceToNat, reduceLE, reduceEq, Int.reduceLT, Int.reduceBEq, Int.reduceBNe]
  · have h3' := of_decide_eq_true h3
    rw [if_pos h3', hma] at hs
    have ey := (hst (max ou[ou.length - 1].to_ m[k].to_)).symm
    rw [map_getD hlt] at ey
    (first | (refine drawnK rfl ?_; (try simp only [AW, reduceAdd, reduceCtorEq, reduceEqDiff, ↓reduceIte, reduceLT, reduceLeDiff, reduceSub, reducePow, reduceMul, reduceToNat, reduceLE, reduceEq, Int.reduceLT, Int.reduceBEq, Int.reduceBNe])) | rfl | skip)
    (try simp only [hlt, map_getD hlt, WinS.pv, WinS.vals, List.map_cons, List.map_nil, mx_eq, wk, List.length_map, AW, reduceAdd, reduceCtorEq, reduceEqDiff, ↓reduceIte, reduceLT, reduceLeDiff, reduceSub, reducePow, reduceMul, reduceToNat, reduceLE, reduceEq, Int.reduceLT, Int.reduceBEq, Int.reduceBNe])
    (first | (refine drawnK rfl ?_; (try simp only [AW, reduceAdd, reduceCtorEq, reduceEqDiff, ↓reduceIte, reduceLT, reduceLeDiff, reduceSub, reducePow, reduceMul, reduceToNat, reduceLE, reduceEq, Int.reduceLT, Int.reduceBEq, Int.reduceBNe])) | rfl | skip)
    (try simp only [wk, AW, reduceAdd, reduceCtorEq, reduceEqDiff, ↓reduceIte, reduceLT, reduceLeDiff, reduceSub, reducePow, reduceMul, reduceToNat, reduceLE, reduceEq, Int.reduceLT, Int.reduceBEq, Int.reduceBNe])
    refine ⟨k + 1, hltk, ?_, meas_lt0 hltk⟩
    simp only [LW, Nat.reduceMod, Nat.reduceDiv, hs, ey, WinS.pv, WinS.vals, List.map_cons, List.map_nil, AW, reduceAdd, reduceCtorEq, reduceEqDiff, ↓reduceIte, reduceLT, reduceLeDiff, reduceSub, reducePow, reduceMul, reduceToNat, reduceLE, reduceEq, Int.reduceLT, Int.reduceBEq, Int.reduceBNe]


end Go.Proofs.Ythgnbkcopapbmaa
