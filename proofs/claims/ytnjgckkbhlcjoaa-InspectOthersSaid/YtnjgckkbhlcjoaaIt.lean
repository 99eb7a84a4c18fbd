/-
  Inspections: after a good inspection now.
-/
import Derived.Test.YtnjgckkbhlcjoaaIs
namespace Go.Proofs.Ytnjgckkbhlcjoaa
open Go.RowKit
set_option linter.unusedVariables false
set_option linter.unusedSimpArgs false
set_option linter.unnecessarySimpa false

def oldB (b kind now : Int) (x : CheckS) : Bool := (x.bike != b) || ((x.kind != kind) || (x.at_ != now))
def newK (b kind now : Int) : CheckS := ⟨b, kind, now, true⟩
def limF (rules : List RuleS) (kind : Int) : Int := rules.foldl (fun a r => if r.kind = kind then r.limit else a) 1125899906842625
theorem limF_succ {rules : List RuleS} {kind : Int} {k : Nat} (h : k < rules.length) : limF (rules.take (k + 1)) kind = if rules[k].kind = kind then rules[k].limit else limF (rules.take k) kind := by
  unfold limF; rw [List.take_succ_eq_append_getElem h, List.foldl_append]; rfl
theorem limF_no {rules : List RuleS} {kind : Int} (h : ∀ r ∈ rules, r.kind ≠ kind) : limF rules kind = 1125899906842625 := by
  unfold limF
  suffices ∀ a : Int, rules.foldl (fun a r => if r.kind = kind then r.limit else a) a = a from this _
  induction rules with
  | nil => intro a; rfl
  | cons x l ih =>
    intro a
    rw [List.foldl_cons, if_neg (h x List.mem_cons_self)]
    exact ih (fun r hr => h r (List.mem_cons_of_mem _ hr)) a
theorem limF_yes {rules : List RuleS} {kind v : Int} (h : ∀ r ∈ rules, r.kind = kind → r.limit = v) (h2 : ∃ r ∈ rules, r.kind = kind) : limF rules kind = v := by
  unfold limF
  suffices ∀ a : Int, ((∃ r ∈ rules, r.kind = kind) ∨ a = v) → rules.foldl (fun a r => if r.kind = kind then r.limit else a) a = v from this _ (.inl h2)
  clear h2
  induction rules with
  | nil => rintro a (⟨r, hr, _⟩ | h); · cases hr
           · exact h
  | cons x l ih =>
    intro a ha
    rw [List.foldl_cons]
    refine ih (fun r hr => h r (List.mem_cons_of_mem _ hr)) _ ?_
    by_cases e : x.kind = kind
    · right; rw [if_pos e]; exact h x List.mem_cons_self e
    · rw [if_neg e]
      rcases ha with ⟨r, hr, hk⟩ | ha
      · rcases List.mem_cons.1 hr with rfl | hr
        · exact absurd hk e
        · exact .inl ⟨r, hr, hk⟩
      · exact .inr ha
theorem last_new {l : List CheckS} {b kind now : Int} : lastL (l.filter (oldB b kind now) ++ [newK b kind now]) b kind now = some (newK b kind now) := by
  have hm : matchB b kind now (newK b kind now) = true := by simp [matchB, newK]
  have e : lastL (l.filter (oldB b kind now) ++ [newK b kind now]) b kind now = stepB b kind now (lastL (l.filter (oldB b kind now)) b kind now) (newK b kind now) := by
    unfold lastL; rw [List.foldl_append]; rfl
  rw [e]
  unfold stepB
  cases hl : lastL (l.filter (oldB b kind now)) b kind now with
  | none => simp [hm]
  | some y =>
    have h1 := lastL_match hl
    have h2 := (List.mem_filter.1 (lastL_mem hl)).2
    simp only [matchB, Bool.and_eq_true, beq_iff_eq, decide_eq_true_eq] at h1
    simp only [oldB, Bool.or_eq_true, bne_iff_ne] at h2
    have h3 : y.at_ < now := by rcases h2 with h2 | h2 | h2 <;> omega
    rw [if_pos (by rw [hm]; simp [newK, h3])]
theorem worn_max {w : WearS} {rs : List RideS} {b k f t : Int} (h : (ofW w rs b k f t).2 = 0) : (ofW w rs b k f t).1 ≤ 1125899906842624 := by
  obtain ⟨a1, a2, a3, a4⟩ := ofW_ok h
  obtain ⟨-, -, -, -, -, p6, p7⟩ := win_ok a3
  obtain ⟨q1, q2, q3, q4, q5⟩ := wear_ok a1
  have ho : ∀ r ∈ rs, LegsOk r := fun r hr => legs_ok (p7 r hr)
  have n1 := useN_b (b := b) (f := f) (t := t) ho rs.length (Nat.le_refl _)
  have n2 := use_sec (b := b) (f := f) (t := t) p7 rs.length (Nat.le_refl _)
  have hk : k.toNat < w.hour.length := by omega
  have hk2 : k.toNat < w.ride.length := by omega
  have r1 := q5 _ (List.getElem_mem hk2)
  have r2 := q4 _ (List.getElem_mem hk)
  rw [a4]
  simp only [wornL, List.getD_eq_getElem?_getD, List.getElem?_eq_getElem hk, List.getElem?_eq_getElem hk2, Option.getD_some]
  have m1 := mul_bnd (B := 131072) r1 (show 0 ≤ useN b f t rs rs.length ∧ useN b f t rs rs.length ≤ 131072 by omega)
  have m2 := mul_bnd (B := 1099505663744) r2 (show 0 ≤ useS b f t rs rs.length ∧ useS b f t rs rs.length ≤ 1099505663744 by omega)
  generalize w.ride[k.toNat] * useN b f t rs rs.length = A at *
  generalize w.hour[k.toNat] * useS b f t rs rs.length = B at *
  omega
theorem fresh_law {rules : List RuleS} {l : List CheckS} {w : WearS} {rs : List RideS} {b kind now : Int} (hd : (dueL rules (l.filter (oldB b kind now) ++ [newK b kind now]) w rs b now).2 = 0) (hw : (ofW w rs b kind now (now + 1)).2 = 0) :
    hasL (dueL rules (l.filter (oldB b kind now) ++ [newK b kind now]) w rs b now).1 kind = decide (limF rules kind ≤ (ofW w rs b kind now (now + 1)).1) := by
  obtain ⟨h1, h2, h3, h4, h5⟩ := due_ok hd
  rw [h5]
  by_cases hr : ∃ r ∈ rules, r.kind = kind
  · obtain ⟨r, hr, rfl⟩ := hr
    have hl := limF_yes (kind := r.kind) (v := r.limit) (fun x hx e => by rw [nodup_inj (rules_ok h1).2.2 hx hr e]) ⟨r, hr, rfl⟩
    have hk := (rules_ok h1).2.1 r hr
    rw [has_out h1 hr, hl]
    unfold dueR wornR reasonB
    rw [last_new]
    have e1 : (lastK (some (newK b r.kind now))).good = true := rfl
    have e2 : (lastK (some (newK b r.kind now))).at_ = now := rfl
    have e3 : decide (r.days ≤ now / 86400 - now / 86400) = false := by rw [decide_eq_false_iff_not]; omega
    rw [e1, e2, e3, Bool.not_true, Bool.and_false, Bool.false_or, Bool.false_or]
  · have hr : ∀ r ∈ rules, r.kind ≠ kind := fun r h1 h2 => hr ⟨r, h1, h2⟩
    rw [has_out_no hr, limF_no hr]
    have := worn_max hw
    symm; rw [decide_eq_false_iff_not]; omega
theorem cap41 {n : Nat} (h : n ≤ 41) : n + 1 ≤ maxLen ∧ (n + 1) * 32 ≤ 140737488355328 ∧ 0 + n ≤ maxLen ∧ (0 + n) * 32 ≤ 140737488355328 := by unfold maxLen; omega
def vr (i : Nat) : Nat := if i = 0 then 2 else 0
theorem vr_zero : vr 0 = 2 := rfl
theorem vr_succ (i : Nat) : vr (i + 1) = 0 := rfl
theorem newK_pv (b k n : Int) : (newK b k n).pv = .agg [.sc (.int .i64 b), .sc (.int .i64 k), .sc (.int .i64 n), .sc (.bool true)] := rfl
set_option maxHeartbeats 4000000 in
theorem inspectFresh_good (c : CaseS) (kind : Int) : Good Try.prog 7 [c.pv, intP kind] (.sc (.bool true)) := by
  refine good7 (by simp) ?_
  simp only [ac7, CaseS.pv, intP, AW, Nat.reduceAdd, reduceCtorEq, Nat.reduceEqDiff, ↓reduceIte, Nat.reduceLT, Nat.reduceLeDiff, Nat.reduceSub, Nat.reducePow, Nat.reduceMul, Int.reduceToNat, Int.reduceLE, Int.reduceEq, Int.reduceLT, Int.reduceBEq, Int.reduceBNe]
  refine ops_call (few_g c) (by simp only [CaseS.pv, AW, Nat.reduceAdd, reduceCtorEq, Nat.reduceEqDiff, ↓reduceIte, Nat.reduceLT, Nat.reduceLeDiff, Nat.reduceSub, Nat.reducePow, Nat.reduceMul, Int.reduceToNat, Int.reduceLE, Int.reduceEq, Int.reduceLT, Int.reduceBEq, Int.reduceBNe]) ?_; simp only [CaseS.pv, AW, Nat.reduceAdd, reduceCtorEq, Nat.reduceEqDiff, ↓reduceIte, Nat.reduceLT, Nat.reduceLeDiff, Nat.reduceSub, Nat.reducePow, Nat.reduceMul, Int.reduceToNat, Int.reduceLE, Int.reduceEq, Int.reduceLT, Int.reduceBEq, Int.reduceBNe]
  cases hf : fewC c
  · simp only [AW, Nat.reduceAdd, reduceCtorEq, Nat.reduceEqDiff, ↓reduceIte, Nat.reduceLT, Nat.reduceLeDiff, Nat.reduceSub, Nat.reducePow, Nat.reduceMul, Int.reduceToNat, Int.reduceLE, Int.reduceEq, Int.reduceLT, Int.reduceBEq, Int.reduceBNe]; refine ops_call (awake) (by simp only [AW, Nat.reduceAdd, reduceCtorEq, Nat.reduceEqDiff, ↓reduceIte, Nat.reduceLT, Nat.reduceLeDiff, Nat.reduceSub, Nat.reducePow, Nat.reduceMul, Int.reduceToNat, Int.reduceLE, Int.reduceEq, Int.reduceLT, Int.reduceBEq, Int.reduceBNe]) ?_; simp only [AW, Nat.reduceAdd, reduceCtorEq, Nat.reduceEqDiff, ↓reduceIte, Nat.reduceLT, Nat.reduceLeDiff, Nat.reduceSub, Nat.reducePow, Nat.reduceMul, Int.reduceToNat, Int.reduceLE, Int.reduceEq, Int.reduceLT, Int.reduceBEq, Int.reduceBNe]
  obtain ⟨f1, f2, f3⟩ := fewC_ok hf
  have hlen : c.checks.length ≤ maxLen := by unfold maxLen; omega
  have hlr : c.rules.length ≤ maxLen := by unfold maxLen; omega
  simp only [AW, Nat.reduceAdd, reduceCtorEq, Nat.reduceEqDiff, ↓reduceIte, Nat.reduceLT, Nat.reduceLeDiff, Nat.reduceSub, Nat.reducePow, Nat.reduceMul, Int.reduceToNat, Int.reduceLE, Int.reduceEq, Int.reduceLT, Int.reduceBEq, Int.reduceBNe]
  refine run_loop (ι := Nat) (fun k => ⟨[(1, .sc (.int .i64 kind)), (2, .ptr 0 0), (5, .own 7 0), (6, .sc (.int .i64 (k : Int)))], [(0, .var [.sl (c.rules.map RuleS.pv), .sl (c.checks.map CheckS.pv), .sl (c.wear.hour.map intP), .sl (c.wear.ride.map intP), .sl (c.rides.map RideS.pv), .sc (.int .i64 c.bike), .sc (.int .i64 c.now)]), (7, .row 30 4 0 (((c.checks.take k).filter (oldB c.bike kind c.now)).map CheckS.pv))], 8, 137⟩) (fun k => k ≤ c.checks.length) (fun k => c.checks.length - k) 8 (fun _ => rfl) 0 (by simp only [LW, Nat.reduceMod, Nat.reduceDiv, Int.natCast_zero, List.take_zero, List.filter_nil, List.map_nil, AW, Nat.reduceAdd, reduceCtorEq, Nat.reduceEqDiff, ↓reduceIte, Nat.reduceLT, Nat.reduceLeDiff, Nat.reduceSub, Nat.reducePow, Nat.reduceMul, Int.reduceToNat, Int.reduceLE, Int.reduceEq, Int.reduceLT, Int.reduceBEq, Int.reduceBNe]) (Nat.zero_le _) (fun k hk => ?_)
  have gk := hk
  by_cases hltk : k < c.checks.length
  rotate_left
  · have dk : decide ((k : Int) < ((c.checks.length : Nat) : Int)) = false := by rw [decide_eq_false_iff_not]; exact fun h => hltk (Int.ofNat_lt.1 h)
    have ek : k = c.checks.length := Nat.le_antisymm gk (Nat.le_of_not_lt hltk)
    subst ek
    have L1 : (c.checks.filter (oldB c.bike kind c.now)).length ≤ 40 := Nat.le_trans (List.length_filter_le _ _) f2
    have gd : Good Try.prog _ _ (dueP (dueL c.rules (c.checks.filter (oldB c.bike kind c.now) ++ [newK c.bike kind c.now]) c.wear c.rides c.bike c.now)) := due_c ⟨c.rules, c.checks.filter (oldB c.bike kind c.now) ++ [newK c.bike kind c.now], c.wear, c.rides, c.bike, c.now⟩
    have fl := fresh_law (rules := c.rules) (l := c.checks) (w := c.wear) (rs := c.rides) (b := c.bike) (kind := kind) (now := c.now)
    simp only [dk, List.take_length, AW, Nat.reduceAdd, reduceCtorEq, Nat.reduceEqDiff, ↓reduceIte, Nat.reduceLT, Nat.reduceLeDiff, Nat.reduceSub, Nat.reducePow, Nat.reduceMul, Int.reduceToNat, Int.reduceLE, Int.reduceEq, Int.reduceLT, Int.reduceBEq, Int.reduceBNe]
    generalize c.checks.filter (oldB c.bike kind c.now) = L at *
    obtain ⟨g1, g2, g3, g4⟩ := cap41 (show L.length ≤ 41 by omega)
    have all4 : ((L.map CheckS.pv).all fun p => p.flat.length == 4 && p.flat.all PV.cellOk) = true := List.all_eq_true.2 (fun p hp => by obtain ⟨x, _, rfl⟩ := List.mem_map.1 hp; rfl)
    have g5 : L.length ≤ maxLen ∧ L.length * 32 ≤ 140737488355328 := by unfold maxLen; omega
    simp only [all4, g5, and_self, AW, Nat.reduceAdd, reduceCtorEq, Nat.reduceEqDiff, ↓reduceIte, Nat.reduceLT, Nat.reduceLeDiff, Nat.reduceSub, Nat.reducePow, Nat.reduceMul, Int.reduceToNat, Int.reduceLE, Int.reduceEq, Int.reduceLT, Int.reduceBEq, Int.reduceBNe]
    simp only [g1, g2, and_self, AW, Nat.reduceAdd, reduceCtorEq, Nat.reduceEqDiff, ↓reduceIte, Nat.reduceLT, Nat.reduceLeDiff, Nat.reduceSub, Nat.reducePow, Nat.reduceMul, Int.reduceToNat, Int.reduceLE, Int.reduceEq, Int.reduceLT, Int.reduceBEq, Int.reduceBNe]
    (try refine drawnK rfl ?_); (try simp only [g1, g2, and_self, AW, Nat.reduceAdd, reduceCtorEq, Nat.reduceEqDiff, ↓reduceIte, Nat.reduceLT, Nat.reduceLeDiff, Nat.reduceSub, Nat.reducePow, Nat.reduceMul, Int.reduceToNat, Int.reduceLE, Int.reduceEq, Int.reduceLT, Int.reduceBEq, Int.reduceBNe])
    refine ops_call (gd) (by simp only [CaseS.pv, dueP, intP, newK_pv, List.map_append, List.map_cons, List.map_nil, AW, Nat.reduceAdd, reduceCtorEq, Nat.reduceEqDiff, ↓reduceIte, Nat.reduceLT, Nat.reduceLeDiff, Nat.reduceSub, Nat.reducePow, Nat.reduceMul, Int.reduceToNat, Int.reduceLE, Int.reduceEq, Int.reduceLT, Int.reduceBEq, Int.reduceBNe]) ?_; simp only [CaseS.pv, dueP, intP, newK_pv, List.map_append, List.map_cons, List.map_nil, AW, Nat.reduceAdd, reduceCtorEq, Nat.reduceEqDiff, ↓reduceIte, Nat.reduceLT, Nat.reduceLeDiff, Nat.reduceSub, Nat.reducePow, Nat.reduceMul, Int.reduceToNat, Int.reduceLE, Int.reduceEq, Int.reduceLT, Int.reduceBEq, Int.reduceBNe]
    generalize hD : dueL c.rules (L ++ [newK c.bike kind c.now]) c.wear c.rides c.bike c.now = D at *
    refine ops_call (of_g c.wear c.rides c.bike kind c.now (IntKind.wrap .i64 (c.now + 1))) (by simp only [pairP, intP, WearS.pv, AW, Nat.reduceAdd, reduceCtorEq, Nat.reduceEqDiff, ↓reduceIte, Nat.reduceLT, Nat.reduceLeDiff, Nat.reduceSub, Nat.reducePow, Nat.reduceMul, Int.reduceToNat, Int.reduceLE, Int.reduceEq, Int.reduceLT, Int.reduceBEq, Int.reduceBNe]) ?_; simp only [pairP, intP, WearS.pv, AW, Nat.reduceAdd, reduceCtorEq, Nat.reduceEqDiff, ↓reduceIte, Nat.reduceLT, Nat.reduceLeDiff, Nat.reduceSub, Nat.reducePow, Nat.reduceMul, Int.reduceToNat, Int.reduceLE, Int.reduceEq, Int.reduceLT, Int.reduceBEq, Int.reduceBNe]
    (try refine drawnK rfl ?_); (try simp only [AW, Nat.reduceAdd, reduceCtorEq, Nat.reduceEqDiff, ↓reduceIte, Nat.reduceLT, Nat.reduceLeDiff, Nat.reduceSub, Nat.reducePow, Nat.reduceMul, Int.reduceToNat, Int.reduceLE, Int.reduceEq, Int.reduceLT, Int.reduceBEq, Int.reduceBNe])
    cases e1 : (D.2 != 0)
    rotate_left
    · simp only [AW, Nat.reduceAdd, reduceCtorEq, Nat.reduceEqDiff, ↓reduceIte, Nat.reduceLT, Nat.reduceLeDiff, Nat.reduceSub, Nat.reducePow, Nat.reduceMul, Int.reduceToNat, Int.reduceLE, Int.reduceEq, Int.reduceLT, Int.reduceBEq, Int.reduceBNe]; refine ops_call (awake) (by simp only [AW, Nat.reduceAdd, reduceCtorEq, Nat.reduceEqDiff, ↓reduceIte, Nat.reduceLT, Nat.reduceLeDiff, Nat.reduceSub, Nat.reducePow, Nat.reduceMul, Int.reduceToNat, Int.reduceLE, Int.reduceEq, Int.reduceLT, Int.reduceBEq, Int.reduceBNe]) ?_; simp only [AW, Nat.reduceAdd, reduceCtorEq, Nat.reduceEqDiff, ↓reduceIte, Nat.reduceLT, Nat.reduceLeDiff, Nat.reduceSub, Nat.reducePow, Nat.reduceMul, Int.reduceToNat, Int.reduceLE, Int.reduceEq, Int.reduceLT, Int.reduceBEq, Int.reduceBNe]
    simp only [AW, Nat.reduceAdd, reduceCtorEq, Nat.reduceEqDiff, ↓reduceIte, Nat.reduceLT, Nat.reduceLeDiff, Nat.reduceSub, Nat.reducePow, Nat.reduceMul, Int.reduceToNat, Int.reduceLE, Int.reduceEq, Int.reduceLT, Int.reduceBEq, Int.reduceBNe]
    cases e2 : ((ofW c.wear c.rides c.bike kind c.now (IntKind.wrap .i64 (c.now + 1))).2 != 0)
    rotate_left
    · simp only [AW, Nat.reduceAdd, reduceCtorEq, Nat.reduceEqDiff, ↓reduceIte, Nat.reduceLT, Nat.reduceLeDiff, Nat.reduceSub, Nat.reducePow, Nat.reduceMul, Int.reduceToNat, Int.reduceLE, Int.reduceEq, Int.reduceLT, Int.reduceBEq, Int.reduceBNe]; refine ops_call (awake) (by simp only [AW, Nat.reduceAdd, reduceCtorEq, Nat.reduceEqDiff, ↓reduceIte, Nat.reduceLT, Nat.reduceLeDiff, Nat.reduceSub, Nat.reducePow, Nat.reduceMul, Int.reduceToNat, Int.reduceLE, Int.reduceEq, Int.reduceLT, Int.reduceBEq, Int.reduceBNe]) ?_; simp only [AW, Nat.reduceAdd, reduceCtorEq, Nat.reduceEqDiff, ↓reduceIte, Nat.reduceLT, Nat.reduceLeDiff, Nat.reduceSub, Nat.reducePow, Nat.reduceMul, Int.reduceToNat, Int.reduceLE, Int.reduceEq, Int.reduceLT, Int.reduceBEq, Int.reduceBNe]
    have e1 : D.2 = 0 := by simpa using e1
    have e2 : (ofW c.wear c.rides c.bike kind c.now (IntKind.wrap .i64 (c.now + 1))).2 = 0 := by simpa using e2
    have w1 : IntKind.wrap .i64 (c.now + 1) = c.now + 1 := by
      rw [← hD] at e1
      obtain ⟨-, -, h3, -, -⟩ := due_ok e1
      exact i64_now (by omega) (by omega)
    rw [w1] at e2
    have fl := fl e1 e2
    simp only [w1, AW, Nat.reduceAdd, reduceCtorEq, Nat.reduceEqDiff, ↓reduceIte, Nat.reduceLT, Nat.reduceLeDiff, Nat.reduceSub, Nat.reducePow, Nat.reduceMul, Int.reduceToNat, Int.reduceLE, Int.reduceEq, Int.reduceLT, Int.reduceBEq, Int.reduceBNe]
    clear gk hltk
    refine run_loop (ι := Nat) (fun i => ⟨[(1, .sc (.int .i64 kind)), (2, .ptr 0 0), (7, .sl (D.1.map intP)), (9, .sc (.int .i64 (ofW c.wear c.rides c.bike kind c.now (c.now + 1)).1)), (11, .sc (.int .i64 (limF (c.rules.take i) kind))), (12, .sc (.int .i64 (i : Int)))], [(0, .var [.sl (c.rules.map RuleS.pv), .own 13 (vr i), .sl (c.wear.hour.map intP), .sl (c.wear.ride.map intP), .sl (c.rides.map RideS.pv), .sc (.int .i64 c.bike), .sc (.int .i64 c.now)]), (7, .row 30 4 0 (L.map CheckS.pv)), (13, .frz (vr i) ((L.map CheckS.pv) ++ [.agg [.sc (.int .i64 c.bike), .sc (.int .i64 kind), .sc (.int .i64 c.now), .sc (.bool true)]])), (26, .row 30 4 0 [.agg [.sc (.int .i64 c.bike), .sc (.int .i64 kind), .sc (.int .i64 c.now), .sc (.bool true)]])], 64, 137⟩) (fun i => i ≤ c.rules.length) (fun i => c.rules.length - i) 64 (fun _ => rfl) 0 (by simp only [LW, Nat.reduceMod, Nat.reduceDiv, Int.natCast_zero, List.take_zero, limF, List.foldl_nil, vr_zero, AW, Nat.reduceAdd, reduceCtorEq, Nat.reduceEqDiff, ↓reduceIte, Nat.reduceLT, Nat.reduceLeDiff, Nat.reduceSub, Nat.reducePow, Nat.reduceMul, Int.reduceToNat, Int.reduceLE, Int.reduceEq, Int.reduceLT, Int.reduceBEq, Int.reduceBNe]) (Nat.zero_le _) (fun i hi => ?_)
    have gi := hi
    by_cases hlti : i < c.rules.length
    rotate_left
    · have di : decide ((i : Int) < ((c.rules.length : Nat) : Int)) = false := by rw [decide_eq_false_iff_not]; exact fun h => hlti (Int.ofNat_lt.1 h)
      have ei : i = c.rules.length := Nat.le_antisymm gi (Nat.le_of_not_lt hlti)
      subst ei
      simp only [di, List.take_length, AW, Nat.reduceAdd, reduceCtorEq, Nat.reduceEqDiff, ↓reduceIte, Nat.reduceLT, Nat.reduceLeDiff, Nat.reduceSub, Nat.reducePow, Nat.reduceMul, Int.reduceToNat, Int.reduceLE, Int.reduceEq, Int.reduceLT, Int.reduceBEq, Int.reduceBNe]
      refine ops_call (has_g D.1 kind) (by simp only [intsP, intP, AW, Nat.reduceAdd, reduceCtorEq, Nat.reduceEqDiff, ↓reduceIte, Nat.reduceLT, Nat.reduceLeDiff, Nat.reduceSub, Nat.reducePow, Nat.reduceMul, Int.reduceToNat, Int.reduceLE, Int.reduceEq, Int.reduceLT, Int.reduceBEq, Int.reduceBNe]) ?_; simp only [intsP, intP, AW, Nat.reduceAdd, reduceCtorEq, Nat.reduceEqDiff, ↓reduceIte, Nat.reduceLT, Nat.reduceLeDiff, Nat.reduceSub, Nat.reducePow, Nat.reduceMul, Int.reduceToNat, Int.reduceLE, Int.reduceEq, Int.reduceLT, Int.reduceBEq, Int.reduceBNe]
      simp only [fl, AW, Nat.reduceAdd, reduceCtorEq, Nat.reduceEqDiff, ↓reduceIte, Nat.reduceLT, Nat.reduceLeDiff, Nat.reduceSub, Nat.reducePow, Nat.reduceMul, Int.reduceToNat, Int.reduceLE, Int.reduceEq, Int.reduceLT, Int.reduceBEq, Int.reduceBNe]
      refine ops_call (awake) (by simp only [AW, Nat.reduceAdd, reduceCtorEq, Nat.reduceEqDiff, ↓reduceIte, Nat.reduceLT, Nat.reduceLeDiff, Nat.reduceSub, Nat.reducePow, Nat.reduceMul, Int.reduceToNat, Int.reduceLE, Int.reduceEq, Int.reduceLT, Int.reduceBEq, Int.reduceBNe]) ?_; simp only [AW, Nat.reduceAdd, reduceCtorEq, Nat.reduceEqDiff, ↓reduceIte, Nat.reduceLT, Nat.reduceLeDiff, Nat.reduceSub, Nat.reducePow, Nat.reduceMul, Int.reduceToNat, Int.reduceLE, Int.reduceEq, Int.reduceLT, Int.reduceBEq, Int.reduceBNe]
    have di : decide ((i : Int) < ((c.rules.length : Nat) : Int)) = true := by rw [decide_eq_true_eq]; exact Int.ofNat_lt.2 hlti
    simp only [di, map_getD hlti, hlti, RuleS.pv, RuleS.vals, List.map_cons, List.map_nil, AW, Nat.reduceAdd, reduceCtorEq, Nat.reduceEqDiff, ↓reduceIte, Nat.reduceLT, Nat.reduceLeDiff, Nat.reduceSub, Nat.reducePow, Nat.reduceMul, Int.reduceToNat, Int.reduceLE, Int.reduceEq, Int.reduceLT, Int.reduceBEq, Int.reduceBNe]
    have es := limF_succ (kind := kind) hlti
    cases e3 : (c.rules[i].kind == kind)
    · (try simp only [map_getD hlti, hlti, RuleS.pv, RuleS.vals, List.map_cons, List.map_nil, AW, Nat.reduceAdd, reduceCtorEq, Nat.reduceEqDiff, ↓reduceIte, Nat.reduceLT, Nat.reduceLeDiff, Nat.reduceSub, Nat.reducePow, Nat.reduceMul, Int.reduceToNat, Int.reduceLE, Int.reduceEq, Int.reduceLT, Int.reduceBEq, Int.reduceBNe])
      rw [if_neg (by simpa using e3)] at es
      (try simp only [wrap_succ hlti hlr, AW, Nat.reduceAdd, reduceCtorEq, Nat.reduceEqDiff, ↓reduceIte, Nat.reduceLT, Nat.reduceLeDiff, Nat.reduceSub, Nat.reducePow, Nat.reduceMul, Int.reduceToNat, Int.reduceLE, Int.reduceEq, Int.reduceLT, Int.reduceBEq, Int.reduceBNe])
      refine ⟨i + 1, hlti, ?_, meas_lt hlti⟩
      simp only [LW, Nat.reduceMod, Nat.reduceDiv, es, vr_succ, AW, Nat.reduceAdd, reduceCtorEq, Nat.reduceEqDiff, ↓reduceIte, Nat.reduceLT, Nat.reduceLeDiff, Nat.reduceSub, Nat.reducePow, Nat.reduceMul, Int.reduceToNat, Int.reduceLE, Int.reduceEq, Int.reduceLT, Int.reduceBEq, Int.reduceBNe]
    · (try simp only [map_getD hlti, hlti, RuleS.pv, RuleS.vals, List.map_cons, List.map_nil, AW, Nat.reduceAdd, reduceCtorEq, Nat.reduceEqDiff, ↓reduceIte, Nat.reduceLT, Nat.reduceLeDiff, Nat.reduceSub, Nat.reducePow, Nat.reduceMul, Int.reduceToNat, Int.reduceLE, Int.reduceEq, Int.reduceLT, Int.reduceBEq, Int.reduceBNe])
      rw [if_pos (by simpa using e3)] at es
      (try simp only [wrap_succ hlti hlr, AW, Nat.reduceAdd, reduceCtorEq, Nat.reduceEqDiff, ↓reduceIte, Nat.reduceLT, Nat.reduceLeDiff, Nat.reduceSub, Nat.reducePow, Nat.reduceMul, Int.reduceToNat, Int.reduceLE, Int.reduceEq, Int.reduceLT, Int.reduceBEq, Int.reduceBNe])
      refine ⟨i + 1, hlti, ?_, meas_lt hlti⟩
      simp only [LW, Nat.reduceMod, Nat.reduceDiv, es, vr_succ, AW, Nat.reduceAdd, reduceCtorEq, Nat.reduceEqDiff, ↓reduceIte, Nat.reduceLT, Nat.reduceLeDiff, Nat.reduceSub, Nat.reducePow, Nat.reduceMul, Int.reduceToNat, Int.reduceLE, Int.reduceEq, Int.reduceLT, Int.reduceBEq, Int.reduceBNe]
  have dk : decide ((k : Int) < ((c.checks.length : Nat) : Int)) = true := by rw [decide_eq_true_eq]; exact Int.ofNat_lt.2 hltk
  have L1 : ((c.checks.take k).filter (oldB c.bike kind c.now)).length ≤ 41 := Nat.le_trans (List.length_filter_le _ _) (Nat.le_trans (List.length_take_le' _ _) (by omega))
  obtain ⟨g1, g2, -, -⟩ := cap41 L1
  simp only [dk, map_getD hltk, hltk, CheckS.pv, CheckS.vals, List.map_cons, List.map_nil, AW, Nat.reduceAdd, reduceCtorEq, Nat.reduceEqDiff, ↓reduceIte, Nat.reduceLT, Nat.reduceLeDiff, Nat.reduceSub, Nat.reducePow, Nat.reduceMul, Int.reduceToNat, Int.reduceLE, Int.reduceEq, Int.reduceLT, Int.reduceBEq, Int.reduceBNe]
  cases c4 : (c.checks[k].bike != c.bike)
  rotate_left
  · (try simp only [map_getD hltk, hltk, CheckS.pv, CheckS.vals, List.map_cons, List.map_nil, g1, g2, and_self, AW, Nat.reduceAdd, reduceCtorEq, Nat.reduceEqDiff, ↓reduceIte, Nat.reduceLT, Nat.reduceLeDiff, Nat.reduceSub, Nat.reducePow, Nat.reduceMul, Int.reduceToNat, Int.reduceLE, Int.reduceEq, Int.reduceLT, Int.reduceBEq, Int.reduceBNe])
    (try refine drawnK rfl ?_); (try simp only [map_getD hltk, hltk, CheckS.pv, CheckS.vals, List.map_cons, List.map_nil, g1, g2, and_self, AW, Nat.reduceAdd, reduceCtorEq, Nat.reduceEqDiff, ↓reduceIte, Nat.reduceLT, Nat.reduceLeDiff, Nat.reduceSub, Nat.reducePow, Nat.reduceMul, Int.reduceToNat, Int.reduceLE, Int.reduceEq, Int.reduceLT, Int.reduceBEq, Int.reduceBNe])
    (try simp only [wrap_succ hltk hlen, AW, Nat.reduceAdd, reduceCtorEq, Nat.reduceEqDiff, ↓reduceIte, Nat.reduceLT, Nat.reduceLeDiff, Nat.reduceSub, Nat.reducePow, Nat.reduceMul, Int.reduceToNat, Int.reduceLE, Int.reduceEq, Int.reduceLT, Int.reduceBEq, Int.reduceBNe])
    have eo : oldB c.bike kind c.now c.checks[k] = true := by simp [oldB, *]
    have es : (c.checks.take (k + 1)).filter (oldB c.bike kind c.now) = (c.checks.take k).filter (oldB c.bike kind c.now) ++ [c.checks[k]] := by
      rw [List.take_succ_eq_append_getElem hltk, List.filter_append]; simp [eo]
    refine ⟨k + 1, hltk, ?_, meas_lt hltk⟩
    simp only [LW, Nat.reduceMod, Nat.reduceDiv, es, List.map_append, CheckS.pv, CheckS.vals, List.map_cons, List.map_nil, AW, Nat.reduceAdd, reduceCtorEq, Nat.reduceEqDiff, ↓reduceIte, Nat.reduceLT, Nat.reduceLeDiff, Nat.reduceSub, Nat.reducePow, Nat.reduceMul, Int.reduceToNat, Int.reduceLE, Int.reduceEq, Int.reduceLT, Int.reduceBEq, Int.reduceBNe]
  (try simp only [map_getD hltk, hltk, CheckS.pv, CheckS.vals, List.map_cons, List.map_nil, g1, g2, and_self, AW, Nat.reduceAdd, reduceCtorEq, Nat.reduceEqDiff, ↓reduceIte, Nat.reduceLT, Nat.reduceLeDiff, Nat.reduceSub, Nat.reducePow, Nat.reduceMul, Int.reduceToNat, Int.reduceLE, Int.reduceEq, Int.reduceLT, Int.reduceBEq, Int.reduceBNe])
  cases c5 : (c.checks[k].kind != kind)
  rotate_left
  · (try simp only [map_getD hltk, hltk, CheckS.pv, CheckS.vals, List.map_cons, List.map_nil, g1, g2, and_self, AW, Nat.reduceAdd, reduceCtorEq, Nat.reduceEqDiff, ↓reduceIte, Nat.reduceLT, Nat.reduceLeDiff, Nat.reduceSub, Nat.reducePow, Nat.reduceMul, Int.reduceToNat, Int.reduceLE, Int.reduceEq, Int.reduceLT, Int.reduceBEq, Int.reduceBNe])
    (try refine drawnK rfl ?_); (try simp only [map_getD hltk, hltk, CheckS.pv, CheckS.vals, List.map_cons, List.map_nil, g1, g2, and_self, AW, Nat.reduceAdd, reduceCtorEq, Nat.reduceEqDiff, ↓reduceIte, Nat.reduceLT, Nat.reduceLeDiff, Nat.reduceSub, Nat.reducePow, Nat.reduceMul, Int.reduceToNat, Int.reduceLE, Int.reduceEq, Int.reduceLT, Int.reduceBEq, Int.reduceBNe])
    (try simp only [wrap_succ hltk hlen, AW, Nat.reduceAdd, reduceCtorEq, Nat.reduceEqDiff, ↓reduceIte, Nat.reduceLT, Nat.reduceLeDiff, Nat.reduceSub, Nat.reducePow, Nat.reduceMul, Int.reduceToNat, Int.reduceLE, Int.reduceEq, Int.reduceLT, Int.reduceBEq, Int.reduceBNe])
    have eo : oldB c.bike kind c.now c.checks[k] = true := by simp [oldB, *]
    have es : (c.checks.take (k + 1)).filter (oldB c.bike kind c.now) = (c.checks.take k).filter (oldB c.bike kind c.now) ++ [c.checks[k]] := by
      rw [List.take_succ_eq_append_getElem hltk, List.filter_append]; simp [eo]
    refine ⟨k + 1, hltk, ?_, meas_lt hltk⟩
    simp only [LW, Nat.reduceMod, Nat.reduceDiv, es, List.map_append, CheckS.pv, CheckS.vals, List.map_cons, List.map_nil, AW, Nat.reduceAdd, reduceCtorEq, Nat.reduceEqDiff, ↓reduceIte, Nat.reduceLT, Nat.reduceLeDiff, Nat.reduceSub, Nat.reducePow, Nat.reduceMul, Int.reduceToNat, Int.reduceLE, Int.reduceEq, Int.reduceLT, Int.reduceBEq, Int.reduceBNe]
  (try simp only [map_getD hltk, hltk, CheckS.pv, CheckS.vals, List.map_cons, List.map_nil, g1, g2, and_self, AW, Nat.reduceAdd, reduceCtorEq, Nat.reduceEqDiff, ↓reduceIte, Nat.reduceLT, Nat.reduceLeDiff, Nat.reduceSub, Nat.reducePow, Nat.reduceMul, Int.reduceToNat, Int.reduceLE, Int.reduceEq, Int.reduceLT, Int.reduceBEq, Int.reduceBNe])
  cases c6 : (c.checks[k].at_ != c.now)
  rotate_left
  · (try simp only [map_getD hltk, hltk, CheckS.pv, CheckS.vals, List.map_cons, List.map_nil, g1, g2, and_self, AW, Nat.reduceAdd, reduceCtorEq, Nat.reduceEqDiff, ↓reduceIte, Nat.reduceLT, Nat.reduceLeDiff, Nat.reduceSub, Nat.reducePow, Nat.reduceMul, Int.reduceToNat, Int.reduceLE, Int.reduceEq, Int.reduceLT, Int.reduceBEq, Int.reduceBNe])
    (try refine drawnK rfl ?_); (try simp only [map_getD hltk, hltk, CheckS.pv, CheckS.vals, List.map_cons, List.map_nil, g1, g2, and_self, AW, Nat.reduceAdd, reduceCtorEq, Nat.reduceEqDiff, ↓reduceIte, Nat.reduceLT, Nat.reduceLeDiff, Nat.reduceSub, Nat.reducePow, Nat.reduceMul, Int.reduceToNat, Int.reduceLE, Int.reduceEq, Int.reduceLT, Int.reduceBEq, Int.reduceBNe])
    (try simp only [wrap_succ hltk hlen, AW, Nat.reduceAdd, reduceCtorEq, Nat.reduceEqDiff, ↓reduceIte, Nat.reduceLT, Nat.reduceLeDiff, Nat.reduceSub, Nat.reducePow, Nat.reduceMul, Int.reduceToNat, Int.reduceLE, Int.reduceEq, Int.reduceLT, Int.reduceBEq, Int.reduceBNe])
    have eo : oldB c.bike kind c.now c.checks[k] = true := by simp [oldB, *]
    have es : (c.checks.take (k + 1)).filter (oldB c.bike kind c.now) = (c.checks.take k).filter (oldB c.bike kind c.now) ++ [c.checks[k]] := by
      rw [List.take_succ_eq_append_getElem hltk, List.filter_append]; simp [eo]
    refine ⟨k + 1, hltk, ?_, meas_lt hltk⟩
    simp only [LW, Nat.reduceMod, Nat.reduceDiv, es, List.map_append, CheckS.pv, CheckS.vals, List.map_cons, List.map_nil, AW, Nat.reduceAdd, reduceCtorEq, Nat.reduceEqDiff, ↓reduceIte, Nat.reduceLT, Nat.reduceLeDiff, Nat.reduceSub, Nat.reducePow, Nat.reduceMul, Int.reduceToNat, Int.reduceLE, Int.reduceEq, Int.reduceLT, Int.reduceBEq, Int.reduceBNe]
  (try simp only [map_getD hltk, hltk, CheckS.pv, CheckS.vals, List.map_cons, List.map_nil, g1, g2, and_self, AW, Nat.reduceAdd, reduceCtorEq, Nat.reduceEqDiff, ↓reduceIte, Nat.reduceLT, Nat.reduceLeDiff, Nat.reduceSub, Nat.reducePow, Nat.reduceMul, Int.reduceToNat, Int.reduceLE, Int.reduceEq, Int.reduceLT, Int.reduceBEq, Int.reduceBNe])
  (try refine drawnK rfl ?_); (try simp only [map_getD hltk, hltk, CheckS.pv, CheckS.vals, List.map_cons, List.map_nil, g1, g2, and_self, AW, Nat.reduceAdd, reduceCtorEq, Nat.reduceEqDiff, ↓reduceIte, Nat.reduceLT, Nat.reduceLeDiff, Nat.reduceSub, Nat.reducePow, Nat.reduceMul, Int.reduceToNat, Int.reduceLE, Int.reduceEq, Int.reduceLT, Int.reduceBEq, Int.reduceBNe])
  (try simp only [wrap_succ hltk hlen, AW, Nat.reduceAdd, reduceCtorEq, Nat.reduceEqDiff, ↓reduceIte, Nat.reduceLT, Nat.reduceLeDiff, Nat.reduceSub, Nat.reducePow, Nat.reduceMul, Int.reduceToNat, Int.reduceLE, Int.reduceEq, Int.reduceLT, Int.reduceBEq, Int.reduceBNe])
  have eo : oldB c.bike kind c.now c.checks[k] = false := by simp [oldB, *]
  have es : (c.checks.take (k + 1)).filter (oldB c.bike kind c.now) = (c.checks.take k).filter (oldB c.bike kind c.now) := by
    rw [List.take_succ_eq_append_getElem hltk, List.filter_append]; simp [eo]
  refine ⟨k + 1, hltk, ?_, meas_lt hltk⟩
  simp only [LW, Nat.reduceMod, Nat.reduceDiv, es, List.map_append, CheckS.pv, CheckS.vals, List.map_cons, List.map_nil, AW, Nat.reduceAdd, reduceCtorEq, Nat.reduceEqDiff, ↓reduceIte, Nat.reduceLT, Nat.reduceLeDiff, Nat.reduceSub, Nat.reducePow, Nat.reduceMul, Int.reduceToNat, Int.reduceLE, Int.reduceEq, Int.reduceLT, Int.reduceBEq, Int.reduceBNe]


end Go.Proofs.Ytnjgckkbhlcjoaa
