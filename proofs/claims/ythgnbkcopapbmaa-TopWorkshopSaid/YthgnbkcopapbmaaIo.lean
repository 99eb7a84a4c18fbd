/-
  Inspections: the kinds that are due.
-/
import Derived.Test.YthgnbkcopapbmaaIn
namespace Go.Proofs.Ythgnbkcopapbmaa
open Go.RowKit
open Nat (reduceAdd reduceEqDiff reduceLT reduceLeDiff reduceSub reducePow reduceMul)
open Int (reduceToNat reduceLE reduceEq)
set_option linter.unusedVariables false
set_option linter.unusedSimpArgs false
set_option linter.unnecessarySimpa false


def lastK (m : Option CheckS) : CheckS := m.getD zeroK
theorem lastP_eq (m : Option CheckS) : lastP m = .tup [(lastK m).pv, .sc (.bool m.isSome)] := by cases m <;> rfl
noncomputable def wornR (l : List CheckS) (w : WearS) (rs : List RideS) (b now : Int) (r : RuleS) : Int × Int := ofW w rs b r.kind (lastK (lastL l b r.kind now)).at_ (now + 1)
noncomputable def errR (l : List CheckS) (w : WearS) (rs : List RideS) (b now : Int) (r : RuleS) : Int := (wornR l w rs b now r).2
def reasonB (m : Option CheckS) (now n : Int) (r : RuleS) : Bool := (m.isSome && !(lastK m).good) || (decide (r.days ≤ now / 86400 - (lastK m).at_ / 86400) || decide (r.limit ≤ n))
noncomputable def dueR (l : List CheckS) (w : WearS) (rs : List RideS) (b now : Int) (r : RuleS) : Bool := reasonB (lastL l b r.kind now) now (wornR l w rs b now r).1 r
noncomputable def dueL (rules : List RuleS) (l : List CheckS) (w : WearS) (rs : List RideS) (b now : Int) : List Int × Int :=
  if rulesL rules ≠ 0 then ([], rulesL rules) else if checksL l ≠ 0 then ([], checksL l) else if b < 0 ∨ 128 ≤ b ∨ now < 0 ∨ 4294943999 < now then ([], 1)
  else if firstE (errR l w rs b now) rules ≠ 0 then ([], firstE (errR l w rs b now) rules) else ((rules.filter (dueR l w rs b now)).map RuleS.kind, 0)
def dueP (p : List Int × Int) : PV := .tup [.sl (p.1.map intP), intP p.2]
section
variable {rules : List RuleS} {l : List CheckS} {w : WearS} {rs : List RideS} {b now : Int}
theorem dueL_1 (h : rulesL rules ≠ 0) : dueL rules l w rs b now = ([], rulesL rules) := by unfold dueL; rw [if_pos h]
theorem dueL_2 (h : rulesL rules = 0) (h2 : checksL l ≠ 0) : dueL rules l w rs b now = ([], checksL l) := by unfold dueL; rw [if_neg (by omega), if_pos h2]
theorem dueL_3 (h : rulesL rules = 0) (h2 : checksL l = 0) (h3 : b < 0 ∨ 128 ≤ b ∨ now < 0 ∨ 4294943999 < now) : dueL rules l w rs b now = ([], 1) := by unfold dueL; rw [if_neg (by omega), if_neg (by omega), if_pos h3]
theorem dueL_4 (h : rulesL rules = 0) (h2 : checksL l = 0) (h3 : ¬(b < 0 ∨ 128 ≤ b ∨ now < 0 ∨ 4294943999 < now)) (h4 : firstE (errR l w rs b now) rules ≠ 0) : dueL rules l w rs b now = ([], firstE (errR l w rs b now) rules) := by unfold dueL; rw [if_neg (by omega), if_neg (by omega), if_neg h3, if_pos h4]
theorem dueL_5 (h : rulesL rules = 0) (h2 : checksL l = 0) (h3 : ¬(b < 0 ∨ 128 ≤ b ∨ now < 0 ∨ 4294943999 < now)) (h4 : firstE (errR l w rs b now) rules = 0) : dueL rules l w rs b now = ((rules.filter (dueR l w rs b now)).map RuleS.kind, 0) := by unfold dueL; rw [if_neg (by omega), if_neg (by omega), if_neg h3, if_neg (by omega)]
end
theorem rules_len {rules : List RuleS} (h : rulesL rules = 0) : rules.length ≤ 8 := by
  unfold rulesL at h; split at h
  · simp at h
  · omega
theorem lastL_match {l : List CheckS} {b k t : Int} {c : CheckS} (h : lastL l b k t = some c) : matchB b k t c = true := by
  have e : lastL l b k t = (l.filter (matchB b k t)).foldl stepC none := fold_filter b k t l none
  have key : ∀ (l : List CheckS) (m : Option CheckS) (c : CheckS), l.foldl stepC m = some c → c ∈ l ∨ m = some c := by
    intro l
    induction l with
    | nil => intro m c h; exact .inr h
    | cons x l ih =>
      intro m c h
      rcases ih _ _ h with h | h
      · exact .inl (List.mem_cons_of_mem _ h)
      · have e : stepC m x = some x ∨ stepC m x = m := ite_or _ _ _
        rcases e with e | e
        · rw [e] at h; cases h; exact .inl List.mem_cons_self
        · rw [e] at h; exact .inr h
  rw [e] at h
  rcases key _ none c h with h | h
  · exact (List.mem_filter.1 h).2
  · cases h
theorem checks_at {l : List CheckS} (h : checksL l = 0) : ∀ c ∈ l, 0 ≤ c.bike ∧ c.bike < 128 ∧ 0 ≤ c.kind ∧ c.kind < 8 ∧ 0 ≤ c.at_ ∧ c.at_ ≤ 4294943999 := by
  unfold checksL at h
  split at h
  · simp at h
  split at h
  · rename_i h2; exact absurd h h2
  rename_i h2
  intro c hc
  have := firstE_zero (by simpa using h2) c hc
  unfold checkE at this
  split at this
  · simp at this
  split at this
  · simp at this
  rename_i hk
  have hk2 : kindB c.kind = true := by simpa using hk
  simp only [kindB, Bool.and_eq_true, decide_eq_true_eq] at hk2
  split at this
  · simp at this
  omega
theorem lastK_at {l : List CheckS} {b k t : Int} (h : checksL l = 0) (ht : 0 ≤ t) : 0 ≤ (lastK (lastL l b k t)).at_ ∧ (lastK (lastL l b k t)).at_ ≤ t := by
  cases hm : lastL l b k t with
  | none => exact ⟨Int.le_refl _, ht⟩
  | some c =>
    have h1 := checks_at h c (lastL_mem hm)
    have h2 := lastL_match hm
    simp only [matchB, Bool.and_eq_true, decide_eq_true_eq] at h2
    exact ⟨h1.2.2.2.2.1, h2.2.2⟩
theorem filt_succ {α β : Type} (p : α → Bool) (f : α → β) (l : List α) {k : Nat} (h : k < l.length) : ((l.take (k + 1)).filter p).map f = ((l.take k).filter p).map f ++ (if p l[k] = true then [f l[k]] else []) := by
  rw [List.take_succ_eq_append_getElem h, List.filter_append, List.map_append]; congr 1; cases hp : p l[k] <;> simp [hp]


end Go.Proofs.Ythgnbkcopapbmaa
