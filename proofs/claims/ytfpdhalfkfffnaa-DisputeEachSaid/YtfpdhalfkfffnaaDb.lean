/-
  Plain laws of evidence: what stays, what is refused again, and that the order plays no part.
-/
import Derived.Test.YtfpdhalfkfffnaaDa
namespace Go.Proofs.Ytfpdhalfkfffnaa
open Go.RowKit
set_option linter.unusedVariables false
set_option linter.unusedSimpArgs false
set_option linter.unnecessarySimpa false

theorem takes_iff {r : RideS} {c : SpanS} {e : EvS} : takes r c e = true ↔ e.ride = r.id ∧ r.open_ = false ∧ validL e.end_ = true ∧ (commonL c e.end_).lo ≤ (commonL c e.end_).hi := by
  simp only [takes, Bool.and_eq_true, decide_eq_true_eq, Bool.not_eq_true']
theorem fold_truth {r : RideS} (ho : r.open_ = false) {t : Int} : ∀ (c : SpanS) (i : Nat) (l : List EvS), (c.lo ≤ t ∧ t ≤ c.hi) → (∀ e ∈ l, e.ride = r.id → validL e.end_ = true → e.end_.lo ≤ t ∧ t ≤ e.end_.hi) →
    ((foldE r c l).lo ≤ t ∧ t ≤ (foldE r c l).hi) ∧ ∀ k ∈ refF r c i l, ∃ (j : Nat) (h : j < l.length), k = ((i + j : Nat) : Int) ∧ ¬ (l[j].ride = r.id ∧ validL l[j].end_ = true)
  | c, i, [], hc, _ => ⟨hc, nofun⟩
  | c, i, e :: l, hc, hl => by
    have hl' : ∀ e ∈ l, e.ride = r.id → validL e.end_ = true → e.end_.lo ≤ t ∧ t ≤ e.end_.hi := fun x hx => hl x (by simp [hx])
    have up : ∀ k, (∃ (j : Nat) (h : j < l.length), k = ((i + 1 + j : Nat) : Int) ∧ ¬ (l[j].ride = r.id ∧ validL l[j].end_ = true)) → ∃ (j : Nat) (h : j < (e :: l).length), k = ((i + j : Nat) : Int) ∧ ¬ ((e :: l)[j].ride = r.id ∧ validL (e :: l)[j].end_ = true) := by
      rintro k ⟨j, h, rfl, h2⟩
      exact ⟨j + 1, by simpa using h, by congr 1; omega, by simpa using h2⟩
    cases ht : takes r c e
    · obtain ⟨a1, a2⟩ := fold_truth ho c (i + 1) l hc hl'
      simp only [foldE, refF, ht, Bool.false_eq_true, if_false]
      refine ⟨a1, fun k hk => ?_⟩
      rcases List.mem_cons.1 hk with rfl | hk
      · refine ⟨0, by simp, by simp, fun ⟨h1, h2⟩ => ?_⟩
        have := hl e (by simp) h1 h2
        have ht2 : takes r c e = true := takes_iff.2 ⟨h1, ho, h2, by simp only [commonL]; omega⟩
        rw [ht2] at ht; cases ht
      · exact up k (a2 k hk)
    · obtain ⟨h1, _, h2, _⟩ := takes_iff.1 ht
      have := hl e (by simp) h1 h2
      obtain ⟨a1, a2⟩ := fold_truth ho (commonL c e.end_) (i + 1) l (by simp only [commonL]; omega) hl'
      simp only [foldE, refF, ht, if_true]
      exact ⟨a1, fun k hk => up k (a2 k hk)⟩
theorem fold_sub (r : RideS) : ∀ (c : SpanS) (l : List EvS), c.lo ≤ (foldE r c l).lo ∧ (foldE r c l).hi ≤ c.hi ∧ (c.lo ≤ c.hi → (foldE r c l).lo ≤ (foldE r c l).hi)
  | c, [] => ⟨Int.le_refl _, Int.le_refl _, id⟩
  | c, e :: l => by
    cases ht : takes r c e
    · simp only [foldE, ht, Bool.false_eq_true, if_false]; exact fold_sub r c l
    · obtain ⟨a1, a2, a3⟩ := fold_sub r (commonL c e.end_) l
      have h4 := (takes_iff.1 ht).2.2.2
      have := common_lo c e.end_
      simp only [foldE, ht, if_true]
      exact ⟨by omega, by omega, fun _ => a3 h4⟩
theorem common_in {d c : SpanS} (h1 : c.lo ≤ d.lo) (h2 : d.hi ≤ c.hi) : commonL d c = d := by
  cases d; simp only [commonL] at *; congr 1 <;> omega
/-- The same evidence again. -/
theorem fold_again (r : RideS) : ∀ (c : SpanS) (i : Nat) (l : List EvS), c.lo ≤ c.hi → foldE r (foldE r c l) l = foldE r c l ∧ refF r (foldE r c l) i l = refF r c i l
  | c, i, [], _ => ⟨rfl, rfl⟩
  | c, i, e :: l, hc => by
    cases ht : takes r c e
    · obtain ⟨a1, a2⟩ := fold_again r c (i + 1) l hc
      have hs := fold_sub r c l
      have h2 : takes r (foldE r c l) e = false := by
        cases h : takes r (foldE r c l) e
        · rfl
        · obtain ⟨g1, g2, g3, g4⟩ := takes_iff.1 h
          rw [takes_iff.2 ⟨g1, g2, g3, by simp only [commonL] at g4 ⊢; omega⟩] at ht
          cases ht
      simp only [foldE, refF, ht, h2, Bool.false_eq_true, if_false]
      exact ⟨a1, by rw [a2]⟩
    · obtain ⟨g1, g2, g3, g4⟩ := takes_iff.1 ht
      obtain ⟨a1, a2⟩ := fold_again r (commonL c e.end_) (i + 1) l g4
      have hs := fold_sub r (commonL c e.end_) l
      have hn := hs.2.2 g4
      have hcl := common_lo c e.end_
      have e1 : commonL (foldE r (commonL c e.end_) l) e.end_ = foldE r (commonL c e.end_) l := common_in (by omega) (by omega)
      have h2 : takes r (foldE r (commonL c e.end_) l) e = true := takes_iff.2 ⟨g1, g2, g3, by rw [e1]; exact hn⟩
      simp only [foldE, refF, ht, if_true, h2, e1]
      exact ⟨a1, a2⟩
/-- What is accepted. -/
def accF (r : RideS) : SpanS → List EvS → List EvS
  | _, [] => []
  | c, e :: l => if takes r c e then e :: accF r (commonL c e.end_) l else accF r c l
theorem fold_acc (r : RideS) : ∀ (c : SpanS) (i : Nat) (l : List EvS), foldE r c (accF r c l) = foldE r c l ∧ refF r c i (accF r c l) = []
  | _, _, [] => ⟨rfl, rfl⟩
  | c, i, e :: l => by
    cases ht : takes r c e
    · simp only [accF, foldE, ht, Bool.false_eq_true, if_false]; exact fold_acc r c i l
    · simp only [accF, foldE, refF, ht, if_true]; exact fold_acc r (commonL c e.end_) (i + 1) l
theorem acc_len (r : RideS) : ∀ (c : SpanS) (l : List EvS), (accF r c l).length ≤ l.length
  | _, [] => Nat.le_refl _
  | c, e :: l => by
    cases ht : takes r c e
    · simp only [accF, ht, Bool.false_eq_true, if_false]; have := acc_len r c l; simp; omega
    · simp only [accF, ht, if_true]; have := acc_len r (commonL c e.end_) l; simp; omega
theorem ref_ge (r : RideS) : ∀ (c : SpanS) (i : Nat) (l : List EvS), ∀ k ∈ refF r c i l, (i : Int) ≤ k
  | _, _, [] => nofun
  | c, i, e :: l => by
    intro k hk
    cases ht : takes r c e
    · simp only [refF, ht, Bool.false_eq_true, if_false] at hk
      rcases List.mem_cons.1 hk with rfl | hk
      · exact Int.le_refl _
      · have := ref_ge r c (i + 1) l k hk; omega
    · simp only [refF, ht, if_true] at hk
      have := ref_ge r _ (i + 1) l k hk; omega
/-- All of it is right, and agrees. -/
theorem fold_right {r : RideS} (ho : r.open_ = false) : ∀ (c : SpanS) (i : Nat) (l : List EvS), (∀ e ∈ l, e.ride = r.id ∧ validL e.end_ = true) → (l.foldl (fun a e => commonL a e.end_) c).lo ≤ (l.foldl (fun a e => commonL a e.end_) c).hi → foldE r c l = l.foldl (fun a e => commonL a e.end_) c ∧ refF r c i l = []
  | _, _, [], _, _ => ⟨rfl, rfl⟩
  | c, i, e :: l, hl, hn => by
    have sub : ∀ (l : List EvS) (c : SpanS), c.lo ≤ (l.foldl (fun a e => commonL a e.end_) c).lo ∧ (l.foldl (fun a e => commonL a e.end_) c).hi ≤ c.hi := by
      intro l
      induction l with
      | nil => intro c; exact ⟨Int.le_refl _, Int.le_refl _⟩
      | cons x l ih => intro c; have := ih (commonL c x.end_); have := common_lo c x.end_; simp only [List.foldl_cons]; omega
    simp only [List.foldl_cons] at hn
    have hs := sub l (commonL c e.end_)
    obtain ⟨g1, g2⟩ := hl e (by simp)
    have ht : takes r c e = true := takes_iff.2 ⟨g1, ho, g2, by omega⟩
    obtain ⟨a1, a2⟩ := fold_right ho (commonL c e.end_) (i + 1) l (fun x hx => hl x (by simp [hx])) hn
    simp only [foldE, refF, ht, if_true, List.foldl_cons]
    exact ⟨a1, a2⟩
theorem common_swap (l : List EvS) : ∀ (c : SpanS) (e : EvS), l.foldl (fun a e => commonL a e.end_) (commonL c e.end_) = commonL (l.foldl (fun a e => commonL a e.end_) c) e.end_ := by
  induction l with
  | nil => intro c e; rfl
  | cons x l ih =>
    intro c e
    simp only [List.foldl_cons]
    rw [← ih]
    congr 1
    simp only [commonL, SpanS.mk.injEq]; omega
theorem common_reverse (l : List EvS) (c : SpanS) : l.reverse.foldl (fun a e => commonL a e.end_) c = l.foldl (fun a e => commonL a e.end_) c := by
  induction l generalizing c with
  | nil => rfl
  | cons x l ih =>
    have e1 := common_swap l c x
    simp only [List.reverse_cons, List.foldl_append, List.foldl_cons, List.foldl_nil] at e1 ⊢
    rw [ih, e1]


end Go.Proofs.Ytfpdhalfkfffnaa
