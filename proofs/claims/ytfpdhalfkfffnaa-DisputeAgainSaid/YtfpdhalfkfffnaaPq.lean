import Derived.Test.YtfpdhalfkfffnaaV9
namespace Go.Proofs.Ytfpdhalfkfffnaa
open Go.RowKit
set_option linter.unusedVariables false

theorem marks_get : ∀ (l : List PauseS) (k : Nat) (h : k < l.length), (marksOf l).getD (2*k) 0 = l[k].from_.lo ∧ (marksOf l).getD (2*k+1) 0 = l[k].to_.lo
  | [], k, h => by simp at h
  | p :: l, 0, h => by simp [marksOf]
  | p :: l, k+1, h => by
    have := marks_get l k (by simpa using h)
    have e : marksOf (p :: l) = p.from_.lo :: p.to_.lo :: marksOf l := rfl
    rw [e, show 2 * (k + 1) = 2 * k + 1 + 1 by omega]
    simpa using this
theorem ord_core (n N : Nat) (op : Prop) (s e : Int) (F T L mk : Nat → Int) (hL0 : L 0 = s) (hL : ∀ k, k < n → L (k+1) = T k) (hF : ∀ k, k < n → mk (2*k) = F k) (hT : ∀ k, k < n → mk (2*k+1) = T k)
    (hN : (N = 2 * n ∧ ¬ (0 < n ∧ op ∧ T (n-1) = 0)) ∨ (N + 1 = 2 * n ∧ op ∧ 0 < n ∧ T (n-1) = 0)) :
    (∀ i, i < N → (i = 0 → s ≤ mk i) ∧ (0 < i → mk (i-1) ≤ mk i) ∧ (¬ op → mk i ≤ e)) ↔ (∀ k, k < n → L k ≤ F k ∧ (F k ≤ T k ∨ (op ∧ k + 1 = n ∧ T k = 0))) ∧ (op ∨ n = 0 ∨ L n ≤ e) := by
  constructor
  · intro h
    refine ⟨fun k hk => ⟨?_, ?_⟩, ?_⟩
    · have := h (2*k) (by omega)
      rw [hF k hk] at this
      cases k with
      | zero => rw [hL0]; exact this.1 rfl
      | succ k =>
        rw [hL k (by omega)]
        have h2 := this.2.1 (by omega)
        rw [show 2 * (k+1) - 1 = 2 * k + 1 by omega, hT k (by omega)] at h2; exact h2
    · by_cases hd : 2*k+1 < N
      · left
        have := (h (2*k+1) hd).2.1 (by omega)
        rw [Nat.add_sub_cancel, hF k hk, hT k hk] at this; exact this
      · right
        rcases hN with ⟨h1, _⟩ | ⟨h1, h2, h3, h4⟩
        · omega
        · obtain rfl : k = n - 1 := by omega
          exact ⟨h2, by omega, h4⟩
    · by_cases ho : op
      · exact .inl ho
      · by_cases h0 : n = 0
        · exact .inr (.inl h0)
        · right; right
          obtain ⟨m, rfl⟩ : ∃ m, n = m + 1 := ⟨n - 1, by omega⟩
          rcases hN with ⟨h1, _⟩ | ⟨_, h2, _⟩
          · have := (h (2*m+1) (by omega)).2.2 ho
            rw [hT m (by omega)] at this
            rw [hL m (by omega)]; exact this
          · exact absurd h2 ho
  · rintro ⟨h, he⟩ i hi
    have hadj : 0 < i → mk (i-1) ≤ mk i := by
      intro h0
      obtain ⟨k, rfl | rfl⟩ : ∃ k, i = 2 * k ∨ i = 2 * k + 1 := ⟨i / 2, by omega⟩
      · obtain ⟨k, rfl⟩ : ∃ j, k = j + 1 := ⟨k - 1, by omega⟩
        have := (h (k+1) (by omega)).1
        rw [hL k (by omega)] at this
        rw [show 2 * (k+1) - 1 = 2 * k + 1 by omega, hT k (by omega), hF (k+1) (by omega)]; exact this
      · rw [Nat.add_sub_cancel, hF k (by omega), hT k (by omega)]
        rcases (h k (by omega)).2 with h1 | ⟨h1, h2, h3⟩
        · exact h1
        · exfalso
          rcases hN with ⟨_, h5⟩ | ⟨h5, _⟩
          · exact h5 ⟨by omega, h1, by rw [show n - 1 = k by omega]; exact h3⟩
          · omega
    refine ⟨?_, hadj, ?_⟩
    · rintro rfl
      have := (h 0 (by omega)).1
      rw [hL0] at this
      have h2 := hF 0 (by omega)
      simp only [Nat.mul_zero] at h2
      rw [h2]; exact this
    · intro ho
      have hT' : ∀ d k, k + d + 1 = n → T k ≤ e := by
        intro d
        induction d with
        | zero =>
          intro k hk
          rcases he with h1 | h1 | h1
          · exact absurd h1 ho
          · omega
          · rw [← hk] at h1; simp only [Nat.add_zero] at h1; rw [hL k (by omega)] at h1; exact h1
        | succ d ih =>
          intro k hk
          have h1 := ih (k+1) (by omega)
          have h2 := h (k+1) (by omega)
          rw [hL k (by omega)] at h2
          rcases h2.2 with h3 | ⟨h3, _⟩
          · omega
          · exact absurd h3 ho
      obtain ⟨k, rfl | rfl⟩ : ∃ k, i = 2 * k ∨ i = 2 * k + 1 := ⟨i / 2, by omega⟩
      · rw [hF k (by omega)]
        have h1 := hT' (n - 1 - k) k (by omega)
        rcases (h k (by omega)).2 with h2 | ⟨h2, _⟩
        · omega
        · exact absurd h2 ho
      · rw [hT k (by omega)]
        exact hT' (n - 1 - k) k (by omega)

theorem marksL_cases (r : RideS) : (marksL r = marksOf r.pauses ∧ ¬ (0 < (marksOf r.pauses).length ∧ r.open_ = true ∧ (marksOf r.pauses).getLast? = some 0)) ∨ (marksL r = (marksOf r.pauses).dropLast ∧ 0 < (marksOf r.pauses).length ∧ r.open_ = true ∧ (marksOf r.pauses).getLast? = some 0) := by
  unfold marksL
  by_cases h : 0 < (marksOf r.pauses).length ∧ r.open_ = true ∧ (marksOf r.pauses).getLast? = some 0
  · right; rw [if_pos h]; exact ⟨rfl, h⟩
  · left; rw [if_neg h]; exact ⟨rfl, h⟩
theorem marks_last (l : List PauseS) (h : 0 < l.length) : (marksOf l).getLast? = some ((l.map fun p => p.to_.lo).getD (l.length - 1) 0) := by
  have e := (marks_get l (l.length - 1) (by omega)).2
  have hl := marks_len l
  rw [List.getLast?_eq_getElem?, hl, show 2 * l.length - 1 = 2 * (l.length - 1) + 1 by omega]
  rw [List.getD_eq_getElem?_getD, List.getElem?_eq_getElem (by omega)] at e
  rw [List.getElem?_eq_getElem (by omega), List.getD_eq_getElem?_getD, List.getElem?_map, List.getElem?_eq_getElem (by omega)]
  simp at e ⊢; exact e
theorem qordered_eq_L (r : RideS) : qorderedL r = orderedL r := by
  have key := ord_core r.pauses.length (marksL r).length (r.open_ = true) r.start.lo r.end_.lo (fun k => (r.pauses.map fun p => p.from_.lo).getD k 0) (fun k => (r.pauses.map fun p => p.to_.lo).getD k 0) (lastS r) (fun i => (marksOf r.pauses).getD i 0) rfl
    (fun k hk => by rw [lastS_succ r k hk]; simp [hk])
    (fun k hk => by rw [(marks_get r.pauses k hk).1]; simp [hk])
    (fun k hk => by rw [(marks_get r.pauses k hk).2]; simp [hk])
    (by
      have hl := marks_len r.pauses
      rcases marksL_cases r with ⟨h1, h2⟩ | ⟨h1, h2, h3, h4⟩
      · left
        rw [h1]
        refine ⟨hl, fun ⟨a, b, c⟩ => h2 ⟨by omega, b, ?_⟩⟩
        rw [marks_last _ a, c]
      · right
        rw [h1, List.length_dropLast]
        refine ⟨by omega, h3, by omega, ?_⟩
        rw [marks_last _ (by omega)] at h4
        exact Option.some.inj h4)
  have hM : ∀ i (h : i < (marksL r).length), (marksL r)[i] = (marksOf r.pauses).getD i 0 := by
    intro i h
    rcases marksL_cases r with ⟨h1, h2⟩ | ⟨h1, h2, h3, h4⟩
    · simp only [h1]
      rw [h1] at h
      simp [h]
    · simp only [h1]
      rw [h1, List.length_dropLast] at h
      rw [List.getElem_dropLast]
      simp [show i < (marksOf r.pauses).length by omega]
  have hmo : (∀ i, markOrd r i) ↔ (∀ i, i < (marksL r).length → (i = 0 → r.start.lo ≤ (marksOf r.pauses).getD i 0) ∧ (0 < i → (marksOf r.pauses).getD (i-1) 0 ≤ (marksOf r.pauses).getD i 0) ∧ (¬ r.open_ = true → (marksOf r.pauses).getD i 0 ≤ r.end_.lo)) := by
    constructor
    · intro h i hi
      have := h i hi
      refine ⟨fun e => by rw [← hM i hi]; exact this.1 e, fun e => by rw [← hM i hi, ← hM (i-1) (by omega)]; exact this.2.1 e, fun e => by rw [← hM i hi]; exact this.2.2 (by simpa using e)⟩
    · intro h i hi
      have := h i hi
      refine ⟨fun e => by rw [hM i hi]; exact this.1 e, fun e => by rw [hM i hi, hM (i-1) (by omega)]; exact this.2.1 e, fun e => by rw [hM i hi]; exact this.2.2 (by simpa using e)⟩
  have hpo : (∀ k, pauseOrd r k) ↔ (∀ k, k < r.pauses.length → lastS r k ≤ (r.pauses.map fun p => p.from_.lo).getD k 0 ∧ ((r.pauses.map fun p => p.from_.lo).getD k 0 ≤ (r.pauses.map fun p => p.to_.lo).getD k 0 ∨ (r.open_ = true ∧ k + 1 = r.pauses.length ∧ (r.pauses.map fun p => p.to_.lo).getD k 0 = 0))) := by
    constructor
    · intro h k hk
      have := h k hk
      simpa [hk] using this
    · intro h k hk
      have := h k hk
      simpa [hk] using this
  rw [Bool.eq_iff_iff]
  simp only [qorderedL, orderedL, Bool.and_eq_true, Bool.or_eq_true, decide_eq_true_eq, and_assoc]
  rw [hmo, hpo, or_assoc]
  exact and_congr_right fun _ => key
theorem qorderedC (r : RideS) (w : World) (H : RideS.ok w r) (hj : joinedL r = true) : Calls Try.prog 38 #[RV r] w (Ret w (.bool (orderedL r))) := by
  rw [← qordered_eq_L]
  refine qordered_c r w H ?_
  simp only [joinedL, lensL, Bool.and_eq_true, decide_eq_true_eq] at hj
  exact hj.1.1.2


end Go.Proofs.Ytfpdhalfkfffnaa
