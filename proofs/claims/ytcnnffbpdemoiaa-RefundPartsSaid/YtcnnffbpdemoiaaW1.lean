import Derived.Test.YtcnnffbpdemoiaaBase
namespace Go.Proofs.Ytcnnffbpdemoiaa
open Go.RowKit
set_option linter.unusedVariables false

def FareS.z : FareS := ⟨0, 0, none, 0, [], 0⟩
def findL (fs : List FareS) (ride : Int) : Option FareS := fs.find? (fun f => f.ride == ride)
def FareS.v (x : FareS) : Value := .agg x.vals.toArray
def findV (r : Option FareS) : Value := match r with
  | some f => .tuple #[.agg #[.int .i64 f.ride, .int .i64 f.rider, .slice f.itemsA f.items.length f.itemsC, .int .i64 f.total], .bool true]
  | none => .tuple #[.agg #[.int .i64 0, .int .i64 0, .slice none 0 0, .int .i64 0], .bool false]

theorem find_some {α} (p : α → Bool) (l : List α) (k : Nat) (h : k < l.length) (hno : ∀ j (hj : j < l.length), j < k → p l[j] = false) (hk : p l[k] = true) : l.find? p = some l[k] := by
  rw [List.find?_eq_some_iff_getElem]
  exact ⟨hk, k, h, rfl, fun j hj => by simp [hno j (by omega) hj]⟩
theorem find_none {α} (p : α → Bool) (l : List α) (hno : ∀ j (hj : j < l.length), p l[j] = false) : l.find? p = none := by
  rw [List.find?_eq_none]
  intro x hx
  obtain ⟨j, hj, rfl⟩ := List.getElem_of_mem hx
  simp [hno j hj]

abbrev zF : Obj := Obj.cells #[Value.int IntKind.i64 0, Value.int IntKind.i64 0, Value.slice none 0 0, Value.int IntKind.i64 0] 42

set_option maxHeartbeats 400000 in
theorem find_c (a : Option Addr) (cap : Nat) (fs : List FareS) (ride : Int) (w : World) (H : FareS.sl w a cap fs) :
    Calls Try.prog 30 #[.slice a fs.length cap, .int .i64 ride] w (Ret w (findV (findL fs ride))) := by
  obtain ⟨hl1, hl2, -, hfs, -⟩ := H
  have hlen := Nat.le_trans hl1 hl2
  unfold maxLen at hlen
  clear hl1 hl2
  go_enter Try.func30, Try.ntmps30
  go_wp2
  go_loopw [10] (fun i wr => ∃ k : Nat, k ≤ fs.length ∧ i = .int .i64 k ∧ Below (w.heap.size + 1) (w.alloc zF) wr ∧ Hid (∀ j (h : j < fs.length), j < k → (fs[j].ride == ride) = false)) (fun i wr => fs.length - (intOf i).toNat)
  case atStart => exact ⟨0, Nat.zero_le _, rfl, Below.refl _ _, fun _ _ h => absurd h (Nat.not_lt_zero _)⟩
  case round =>
    obtain ⟨k, hk, rfl, hb, hno⟩ := hrel
    obtain ⟨hc, hz⟩ := bcell hb
    have hs := hb.size
    simp at hs
    have hs0 : w.heap.size < w.heap.size + 1 := by omega
    have hs1 : w.heap.size < wr.heap.size := by omega
    have hB0 : Below w.heap.size w wr := ((Below.refl _ _).alloc (Nat.le_refl _) _).trans (hb.mono (by omega))
    have HB := hide hB0; clear hB0
    by_cases hlt : k < fs.length
    · obtain ⟨b, o, rfl, hbw, hf⟩ := hfs (by omega)
      have hbw1 : b < w.heap.size + 1 := by omega
      obtain ⟨h0, h1, h2, h3⟩ := hf k hlt
      generalize hfk : fs[k] = f at *
      have H2 := hide hf; clear hf
      have H3 := hide hfk; clear hfk
      cases hr : (f.ride == ride)
      · go_wp2
        go_roundw
        case rel => 
          refine ⟨k+1, by omega, by go_num, hb.alloc (by omega) _, ?_⟩
          intro j h hj
          by_cases e : j = k
          · subst e; have := H3.out; simp only [this]; exact hr
          · exact hno j h (by omega)
        case measure => simp [intOf]; omega
      · have HR := hide hr
        go_wp2
        refine bodyPost_ret (v := findV (some f)) (by simp [results, Try.results30, go_sem, hc, hs1, hs0, findV]) rfl ?_
        have := find_some (fun f => f.ride == ride) fs k hlt hno.out (by have := H3.out; simp only [this]; exact HR.out)
        refine ⟨by rw [findL, this]; simp only [H3.out], ?_⟩
        exact (((((HB.out.setCell (by simp) _).setCell (by simp) _).setCell (by simp) _).setCell (by simp) _).alloc (by simp; omega) _)
    · obtain rfl : k = fs.length := by omega
      go_wp2
      refine bodyPost_ret (v := findV none) (by simp [results, Try.results30, go_sem, hc, hs0, findV]) rfl ?_
      have := find_none (fun f => f.ride == ride) fs (fun j hj => hno.out j hj hj)
      refine ⟨by rw [findL, this], ?_⟩
      exact (((((HB.out.setCell (by simp) _).setCell (by simp) _).setCell (by simp) _).setCell (by simp) _))

theorem zeroF (w : World) (B : Nat) (hB : B ≤ w.heap.size) {a : World} (h : Below B a w) : Below B a (w.alloc zF) := h.alloc hB _

def itemL (fs : List FareS) (ride i : Int) : Option (FareS × ItemS) :=
  (findL fs ride).bind fun f => if i < 0 then none else (f.items[i.toNat]?).map fun x => (f, x)
def itemV (r : Option (FareS × ItemS)) : Value := match r with
  | some (f, x) => .tuple #[.agg #[.int .i64 f.ride, .int .i64 f.rider, .slice f.itemsA f.items.length f.itemsC, .int .i64 f.total], .agg #[.int .i64 x.kind, .int .i64 x.ref, .int .i64 x.amount], .bool true]
  | none => .tuple #[.agg #[.int .i64 0, .int .i64 0, .slice none 0 0, .int .i64 0], .agg #[.int .i64 0, .int .i64 0, .int .i64 0], .bool false]
theorem findL_mem {fs : List FareS} {ride : Int} {f : FareS} (h : findL fs ride = some f) : f ∈ fs := List.mem_of_find?_eq_some h


set_option maxHeartbeats 800000 in
theorem item_none1 (a : Option Addr) (cap : Nat) (fs : List FareS) (ride i : Int) (w : World) (H : FareS.sl w a cap fs) (hfind : findL fs ride = none) :
    Calls Try.prog 25 #[.slice a fs.length cap, .int .i64 ride, .int .i64 i] w (Ret w (itemV none)) := by
  have HH := hide H; clear H
  have HF := hide hfind; clear hfind
  go_enter Try.func25, Try.ntmps25
  go_wp2_with (go_at_call 30; refine (find_c a cap fs ride _ ?_).mono ?_)
  · exact FareS.sl_below (((Below.refl _ _).alloc (Nat.le_refl _) _).alloc (by simp) _) HH.out
  · rintro e w1 ⟨rfl, hb⟩
    rw [HF.out]
    simp only [findV]
    obtain ⟨hc, hz⟩ := bcell hb
    have hs := hb.size
    simp at hs hc hz
    have hs0 : w.heap.size < w.heap.size + 1 + 1 := by omega
    have hs1 : w.heap.size + 1 < w.heap.size + 1 + 1 := by omega
    have hs2 : w.heap.size < w1.heap.size := by omega
    have hs3 : w.heap.size + 1 < w1.heap.size := by omega
    go_wp2
    refine bodyPost_ret (v := itemV none) (by simp [results, Try.results25, go_sem, hc, hz, hs0, hs1, hs2, hs3, itemV]) rfl ?_
    refine ⟨rfl, ?_⟩
    have hB : Below w.heap.size w w1 := (((Below.refl _ _).alloc (Nat.le_refl _) _).alloc (by simp) _).trans (hb.mono (by simp; omega))
    repeat (first | with_reducible exact hB | with_reducible refine Below.setCell ?_ ?_ _ | with_reducible refine Below.alloc ?_ ?_ _ | omega | (simp <;> omega))

set_option maxHeartbeats 800000 in
theorem item_none2 (a : Option Addr) (cap : Nat) (fs : List FareS) (ride i : Int) (w : World) (H : FareS.sl w a cap fs) (f : FareS) (hfind : findL fs ride = some f) (hi : i < 0 ∨ (0 ≤ i ∧ (f.items.length : Int) ≤ i)) :
    Calls Try.prog 25 #[.slice a fs.length cap, .int .i64 ride, .int .i64 i] w (Ret w (itemV none)) := by
  have HH := hide H; clear H
  have HF := hide hfind; clear hfind
  rcases hi with hi | ⟨hi, hi2⟩
  all_goals
    go_enter Try.func25, Try.ntmps25
    go_wp2_with (go_at_call 30; refine (find_c a cap fs ride _ ?_).mono ?_)
    · exact FareS.sl_below (((Below.refl _ _).alloc (Nat.le_refl _) _).alloc (by simp) _) HH.out
    · rintro e w1 ⟨rfl, hb⟩
      rw [HF.out]
      simp only [findV]
      obtain ⟨hc, hz⟩ := bcell hb
      have hs := hb.size
      simp at hs hc hz
      have hs0 : w.heap.size < w.heap.size + 1 + 1 := by omega
      have hs1 : w.heap.size + 1 < w.heap.size + 1 + 1 := by omega
      have hs2 : w.heap.size < w1.heap.size := by omega
      have hs3 : w.heap.size + 1 < w1.heap.size := by omega
      go_wp2
      refine bodyPost_ret (v := itemV none) (by simp [results, Try.results25, go_sem, hc, hz, hs0, hs1, hs2, hs3, itemV]) rfl ?_
      refine ⟨rfl, ?_⟩
      have hB : Below w.heap.size w w1 := (((Below.refl _ _).alloc (Nat.le_refl _) _).alloc (by simp) _).trans (hb.mono (by simp; omega))
      repeat (first | with_reducible exact hB | with_reducible refine Below.setCell ?_ ?_ _ | with_reducible refine Below.alloc ?_ ?_ _ | omega | (simp <;> omega))

set_option maxHeartbeats 800000 in
theorem item_some (a : Option Addr) (cap : Nat) (fs : List FareS) (ride : Int) (i : Nat) (w : World) (H : FareS.sl w a cap fs) (f : FareS) (hfind : findL fs ride = some f) (hi : i < f.items.length) :
    Calls Try.prog 25 #[.slice a fs.length cap, .int .i64 ride, .int .i64 i] w (Ret w (itemV (some (f, f.items[i])))) := by
  obtain ⟨-, -, -, hx, -⟩ := (H.2.2.2.2 f (findL_mem hfind)).2.2.1
  obtain ⟨b, o, ha, hbw, hx⟩ := hx (by omega)
  obtain ⟨h0, h1, h2⟩ := hx i hi
  obtain ⟨fr, fri, fa, fc, fit, ft⟩ := f
  simp only at ha hi h0 h1 h2
  subst ha
  clear hx
  generalize hX : fit[i] = x at *
  have HH := hide H; clear H
  have HF := hide hfind; clear hfind
  have HX := hide hX; clear hX
  have hi1 : (0 : Int) ≤ (i : Int) := by omega
  have hi2 : (i : Int) < (fit.length : Int) := by omega
  go_enter Try.func25, Try.ntmps25
  go_wp2_with (go_at_call 30; refine (find_c a cap fs ride _ ?_).mono ?_)
  · exact FareS.sl_below (((Below.refl _ _).alloc (Nat.le_refl _) _).alloc (by simp) _) HH.out
  · rintro e w1 ⟨rfl, hb⟩
    rw [HF.out]
    simp only [findV]
    obtain ⟨hc, hz⟩ := bcell hb
    have hs := hb.size
    simp at hs hc hz
    have hs0 : w.heap.size < w.heap.size + 1 + 1 := by omega
    have hs1 : w.heap.size + 1 < w.heap.size + 1 + 1 := by omega
    have hs2 : w.heap.size < w1.heap.size := by omega
    have hs3 : w.heap.size + 1 < w1.heap.size := by omega
    have hs4 : b < w.heap.size + 1 + 1 := by omega
    have hs5 : b < w.heap.size + 1 := by omega
    have hs6 : b < w1.heap.size := by omega
    go_wp2
    go_region
    all_goals go_wp2
    refine bodyPost_ret (v := itemV (some (⟨fr, fri, some ⟨b, o, none⟩, fc, fit, ft⟩, x))) (by simp [results, Try.results25, go_sem, hc, hz, hs0, hs1, hs2, hs3, itemV]) rfl ?_
    refine ⟨rfl, ?_⟩
    have hB : Below w.heap.size w w1 := (((Below.refl _ _).alloc (Nat.le_refl _) _).alloc (by simp) _).trans (hb.mono (by simp; omega))
    repeat (first | with_reducible exact hB | with_reducible refine Below.setCell ?_ ?_ _ | with_reducible refine Below.alloc ?_ ?_ _ | with_reducible refine Below.drew ?_ | omega | (simp <;> omega))

theorem item_c (a : Option Addr) (cap : Nat) (fs : List FareS) (ride i : Int) (w : World) (H : FareS.sl w a cap fs) :
    Calls Try.prog 25 #[.slice a fs.length cap, .int .i64 ride, .int .i64 i] w (Ret w (itemV (itemL fs ride i))) := by
  cases hf : findL fs ride with
  | none => simp only [itemL, hf, Option.bind_none]; exact item_none1 a cap fs ride i w H hf
  | some f =>
    by_cases hi : i < 0
    · simp only [itemL, hf, Option.bind_some, if_pos hi]; exact item_none2 a cap fs ride i w H f hf (.inl hi)
    · by_cases hl : (f.items.length : Int) ≤ i
      · have : f.items[i.toNat]? = none := by rw [List.getElem?_eq_none_iff]; omega
        simp only [itemL, hf, Option.bind_some, if_neg hi, this, Option.map_none]; exact item_none2 a cap fs ride i w H f hf (.inr ⟨by omega, hl⟩)
      · obtain ⟨n, rfl⟩ := Int.eq_ofNat_of_zero_le (by omega : 0 ≤ i)
        have hn : n < f.items.length := by omega
        have : f.items[(n : Int).toNat]? = some f.items[n] := by simp [hn]
        simp only [itemL, hf, Option.bind_some, if_neg hi, this, Option.map_some]
        exact item_some a cap fs ride n w H f hf hn

def oneBad (r : RefS) : Bool := decide (r.id < 1) || decide (1000000 < r.id) || decide (r.amount < 1) || decide (1000000000000 < r.amount)
def oneL (fs : List FareS) (r : RefS) : Int :=
  if oneBad r then 1 else match itemL fs r.ride r.item with
    | none => 7
    | some (_, x) => if x.amount ≤ 0 then 27 else 0

set_option maxHeartbeats 800000 in
theorem one_bad (a : Option Addr) (cap : Nat) (fs : List FareS) (id ride item amount : Int) (w : World) (H : oneBad ⟨id, ride, item, amount⟩ = true) :
    Calls Try.prog 23 #[.slice a fs.length cap, .agg #[.int .i64 id, .int .i64 ride, .int .i64 item, .int .i64 amount]] w (Ret w (.int .i64 1)) := by
  simp only [oneBad, Bool.or_eq_true, decide_eq_true_eq] at H
  have H' : id < 1 ∨ (1 ≤ id ∧ 1000000 < id) ∨ (1 ≤ id ∧ id ≤ 1000000 ∧ amount < 1) ∨ (1 ≤ id ∧ id ≤ 1000000 ∧ 1 ≤ amount ∧ 1000000000000 < amount) := by omega
  clear H
  rcases H' with h | ⟨h1, h2⟩ | ⟨h1, h2, h3⟩ | ⟨h1, h2, h3, h4⟩
  all_goals
    go_enter Try.func23, Try.ntmps23
    go_wp2
    go_ret
    refine ⟨rfl, ?_⟩
    repeat (first | with_reducible exact Below.refl _ _ | with_reducible refine Below.setCell ?_ ?_ _ | with_reducible refine Below.alloc ?_ ?_ _ | omega | (simp <;> omega))

set_option maxHeartbeats 800000 in
theorem one_c (a : Option Addr) (cap : Nat) (fs : List FareS) (r : RefS) (w : World) (HF : FareS.sl w a cap fs) :
    Calls Try.prog 23 #[.slice a fs.length cap, .agg #[.int .i64 r.id, .int .i64 r.ride, .int .i64 r.item, .int .i64 r.amount]] w (Ret w (.int .i64 (oneL fs r))) := by
  obtain ⟨id, ride, item, amount⟩ := r
  by_cases H : oneBad ⟨id, ride, item, amount⟩ = true
  · simp only [oneL, if_pos H]; exact one_bad a cap fs id ride item amount w H
  · have HB0 := hide H
    simp only [oneBad, Bool.not_eq_true, Bool.or_eq_false_iff, decide_eq_false_iff_not] at H
    obtain ⟨⟨⟨g1, g2⟩, g3⟩, g4⟩ := H
    have g1' : 1 ≤ id := by omega
    have g2' : id ≤ 1000000 := by omega
    have g3' : 1 ≤ amount := by omega
    have g4' : amount ≤ 1000000000000 := by omega
    clear g1 g2 g3 g4
    have HH := hide HF; clear HF
    go_enter Try.func23, Try.ntmps23
    go_wp2_with (go_at_call 25; refine (item_c a cap fs ride item _ ?_).mono ?_)
    · exact FareS.sl_below ((Below.refl _ _).alloc (Nat.le_refl _) _) HH.out
    · rintro e w1 ⟨rfl, hb⟩
      obtain ⟨hc, hz⟩ := bcell hb
      have hs := hb.size
      simp at hs hc hz
      have hs0 : w.heap.size < w.heap.size + 1 := by omega
      have hs2 : w.heap.size < w1.heap.size := by omega
      have hB : Below w.heap.size w w1 := ((Below.refl _ _).alloc (Nat.le_refl _) _).trans (hb.mono (by simp))
      have HB := hide hB; clear hB
      cases hit : itemL fs ride item with
      | none =>
        have HV := hide (show oneL fs ⟨id, ride, item, amount⟩ = 7 by simp only [oneL, if_neg HB0.out, hit])
        clear hit
        simp only [itemV]
        go_wp2
        go_ret
        refine ⟨by rw [HV.out]; rfl, ?_⟩
        repeat (first | with_reducible exact HB.out | with_reducible refine Below.setCell ?_ ?_ _ | with_reducible refine Below.alloc ?_ ?_ _ | omega | (simp <;> omega))
      | some fx =>
        obtain ⟨f, x⟩ := fx
        obtain ⟨xk, xr, xa⟩ := x
        simp only [itemV]
        by_cases hx : xa ≤ 0
        · have HV := hide (show oneL fs ⟨id, ride, item, amount⟩ = 27 by simp only [oneL, if_neg HB0.out, hit, if_pos hx])
          clear hit
          go_wp2
          go_ret
          refine ⟨by rw [HV.out]; rfl, ?_⟩
          repeat (first | with_reducible exact HB.out | with_reducible refine Below.setCell ?_ ?_ _ | with_reducible refine Below.alloc ?_ ?_ _ | omega | (simp <;> omega))
        · have HV := hide (show oneL fs ⟨id, ride, item, amount⟩ = 0 by simp only [oneL, if_neg HB0.out, hit, if_neg hx])
          have hx' : 0 < xa := by omega
          clear hit hx
          go_wp2
          go_ret
          refine ⟨by rw [HV.out]; rfl, ?_⟩
          repeat (first | with_reducible exact HB.out | with_reducible refine Below.setCell ?_ ?_ _ | with_reducible refine Below.alloc ?_ ?_ _ | omega | (simp <;> omega))
end Go.Proofs.Ytcnnffbpdemoiaa
