/-
  The history of a city: a count goes up by one, in memory.
-/
import Derived.Test.YtjobpjhmdbmdgaaH2
namespace Go.Proofs.Ytjobpjhmdbmdgaa
open Go.RowKit
set_option linter.unusedVariables false
set_option linter.unusedSimpArgs false
set_option linter.unnecessarySimpa false

def addE (st place at_ : Int) : Int := if place < 0 ∨ st ≤ place / 32 then 7 else if momentB at_ = false then 1 else 0
def addK (place at_ : Int) : Nat := (place / 32 * 168 + (at_ / 3600) % 168).toNat
theorem slot_c (t : Int) (ht : I64 t) (w : World) : Calls Try.prog 43 #[.int .i64 t] w (Ret w (.tuple #[.int .i64 (if momentB t then (t / 3600) % 168 else 0), .int .i64 (if momentB t then 0 else 1)])) := by
  refine ((rslot_g t) (fun _ => False) w [.int .i64 t] (fun _ h => h.elim) (pw_cons.2 ⟨_, _, rfl, .sc _ (rng_i64.2 ht), pw_nil.2 rfl⟩)).mono ?_
  rintro en w' ⟨v, rfl, hb, hr⟩
  obtain ⟨vs, rfl, hp⟩ := tup_pw.1 hr
  obtain ⟨_, _, rfl, h1, hp⟩ := pw_cons.1 hp
  obtain ⟨_, _, rfl, h2, hp⟩ := pw_cons.1 hp
  rw [pw_nil] at hp; subst hp
  rw [h1.sc_inv, h2.sc_inv]
  exact ⟨rfl, hb⟩
set_option maxHeartbeats 2000000 in
theorem week_c (g n cap : Nat) (x : Int) (w : World) (k : Nat) (hx : x = k) (h : (k + 1) * 168 ≤ n) (hc : n ≤ cap) (hm : cap ≤ maxLen) : Calls Try.prog 35 #[.slice (some ⟨g, 0, none⟩) n cap, .int .i64 x] w (Ret w (.slice (some ⟨g, k * 168, none⟩) 168 168)) := by
  subst hx
  unfold maxLen at hm
  have e4 : (k + 1) * 168 - k * 168 = 168 := by omega
  go_enter Try.func35, Try.ntmps35
  go_wp2
  refine bodyPost_ret (v := .slice (some ⟨g, k * 168, none⟩) 168 168) (by simp [results, Try.results35, go_sem, e4]) rfl ⟨rfl, ?_⟩
  exact Below.refl _ _
theorem add_no (l : List Int) (st place at_ : Int) (hp : I64 place) (h : addE st place at_ ≠ 0) : Good Try.prog 30 [intsP l, intP st, intP place, intP at_] (intP (addE st place at_)) := by
  refine good30 (by simp) ?_
  simp only [ac30, intP, intsP, AW, Nat.reduceAdd, reduceCtorEq, Nat.reduceEqDiff, ↓reduceIte, Nat.reduceLT, Nat.reduceLeDiff, Nat.reduceSub, Nat.reducePow, Nat.reduceMul, Int.reduceToNat, Int.reduceLE, Int.reduceEq, Int.reduceLT, Int.reduceBEq, Int.reduceBNe]
  cases h1 : decide (place < 0)
  rotate_left
  · simp only [AW, Nat.reduceAdd, reduceCtorEq, Nat.reduceEqDiff, ↓reduceIte, Nat.reduceLT, Nat.reduceLeDiff, Nat.reduceSub, Nat.reducePow, Nat.reduceMul, Int.reduceToNat, Int.reduceLE, Int.reduceEq, Int.reduceLT, Int.reduceBEq, Int.reduceBNe]; have : addE st place at_ = 7 := by rw [decide_eq_true_eq] at h1; unfold addE; rw [if_pos (.inl h1)]
    rw [this]
  rw [decide_eq_false_iff_not] at h1
  have e1 : IntKind.wrap .i64 (place.tdiv 32) = place / 32 := by
    rw [Int.tdiv_eq_ediv_of_nonneg (by omega)]; unfold I64 at hp; exact wrap_id (by unfold I64; omega)
  simp only [e1, AW, Nat.reduceAdd, reduceCtorEq, Nat.reduceEqDiff, ↓reduceIte, Nat.reduceLT, Nat.reduceLeDiff, Nat.reduceSub, Nat.reducePow, Nat.reduceMul, Int.reduceToNat, Int.reduceLE, Int.reduceEq, Int.reduceLT, Int.reduceBEq, Int.reduceBNe]
  cases h2 : decide (st ≤ place / 32)
  rotate_left
  · simp only [AW, Nat.reduceAdd, reduceCtorEq, Nat.reduceEqDiff, ↓reduceIte, Nat.reduceLT, Nat.reduceLeDiff, Nat.reduceSub, Nat.reducePow, Nat.reduceMul, Int.reduceToNat, Int.reduceLE, Int.reduceEq, Int.reduceLT, Int.reduceBEq, Int.reduceBNe]; have : addE st place at_ = 7 := by rw [decide_eq_true_eq] at h2; unfold addE; rw [if_pos (.inr h2)]
    rw [this]
  rw [decide_eq_false_iff_not] at h2
  simp only [AW, Nat.reduceAdd, reduceCtorEq, Nat.reduceEqDiff, ↓reduceIte, Nat.reduceLT, Nat.reduceLeDiff, Nat.reduceSub, Nat.reducePow, Nat.reduceMul, Int.reduceToNat, Int.reduceLE, Int.reduceEq, Int.reduceLT, Int.reduceBEq, Int.reduceBNe]
  refine ops_call (rslot_g at_) (by simp only [slotP, intP, AW, Nat.reduceAdd, reduceCtorEq, Nat.reduceEqDiff, ↓reduceIte, Nat.reduceLT, Nat.reduceLeDiff, Nat.reduceSub, Nat.reducePow, Nat.reduceMul, Int.reduceToNat, Int.reduceLE, Int.reduceEq, Int.reduceLT, Int.reduceBEq, Int.reduceBNe]) ?_; simp only [slotP, intP, AW, Nat.reduceAdd, reduceCtorEq, Nat.reduceEqDiff, ↓reduceIte, Nat.reduceLT, Nat.reduceLeDiff, Nat.reduceSub, Nat.reducePow, Nat.reduceMul, Int.reduceToNat, Int.reduceLE, Int.reduceEq, Int.reduceLT, Int.reduceBEq, Int.reduceBNe]
  cases h3 : momentB at_
  · simp only [AW, Nat.reduceAdd, reduceCtorEq, Nat.reduceEqDiff, ↓reduceIte, Nat.reduceLT, Nat.reduceLeDiff, Nat.reduceSub, Nat.reducePow, Nat.reduceMul, Int.reduceToNat, Int.reduceLE, Int.reduceEq, Int.reduceLT, Int.reduceBEq, Int.reduceBNe]; have : addE st place at_ = 1 := by unfold addE; rw [if_neg (by omega), if_pos h3]
    rw [this]
  · exfalso; apply h; unfold addE; rw [if_neg (by omega), if_neg (by rw [h3]; simp)]
set_option maxHeartbeats 4000000 in
theorem add_yes (g cap : Nat) (l : List Int) (st place at_ : Int) (w : World) (hl : (l.length : Int) = st * 168) (hlc : l.length ≤ cap) (hm : cap ≤ maxLen) (hg : g < w.heap.size) (hat : ∀ i (h : i < l.length), w.cell? ⟨g, i, none⟩ = some (.int .i64 l[i])) (hfr : w.frozen? ⟨g, addK place at_, none⟩ = false)
    (h0 : 0 ≤ place) (h1 : place / 32 < st) (h2 : momentB at_ = true) (hp : I64 place) (K : Nat) (hK : addK place at_ = K) (hk : K < l.length) :
    Calls Try.prog 30 #[.slice (some ⟨g, 0, none⟩) l.length cap, .int .i64 st, .int .i64 place, .int .i64 at_] w (fun en w' => en = .returned (.int .i64 0) ∧ ∃ w2, Below w.heap.size w w2 ∧ w' = w2.setCell ⟨g, K, none⟩ (.int .i64 (IntKind.wrap .i64 (l[K] + 1)))) := by
  have hm2 : 0 ≤ at_ ∧ at_ ≤ 4294943999 := by simpa [momentB] using h2
  have e0 : IntKind.wrap .i64 (place.tdiv 32) = place / 32 := by
    rw [Int.tdiv_eq_ediv_of_nonneg h0]; unfold I64 at hp; exact wrap_id (by unfold I64; omega)
  have e1 : wrap64 (place.tdiv 32) = place / 32 := by rw [← e0]; exact (IntWalk.i64_left _).symm
  have c0 : decide (place < 0) = false := by simp; omega
  have c1 : decide (st ≤ place / 32) = false := by simp; omega
  obtain ⟨p, hp2⟩ : ∃ p : Nat, place / 32 = p := ⟨(place / 32).toNat, by omega⟩
  obtain ⟨s, hs2⟩ : ∃ s : Nat, (at_ / 3600) % 168 = s := ⟨((at_ / 3600) % 168).toNat, by omega⟩
  have hs3 : s < 168 := by omega
  have eK : addK place at_ = p * 168 + s := by unfold addK; rw [hp2, hs2]; omega
  have hsl := fun w => slot_c at_ (show I64 at_ by unfold I64; omega) w
  simp only [h2, if_true, hs2] at hsl
  have hwk := fun w => week_c g l.length cap (p : Int) w p rfl (by omega) hlc hm
  rw [eK] at hK; subst hK
  go_enter Try.func30, Try.ntmps30
  go_wp2_with fail
  refine (hsl _).mono ?_
  rintro e w1 ⟨rfl, hb1⟩
  obtain ⟨hc1, hz1⟩ := bcell hb1
  have HB1 := hide hb1; clear hb1
  go_wp2_with fail
  refine (hwk _).mono ?_
  rintro e w2 ⟨rfl, hb2⟩
  have hb2' := HB1.out.trans (hb2.mono HB1.out.size)
  obtain ⟨hc2, hz2⟩ := bcell hb2'
  have HB2 := hide hb2'; clear hb2 hb2'
  have k0 : w2.cell? ⟨g, p * 168 + s, none⟩ = some (.int .i64 l[p * 168 + s]) := (hc2 g _ hg).trans (hat _ hk)
  have hfr2 : w.frozen? ⟨g, p * 168 + s, none⟩ = false := eK ▸ hfr
  have k1 : w2.frozen? ⟨g, p * 168 + s, none⟩ = false := (hz2 g _ hg).trans (eK ▸ hfr)
  have z0 : (s : Int).toNat = s := rfl
  go_wp2
  refine bodyPost_ret (v := .int .i64 0) (by simp [results, Try.results30, go_sem]) rfl ⟨rfl, w2, HB2.out, ?_⟩
  rw [IntWalk.i64_left]
theorem own_cells {w : World} {g : Nat} {cur : Array Value} {e : TypeId} (h : w.heap[g]? = some (.cells cur e (0, 0))) : (∀ i, w.cell? ⟨g, i, none⟩ = cur[i]?) ∧ ∀ i, i < cur.size → w.frozen? ⟨g, i, none⟩ = false := by
  refine ⟨fun i => ?_, fun i hi => ?_⟩
  · unfold World.cell?; simp [h]
  · unfold World.frozen?; simp [h]
theorem ints_flatL (l : List Int) : flatL (l.map intP) = (l.map fun x => Value.int .i64 x).map .sc := by
  induction l with
  | nil => rfl
  | cons y l ih => simp only [List.map_cons, flatL, List.flatMap_cons] at ih ⊢; rw [ih]; rfl
theorem add_m (l : List Int) (st place at_ : Int) (K : Nat) (hl : (l.length : Int) = st * 168) (h0 : 0 ≤ place) (h1 : place / 32 < st) (h2 : momentB at_ = true) (hp : I64 place) (hK : addK place at_ = K) (hk : K < l.length) (hr : I64 (l[K] + 1)) :
    GoodM Try.prog 30 [] [intP st, intP place, intP at_] 3 1 (l.map intP) (intP 0) ((l.set K (l[K] + 1)).map intP) := by
  intro M H w us vs xs hdr hM hpre hpost _ hown hfl hpw hMk
  rw [pw_nil] at hpre; subst hpre
  obtain ⟨_, _, rfl, p1, hpost⟩ := pw_cons.1 hpost
  obtain ⟨_, _, rfl, p2, hpost⟩ := pw_cons.1 hpost
  obtain ⟨_, _, rfl, p3, hpost⟩ := pw_cons.1 hpost
  rw [pw_nil] at hpost; subst hpost
  rw [p1.sc_inv, p2.sc_inv, p3.sc_inv]
  rw [List.length_map] at hown
  have hx : xs = l.map fun x => .int .i64 x := by
    rw [ints_flatL] at hpw
    exact (pw_sc.1 hpw).1.symm
  obtain ⟨hlen, hcase⟩ := hown
  rcases hcase with ⟨_, hz⟩ | ⟨g, cap, cur, rfl, hg, hgg, hle, hmx, hcs, htk⟩
  · omega
  rw [Nat.mul_one] at htk hcs
  obtain ⟨c1, c2⟩ := own_cells hgg
  have hgl : g < w.heap.size := by have := hMk g rfl; exact hM g this
  have hat : ∀ i (h : i < l.length), w.cell? ⟨g, i, none⟩ = some (.int .i64 l[i]) := by
    intro i hi
    rw [c1]
    have : (cur.toList.take l.length)[i]? = some (.int .i64 l[i]) := by
      rw [htk, hx, List.getElem?_map, List.getElem?_eq_getElem hi]; rfl
    rw [List.getElem?_take, if_pos hi] at this
    simpa using this
  refine (add_yes g cap l st place at_ w hl hle hmx hgl hat (c2 _ (by rw [hK, hcs]; omega)) h0 h1 h2 hp K hK hk).mono ?_
  rintro en w' ⟨rfl, w2, hb, rfl⟩
  rw [wrap_id hr]
  have hset : w2.setCell ⟨g, K, none⟩ (.int .i64 (l[K] + 1)) = w2.setCells g K [.int .i64 (l[K] + 1)] := rfl
  have hg2 : w2.heap[g]? = some (.cells cur.toList.toArray 3 (0, 0)) := by rw [hb.block g hgl, hgg]
  have hh := heap_setCells g 3 [.int .i64 (l[K] + 1)] K w2 cur.toList hg2
  obtain ⟨r1, r2, r3, r4⟩ := setCells_rest g [.int .i64 (l[K] + 1)] K w2
  rw [hset]
  have hK2 : K < cur.size := by omega
  refine ⟨.int .i64 0, (l.set K (l[K] + 1)).map fun x => .int .i64 x, rfl, ⟨by rw [r4]; exact hb.size, fun k hk1 hk2 => ?_⟩, ⟨r1.trans hb.os, r2.trans hb.tape, r3.trans hb.output⟩, ⟨by simp, .inr ⟨g, cap, (setAt cur.toList K [.int .i64 (l[K] + 1)]).toArray, by simp, hg, hh, by simpa using hle, hmx, by simp [setAt_length, hcs], ?_⟩⟩, fun q hq => ?_, ?_, .sc _ rfl⟩
  · rw [heap_setCells_other g _ K w2 k (fun e => hk2 (by rw [e]; rfl)), hb.block k hk1]
  · apply List.ext_getElem?
    intro k
    rw [List.length_map, List.length_set, Nat.mul_one, List.getElem?_take, setAt_get, List.getElem?_map, List.getElem?_set]
    have htk2 : ∀ k, k < l.length → cur.toList[k]? = some (.int .i64 (l.getD k 0)) := by
      intro k hk3
      have : (cur.toList.take l.length)[k]? = some (.int .i64 (l.getD k 0)) := by
        rw [htk, hx, List.getElem?_map, List.getElem?_eq_getElem hk3, List.getD_eq_getElem?_getD, List.getElem?_eq_getElem hk3]; rfl
      rw [List.getElem?_take, if_pos hk3] at this
      exact this
    by_cases hk3 : k < l.length
    · rw [if_pos hk3]
      by_cases e : K = k
      · subst e
        rw [if_pos ⟨Nat.le_refl _, by simp, by simpa using hK2⟩, if_pos rfl, if_pos hk]
        simp
      · rw [if_neg (by simp; omega), if_neg e, htk2 k hk3, List.getElem?_eq_getElem hk3, List.getD_eq_getElem?_getD, List.getElem?_eq_getElem hk3]
        rfl
    · rw [if_neg hk3]
      by_cases e : K = k
      · omega
      · rw [if_neg e, List.getElem?_eq_none (by omega)]; rfl
  · obtain ⟨x, _, rfl⟩ := List.mem_map.1 hq; rfl
  · rw [ints_flatL]
    refine pw_sc.2 ⟨rfl, fun u hu => ?_⟩
    obtain ⟨x, hx2, rfl⟩ := List.mem_map.1 hu
    rcases List.mem_or_eq_of_mem_set hx2 with hx3 | rfl
    · have hp4 : Pw (RepI M w) ((l.map fun x => Value.int .i64 x).map .sc) xs := by
        rw [← ints_flatL]; exact hpw
      exact (pw_sc.1 hp4).2 _ (List.mem_map.2 ⟨x, hx3, rfl⟩)
    · exact rng_i64.2 hr


end Go.Proofs.Ytjobpjhmdbmdgaa
