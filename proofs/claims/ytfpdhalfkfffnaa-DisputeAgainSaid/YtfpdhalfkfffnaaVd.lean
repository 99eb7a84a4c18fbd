import Derived.Test.YtfpdhalfkfffnaaVc
namespace Go.Proofs.Ytfpdhalfkfffnaa
open Go.RowKit
set_option linter.unusedVariables false
set_option linter.unusedSimpArgs false
set_option linter.unnecessarySimpa false

/-- append(own, src...), the source nil or not. -/
theorem wpList_append_src {P : Program} {w : World} {ops : Array Oper} {rest : List Oper} {o : Oper} {a : Act} {Q : Exit → Act → World → Prop} (hgd : o.guard = none) (s x : Operand) (t : TypeId)
    (ho : o.op = .call { callee := .builtin .append, args := #[s, x], argTypes := #[t, t] })
    (base : Nat) (e : TypeId) (i : TypeInfo) (z : Value) (size bytes : Nat) (ht : P.underlying t = some (.slice e)) (hi : P.info? e = some i) (hz : i.zero = some z)
    (hsize : i.size = size) (hby : i.bytes = bytes) (hzs : z.cells.size = size) (hsz : 0 < size)
    (v : Value) (n : Nat) (xs : List Value) (hs : a.eval s = v) (hown : w.ownsRow base e size v n xs)
    (sa : Option Addr) (m c : Nat) (news : List Value) (hx : a.eval x = .slice sa m c) (h0 : sa = none → m = 0 ∧ c = 0) (hl : news.length = m * size) (hnews : ∀ ad, sa = some ad → ∀ j u, news[j]? = some u → w.cell? (ad.add j) = some u) (h1 : ∀ u ∈ news, u.oneCell' = true)
    (h63 : n + m ≤ maxLen) (hbytes : (n + m) * bytes ≤ 140737488355328) (hbase : base ≤ w.heap.size)
    (h : ∀ a' c' w', w'.ownsRow base e size (.slice a' (n + m) c') (n + m) (xs ++ news) → w.grownBy w' v.ownBlock → wpList P ops Q rest (a.put o.dst (.slice a' (n + m) c')) w') : wpList P ops Q (o :: rest) a w := by
  cases sa with
  | some ad =>
    refine wpList_append_own w hgd s x t ho base e i z size bytes ht hi hz hsize hby hzs hsz v n xs hs hown ad m c news hx hl (hnews ad rfl) h1 h63 hbytes hbase fun v' w' h2 h3 _ => ?_
    rcases h2.2 with ⟨rfl, h4⟩ | ⟨g, cap, cur, rfl, _⟩
    · have := h none 0 w'
      rw [h4] at this
      exact this (by rw [h4] at h2; exact h2) h3
    · exact h _ _ w' h2 h3
  | none =>
    obtain ⟨rfl, rfl⟩ := h0 rfl
    have hn : news = [] := List.eq_nil_of_length_eq_zero (by simpa using hl)
    subst hn
    refine wpList_plain hgd fun K hK => ?_
    have hr := run_append_owned_none (P := P) w base t o.type e i size ht hi v n xs hown
    unfold Oper.wp execOp
    simp only [ho, resolve, invoke, builtin, Sem.run_bind, Sem.run_pure, Result.andThen_ok, List.map_toArray, List.map_cons, List.map_nil, hs, hx, hr]
    have hg : w.grownBy w v.ownBlock := ⟨rfl, rfl, rfl, Nat.le_refl _, fun _ _ _ => rfl⟩
    rcases hown.2 with ⟨rfl, h4⟩ | ⟨g, cap, cur, rfl, _⟩
    · subst h4
      exact hK _ _ (h none 0 w (by simpa using hown) hg)
    · exact hK _ _ (h _ _ w (by simpa using hown) hg)
theorem ownsRow_empty (w : World) (base : Nat) (e : TypeId) (size g : Nat) (hb : base ≤ w.heap.size) (hg : g = w.heap.size) : (w.alloc (.cells #[] e)).ownsRow base e size (.slice (some ⟨g, 0, none⟩) 0 0) 0 [] := by
  subst hg; exact World.ownsRow_lit w #[] 0 hb (by simp [maxLen]) (by simp)
theorem ownsRow_belowB {w w1 : World} {B base : Nat} {e : TypeId} {size : Nat} {v : Value} {n : Nat} {xs : List Value} (h : w.ownsRow base e size v n xs) (hlt : ∀ k, v.ownBlock = some k → k < B) (hb : Below B w w1) : w1.ownsRow base e size v n xs := by
  refine ⟨h.1, ?_⟩
  rcases h.2 with h2 | ⟨g, cap, cur, rfl, hg, hh, h3⟩
  · exact .inl h2
  · exact .inr ⟨g, cap, cur, rfl, hg, by rw [hb.block g (hlt g rfl)]; exact hh, h3⟩
theorem LegS.sl_src {w : World} {a : Option Addr} {cap : Nat} {l : List LegS} (h : LegS.sl w a cap l) : (a = none → l.length = 0 ∧ cap = 0) ∧ ∀ ad, a = some ad → ∀ j u, (LegS.flat l)[j]? = some u → w.cell? (ad.add j) = some u := by
  refine ⟨fun e => ⟨by have := h.2.2.1 e; have := h.1; omega, h.2.2.1 e⟩, fun ad e j u hj => ?_⟩
  by_cases h0 : 0 < l.length
  · obtain ⟨b, o, ha, hlt, hat⟩ := h.2.2.2.1 h0
    rw [e] at ha; cases ha
    rw [addr_add]; exact LegS.at_flat l o hat j u hj
  · have : l = [] := List.eq_nil_of_length_eq_zero (by omega)
    subst this; simp [LegS.flat_nil] at hj
theorem PauseS.sl_src {w : World} {a : Option Addr} {cap : Nat} {l : List PauseS} (h : PauseS.sl w a cap l) : (a = none → l.length = 0 ∧ cap = 0) ∧ ∀ ad, a = some ad → ∀ j u, (PauseS.flat l)[j]? = some u → w.cell? (ad.add j) = some u := by
  refine ⟨fun e => ⟨by have := h.2.2.1 e; have := h.1; omega, h.2.2.1 e⟩, fun ad e j u hj => ?_⟩
  by_cases h0 : 0 < l.length
  · obtain ⟨b, o, ha, hlt, hat⟩ := h.2.2.2.1 h0
    rw [e] at ha; cases ha
    rw [addr_add]; exact PauseS.at_flat l o hat j u hj
  · have : l = [] := List.eq_nil_of_length_eq_zero (by omega)
    subst this; simp [PauseS.flat_nil] at hj
theorem RideS.sl_src {w : World} {a : Option Addr} {cap : Nat} {l : List RideS} (h : RideS.sl w a cap l) : (a = none → l.length = 0 ∧ cap = 0) ∧ ∀ ad, a = some ad → ∀ j u, (RideS.flat l)[j]? = some u → w.cell? (ad.add j) = some u := by
  refine ⟨fun e => ⟨by have := h.2.2.1 e; have := h.1; omega, h.2.2.1 e⟩, fun ad e j u hj => ?_⟩
  by_cases h0 : 0 < l.length
  · obtain ⟨b, o, ha, hlt, hat⟩ := h.2.2.2.1 h0
    rw [e] at ha; cases ha
    rw [addr_add]; exact RideS.at_flat l o hat j u hj
  · have : l = [] := List.eq_nil_of_length_eq_zero (by omega)
    subst this; simp [RideS.flat_nil] at hj
theorem EvS.sl_src {w : World} {a : Option Addr} {cap : Nat} {l : List EvS} (h : EvS.sl w a cap l) : (a = none → l.length = 0 ∧ cap = 0) ∧ ∀ ad, a = some ad → ∀ j u, (EvS.flat l)[j]? = some u → w.cell? (ad.add j) = some u := by
  refine ⟨fun e => ⟨by have := h.2.2.1 e; have := h.1; omega, h.2.2.1 e⟩, fun ad e j u hj => ?_⟩
  by_cases h0 : 0 < l.length
  · obtain ⟨b, o, ha, hlt, hat⟩ := h.2.2.2.1 h0
    rw [e] at ha; cases ha
    rw [addr_add]; exact EvS.at_flat l o hat j u hj
  · have : l = [] := List.eq_nil_of_length_eq_zero (by omega)
    subst this; simp [EvS.flat_nil] at hj
set_option maxRecDepth 100000 in
set_option maxHeartbeats 8000000 in
theorem copy_c (r : RideS) (w : World) (H : RideS.ok w r) (hlim : r.legs.length ≤ 1000000) (hlimp : r.pauses.length ≤ 1000000) : Calls Try.prog 23 #[RV r] w (CopyPost w r) := by
  have HH := hide H
  obtain ⟨h1, h2, h3, h4, hL, hP, h5⟩ := H
  have HL := hide hL; have HP := hide hP
  clear h1 h2 h3 h4 hL hP h5
  obtain ⟨i0, hi, hz0, hz1, hz2⟩ := info_parts info47
  have HI := hide hi; have HZ0 := hide hz0; have HZ1 := hide hz1; have HZ2 := hide hz2
  clear hi hz0 hz1 hz2
  obtain ⟨j0, hi, hz0, hz1, hz2⟩ := info_parts info62
  have JI := hide hi; have JZ0 := hide hz0; have JZ1 := hide hz1; have JZ2 := hide hz2
  clear hi hz0 hz1 hz2
  go_enter Try.func23, Try.ntmps23
  go_wp2_with (at_builtin; refine wpList_append_src rfl (.tmp 3) (.tmp 5) 24 rfl (w.heap.size + 2) 47 i0 _ 5 40 Try.underlying24 HI.out HZ0.out HZ1.out HZ2.out rfl (by decide) (.slice (some ⟨w.heap.size + 2, 0, none⟩) 0 0) 0 [] (by rfl) ?c0 r.legsA r.legs.length r.legsC (LegS.flat r.legs) (by rfl) (LegS.sl_src HL.out).1 (LegS.flat_len r.legs) ?c1 (LegS.flat_cell r.legs) (by unfold maxLen; omega) (by omega) (by first | omega | (simp <;> omega)) ?_)
  case c0 => (refine ownsRow_empty _ _ _ _ _ ?_ ?_ <;> simp)
  case c1 => exact (LegS.sl_src (LegS.sl_below (by repeat (first | with_reducible exact (Below.refl _ _) | with_reducible refine Below.setCell ?_ ?_ _ | with_reducible refine Below.alloc ?_ ?_ _ | with_reducible refine Below.drew ?_ | with_reducible refine below_drewN ?_ _ | omega | (simp <;> omega))) HL.out)).2
  intro a1 c1 w1 hown hgrow
  have HB1 : Hid (Below (w.heap.size + 2) _ w1) := Below.grown (Below.refl _ _) hgrow (by first | omega | (simp <;> omega)) (fun k hk => by simp [Value.ownBlock] at hk; omega)
  have HW1 : Hid (Below w.heap.size w w1) := (show Below w.heap.size w _ by repeat (first | with_reducible exact (Below.refl _ _) | with_reducible refine Below.setCell ?_ ?_ _ | with_reducible refine Below.alloc ?_ ?_ _ | with_reducible refine Below.drew ?_ | with_reducible refine below_drewN ?_ _ | omega | (simp <;> omega))).trans (HB1.out.mono (by omega))
  obtain ⟨hc1, hz1⟩ := bcell HB1.out
  have hs1 := HB1.out.size
  simp at hs1
  have hq0 : w.heap.size < w1.heap.size := by omega
  have hq1 : w.heap.size + 1 < w1.heap.size := by omega
  have k17 : w1.cell? ⟨w.heap.size, 7, none⟩ = some (.slice r.legsA r.legs.length r.legsC) := (hc1 w.heap.size 7 (by omega)).trans (by go_simp)
  have k18 : w1.cell? ⟨w.heap.size, 8, none⟩ = some (.slice r.pausesA r.pauses.length r.pausesC) := (hc1 w.heap.size 8 (by omega)).trans (by go_simp)
  have z17 : w1.frozen? ⟨w.heap.size, 7, none⟩ = false := (hz1 w.heap.size 7 (by omega)).trans (by go_simp)
  have z18 : w1.frozen? ⟨w.heap.size, 8, none⟩ = false := (hz1 w.heap.size 8 (by omega)).trans (by go_simp)
  have k7s : (w1.setCell ⟨w.heap.size, 7, none⟩ (.slice a1 r.legs.length c1)).cell? ⟨w.heap.size, 7, none⟩ = some (.slice a1 r.legs.length c1) := World.cell?_setCell_same' _ _ _ (by rw [k17]; rfl)
  have HO1 := hide hown; clear hown hgrow HB1
  go_wp2_with (at_builtin; refine wpList_append_src rfl (.tmp 8) (.tmp 10) 25 rfl w1.heap.size 62 j0 _ 4 32 Try.underlying25 JI.out JZ0.out JZ1.out JZ2.out rfl (by decide) (.slice (some ⟨w1.heap.size, 0, none⟩) 0 0) 0 [] (by rfl) ?c2 r.pausesA r.pauses.length r.pausesC (PauseS.flat r.pauses) (by rfl) (PauseS.sl_src HP.out).1 (PauseS.flat_len r.pauses) ?c3 (PauseS.flat_cell r.pauses) (by unfold maxLen; omega) (by omega) (by first | omega | (simp <;> omega)) ?_)
  case c2 => (refine ownsRow_empty _ _ _ _ _ ?_ ?_ <;> simp <;> omega)
  case c3 => exact (PauseS.sl_src (PauseS.sl_below (by repeat (first | with_reducible exact (HW1.out) | with_reducible refine Below.setCell ?_ ?_ _ | with_reducible refine Below.alloc ?_ ?_ _ | with_reducible refine Below.drew ?_ | with_reducible refine below_drewN ?_ _ | omega | (simp <;> omega))) HP.out)).2
  intro a2 c2 w2 hown hgrow
  have HB2 : Hid (Below w1.heap.size _ w2) := Below.grown (Below.refl _ _) hgrow (by first | omega | (simp <;> omega)) (fun k hk => by simp [Value.ownBlock] at hk; omega)
  have HW2 : Hid (Below w.heap.size w w2) := (show Below w.heap.size w _ by repeat (first | with_reducible exact (HW1.out) | with_reducible refine Below.setCell ?_ ?_ _ | with_reducible refine Below.alloc ?_ ?_ _ | with_reducible refine Below.drew ?_ | with_reducible refine below_drewN ?_ _ | omega | (simp <;> omega))).trans (HB2.out.mono (by omega))
  obtain ⟨hc2, hz2⟩ := bcell HB2.out
  have hs2 := HB2.out.size
  simp at hs2
  have hq20 : w.heap.size < w2.heap.size := by omega
  have hq21 : w.heap.size + 1 < w2.heap.size := by omega
  have k27 : w2.cell? ⟨w.heap.size, 7, none⟩ = some (.slice a1 r.legs.length c1) := (hc2 w.heap.size 7 (by omega)).trans (by go_simp)
  have k28 : w2.cell? ⟨w.heap.size, 8, none⟩ = some (.slice r.pausesA r.pauses.length r.pausesC) := (hc2 w.heap.size 8 (by omega)).trans (by go_simp)
  have z28 : w2.frozen? ⟨w.heap.size, 8, none⟩ = false := (hz2 w.heap.size 8 (by omega)).trans (by go_simp)
  have k8s : (w2.setCell ⟨w.heap.size, 8, none⟩ (.slice a2 r.pauses.length c2)).cell? ⟨w.heap.size, 8, none⟩ = some (.slice a2 r.pauses.length c2) := World.cell?_setCell_same' _ _ _ (by rw [k28]; rfl)
  have HOP := hide hown; clear hown hgrow
  have HOL : Hid (w2.ownsRow (w.heap.size + 2) 47 5 (Value.slice a1 r.legs.length c1) r.legs.length (LegS.flat r.legs)) := ownsRow_belowB (by repeat (first | with_reducible exact HO1.out | with_reducible refine ownsRow_setCell ?_ _ _ ?_ | with_reducible refine World.ownsRow.alloc ?_ _ | (simp <;> omega))) (fun k hk => (HO1.out.lt k hk).2) HB2.out
  clear HB2
  go_wp2
  refine bodyPost_ret (v := RV { r with legsA := a1, legsC := c1, pausesA := a2, pausesC := c2 }) (by simp [results, Try.results23, go_sem, *]) rfl (CopyPost.mk (B := w.heap.size + 2) (B2 := w1.heap.size) ?_ (by omega) (by omega) ?_ (fun k hk => (HO1.out.lt k hk).2) ?_)
  · repeat (first | with_reducible exact (HW2.out) | with_reducible refine Below.setCell ?_ ?_ _ | with_reducible refine Below.alloc ?_ ?_ _ | with_reducible refine Below.drew ?_ | with_reducible refine below_drewN ?_ _ | omega | (simp <;> omega))
  · repeat (first | with_reducible exact HOL.out | with_reducible refine ownsRow_setCell ?_ _ _ ?_ | with_reducible refine World.ownsRow.alloc ?_ _ | (simp <;> omega))
  · repeat (first | with_reducible exact HOP.out | with_reducible refine ownsRow_setCell ?_ _ _ ?_ | with_reducible refine World.ownsRow.alloc ?_ _ | (simp <;> omega))


end Go.Proofs.Ytfpdhalfkfffnaa
