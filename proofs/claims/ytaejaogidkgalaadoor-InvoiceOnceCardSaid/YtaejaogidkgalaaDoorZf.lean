/-
  Rides: copies, and how one is found.
-/
import Derived.Test.YtaejaogidkgalaaDoorZe
import Derived.Lib.Hide
namespace Go.Proofs.YtaejaogidkgalaaDoor
open Go.RowKit
open Nat (reduceAdd reduceEqDiff reduceLT reduceLeDiff reduceSub reducePow reduceMul)
open Int (reduceToNat reduceLE reduceEq)
set_option linter.unusedVariables false
set_option linter.unusedSimpArgs false
set_option linter.unnecessarySimpa false

open Go.RowKit Go.MapKept
def findRd (rs : List RideS) (id : Int) : Option RideS := rs.find? (fun r => r.id == id)
def zeroR : RideS := ⟨0, 0, ⟨0, 0⟩, ⟨0, 0⟩, false, [], [], 0, 0, 0, 0⟩
def findRP : Option RideS → PV
  | some r => .tup [r.pv, .sc (.bool true)]
  | none => .tup [zeroR.pv, .sc (.bool false)]
def fewRd (rs : List RideS) (most : Int) : Bool := rs.all (fun r => decide (r.legs.length ≤ 40) && decide (r.pauses.length ≤ 40)) && decide ((rs.length : Int) ≤ most)
def foundR (rs : List RideS) (id : Int) : Int := match rs.findIdx? (fun r => r.id == id) with
  | some i => (i : Int)
  | none => -1
theorem sl_news {M : Nat → Prop} {w : World} {es : List PV} {xs : List Value} {v : Value} (h : RepI M w (.sl es) v) (hx : flatL es = xs.map .sc) : ∃ a cap, v = .slice a es.length cap ∧ es.length ≤ cap ∧ cap ≤ maxLen ∧ (a = none → cap = 0) ∧
    (∀ ad, a = some ad → ∀ (j : Nat) (u : Value), xs[j]? = some u → ad.block < w.heap.size ∧ w.cell? (ad.add j) = some u) ∧ ∀ u ∈ xs, rngB u = true := by
  cases h with
  | slE a cap h1 h2 =>
    have : xs = [] := by
      have h0 : flatL [] = ([] : List PV) := rfl
      rw [h0] at hx
      exact List.map_eq_nil_iff.1 hx.symm
    subst this
    exact ⟨a, cap, rfl, Nat.zero_le _, h1, h2, fun ad _ j u hu => by simp at hu, fun u hu => by cases hu⟩
  | sl _ b o cap sz vs g0 g1 g2 g3 g4 g5 g6 g7 =>
    have key : ∀ (j : Nat) (u : Value), xs[j]? = some u → w.cell? ⟨b, o + j, none⟩ = some u ∧ rngB u = true := by
      intro j u hu
      have hp : (flatL es)[j]? = some (.sc u) := by rw [hx, List.getElem?_map, hu]; rfl
      obtain ⟨h0, e, he, hf⟩ := flatL_inv g5 hp
      have h1 := g6 _ e _ _ he hf
      have h2 := g7 _ e _ _ he hf
      rw [h1.sc_inv] at h2
      have hd : o + j / sz * sz + j % sz = o + j := by
        have := Nat.div_add_mod j sz
        rw [Nat.mul_comm] at this; omega
      rw [hd] at h2
      exact ⟨h2, h1.sc_rng⟩
    refine ⟨some ⟨b, o, none⟩, cap, rfl, g1, g2, (fun e => by cases e), fun ad hd j u hu => ?_, fun u hu => ?_⟩
    · cases hd
      rw [addr_add]
      exact ⟨g3, (key j u hu).1⟩
    · obtain ⟨j, hj, rfl⟩ := List.getElem_of_mem hu
      exact (key j _ (List.getElem?_eq_getElem hj)).2
def OwnPost (e : TypeId) (size n : Nat) (xs : List Value) (w : World) (en : Ending) (w' : World) : Prop :=
  ∃ hdr, en = .returned hdr ∧ Below w.heap.size w w' ∧ hdr.oneCell' = true ∧ w'.ownsRow w.heap.size e size hdr n xs
theorem own_repI {M : Nat → Prop} {w w' : World} {e : TypeId} {sz : Nat} {es : List PV} {xs : List Value} {hdr : Value} (hM : ∀ k, M k → k < w.heap.size) (hsz : 0 < sz) (hown : w'.ownsRow w.heap.size e sz hdr es.length xs) (hfl : ∀ q ∈ es, q.flat.length = sz) (hx : flatL es = xs.map .sc) (hr : ∀ u ∈ xs, rngB u = true) : RepI M w' (.sl es) hdr := by
  have hb : BoxR Tryd.prog w.heap.size (fun _ => False) (fun _ => ⟨0, undef, 0⟩) M w' ⟨0, hdr, 0⟩ (.row e sz 0 es) := by
    refine ⟨rfl, hsz, xs, hown, hfl, fun j p v hp hv => ?_⟩
    rw [hx, List.getElem?_map, hv] at hp
    cases hp
    exact .sc _ (hr v (List.mem_of_getElem? hv))
  refine row_repI hb (fun k hk hm => ?_) (fun _ _ h => h)
  have := hM k hm
  rcases hown.2 with ⟨hv, _⟩ | ⟨g, cap, cur, hv, hg, _⟩
  · have hk' : hdr.ownBlock = some k := hk
    rw [hv] at hk'; cases hk'
  · have hk' : hdr.ownBlock = some k := hk
    rw [hv] at hk'
    have hgk : g = k := Option.some.inj hk'
    omega
theorem info_parts {P : Program} {t : TypeId} {z : Value} {n m : Nat} (h : (P.info? t).map (fun i => (i.zero, i.size, i.bytes)) = some (some z, n, m)) : ∃ i, P.info? t = some i ∧ i.zero = some z ∧ i.size = n ∧ i.bytes = m := by
  cases hi : P.info? t with
  | none => rw [hi] at h; cases h
  | some i => rw [hi] at h; simp at h; exact ⟨i, rfl, h.1, h.2.1, h.2.2⟩
theorem info_leg : (Tryd.prog.info? 112).map (fun i => (i.zero, i.size, i.bytes)) = some (some (.agg #[.int .i64 0, .int .i64 0, .int .i64 0, .int .i64 0, .int .i64 0]), 5, 40) := by kernel_rfl
theorem leg_flat (l : List LegS) : flatL (l.map LegS.pv) = (l.flatMap LegS.vals).map .sc := by
  induction l with
  | nil => rfl
  | cons x l ih =>
    simp only [List.map_cons, flatL, List.flatMap_cons, List.map_append] at ih ⊢
    rw [ih]; rfl
set_option maxHeartbeats 4000000 in
theorem leg_clone_c (a : Option Addr) (cap n : Nat) (xs : List Value) (w : World) (hcap : a = none → cap = 0) (hn : n ≤ cap) (hlim : n ≤ 1000000) (hlen : xs.length = n * 5) (hone : ∀ u ∈ xs, u.oneCell' = true) (hnews : ∀ ad, a = some ad → ∀ (j : Nat) (u : Value), xs[j]? = some u → ad.block < w.heap.size ∧ w.cell? (ad.add j) = some u) : Calls Tryd.prog 62 #[.slice a n cap] w (OwnPost 112 5 n xs w) := by
  obtain ⟨i0, hi, hz0, hz1, hz2⟩ := info_parts info_leg
  have HI := hide hi; have HZ0 := hide hz0; have HZ1 := hide hz1; have HZ2 := hide hz2
  clear hi hz0 hz1 hz2
  have hnil := fun (w : World) (a : Option Addr) (n c : Nat) => Lib.run_eql_slice_nil (P := Tryd.prog) w 47 112 a n c 0 0 Tryd.underlying47
  cases a with
  | none =>
    obtain rfl : cap = 0 := hcap rfl
    have hn0 : n = 0 := by omega
    subst hn0
    have hx : xs = [] := List.eq_nil_of_length_eq_zero (by omega)
    subst hx
    go_enter Tryd.func62, Tryd.ntmps62
    go_wp2
    go_ret
    exact ⟨_, rfl, Below.refl _ _, rfl, World.ownsRow_nil _ _ _ _⟩
  | some ad =>
    have hnb : ∀ (w1 : World), Below w.heap.size w w1 → ∀ j u, xs[j]? = some u → w1.cell? (ad.add j) = some u := by
      intro w1 hb j u hj
      obtain ⟨h1, h2⟩ := hnews ad rfl j u hj
      rw [hb.cell (show (ad.add j).block < w.heap.size by unfold Addr.add; split <;> exact h1)]; exact h2
    clear hnews
    go_enter Tryd.func62, Tryd.ntmps62
    go_wp2_with (at_builtin; refine wpList_append_own _ rfl (.tmp 5) (.tmp 6) 47 rfl w.heap.size 112 i0 _ 5 40 Tryd.underlying47 HI.out HZ0.out HZ1.out HZ2.out rfl (by decide) (.slice (some ⟨w.heap.size, 0, none⟩) 0 0) 0 [] (by rfl) ?c0 ad n cap xs (by rfl) hlen ?c1 hone (by unfold maxLen; omega) (by omega) (by first | omega | (simp <;> omega)) ?_)
    case c0 => exact World.ownsRow_lit w #[] 0 (Nat.le_refl _) (by simp [maxLen]) rfl
    case c1 => exact hnb _ (by repeat (first | with_reducible exact (Below.refl _ _) | with_reducible refine Below.setCell ?_ ?_ _ | with_reducible refine Below.alloc ?_ ?_ _ | with_reducible refine Below.drew ?_ | with_reducible refine below_drewN ?_ _ | omega | (simp <;> omega)))
    intro v1 w1 hown hgrow _
    have HB : Hid (Below w.heap.size w w1) := Below.grown (by repeat (first | with_reducible exact (Below.refl _ _) | with_reducible refine Below.setCell ?_ ?_ _ | with_reducible refine Below.alloc ?_ ?_ _ | with_reducible refine Below.drew ?_ | with_reducible refine below_drewN ?_ _ | omega | (simp <;> omega))) hgrow (by first | omega | (simp <;> omega)) (fun k hk => by simp [Value.ownBlock] at hk; omega)
    have HO := hide hown; clear hown hgrow
    go_wp2
    go_ret
    refine ⟨v1, rfl, HB.out, ?_, by have := HO.out; simpa using this⟩
    rcases HO.out.2 with ⟨rfl, _⟩ | ⟨g, cap, cur, rfl, _⟩ <;> rfl
theorem leg_clone_g (l : List LegS) (hlim : l.length ≤ 1000000) : Good Tryd.prog 62 [.sl (l.map LegS.pv)] (.sl (l.map LegS.pv)) := by
  intro M w vs hM hp hG
  obtain ⟨v, _, rfl, h1, hp⟩ := pw_cons.1 hp
  rw [pw_nil] at hp; subst hp
  obtain ⟨a, cap, rfl, c1, c2, c3, c4, c5⟩ := sl_news h1 (leg_flat l)
  rw [List.length_map] at c1 ⊢
  have hone : ∀ u ∈ l.flatMap LegS.vals, u.oneCell' = true := by
    intro u hu
    obtain ⟨x, _, hx⟩ := List.mem_flatMap.1 hu
    simp only [LegS.vals, List.mem_cons, List.not_mem_nil, or_false] at hx
    rcases hx with rfl | rfl | rfl | rfl | rfl <;> rfl
  have hlen : (l.flatMap LegS.vals).length = l.length * 5 := by
    have := flatL_len (es := l.map LegS.pv) (sz := 5) (fun q hq => by obtain ⟨x, _, rfl⟩ := List.mem_map.1 hq; rfl)
    rw [leg_flat, List.length_map, List.length_map] at this; exact this
  refine (leg_clone_c a cap l.length _ w c3 c1 hlim hlen hone c4).mono ?_
  rintro en w' ⟨hdr, rfl, hb, _, hown⟩
  exact ⟨hdr, rfl, hb, own_repI (sz := 5) hM (by decide) (by rw [List.length_map]; exact hown) (fun q hq => by obtain ⟨x, _, rfl⟩ := List.mem_map.1 hq; rfl) (leg_flat l) c5⟩
theorem info_pause : (Tryd.prog.info? 115).map (fun i => (i.zero, i.size, i.bytes)) = some (some (.agg #[.int .i64 0, .int .i64 0, .int .i64 0, .int .i64 0]), 4, 32) := by kernel_rfl
theorem pause_flat (l : List PauseS) : flatL (l.map PauseS.pv) = (l.flatMap PauseS.vals).map .sc := by
  induction l with
  | nil => rfl
  | cons x l ih =>
    simp only [List.map_cons, flatL, List.flatMap_cons, List.map_append] at ih ⊢
    rw [ih]; rfl
set_option maxHeartbeats 4000000 in
theorem pause_clone_c (a : Option Addr) (cap n : Nat) (xs : List Value) (w : World) (hcap : a = none → cap = 0) (hn : n ≤ cap) (hlim : n ≤ 1000000) (hlen : xs.length = n * 4) (hone : ∀ u ∈ xs, u.oneCell' = true) (hnews : ∀ ad, a = some ad → ∀ (j : Nat) (u : Value), xs[j]? = some u → ad.block < w.heap.size ∧ w.cell? (ad.add j) = some u) : Calls Tryd.prog 63 #[.slice a n cap] w (OwnPost 115 4 n xs w) := by
  obtain ⟨i0, hi, hz0, hz1, hz2⟩ := info_parts info_pause
  have HI := hide hi; have HZ0 := hide hz0; have HZ1 := hide hz1; have HZ2 := hide hz2
  clear hi hz0 hz1 hz2
  have hnil := fun (w : World) (a : Option Addr) (n c : Nat) => Lib.run_eql_slice_nil (P := Tryd.prog) w 48 115 a n c 0 0 Tryd.underlying48
  cases a with
  | none =>
    obtain rfl : cap = 0 := hcap rfl
    have hn0 : n = 0 := by omega
    subst hn0
    have hx : xs = [] := List.eq_nil_of_length_eq_zero (by omega)
    subst hx
    go_enter Tryd.func63, Tryd.ntmps63
    go_wp2
    go_ret
    exact ⟨_, rfl, Below.refl _ _, rfl, World.ownsRow_nil _ _ _ _⟩
  | some ad =>
    have hnb : ∀ (w1 : World), Below w.heap.size w w1 → ∀ j u, xs[j]? = some u → w1.cell? (ad.add j) = some u := by
      intro w1 hb j u hj
      obtain ⟨h1, h2⟩ := hnews ad rfl j u hj
      rw [hb.cell (show (ad.add j).block < w.heap.size by unfold Addr.add; split <;> exact h1)]; exact h2
    clear hnews
    go_enter Tryd.func63, Tryd.ntmps63
    go_wp2_with (at_builtin; refine wpList_append_own _ rfl (.tmp 5) (.tmp 6) 48 rfl w.heap.size 115 i0 _ 4 32 Tryd.underlying48 HI.out HZ0.out HZ1.out HZ2.out rfl (by decide) (.slice (some ⟨w.heap.size, 0, none⟩) 0 0) 0 [] (by rfl) ?c0 ad n cap xs (by rfl) hlen ?c1 hone (by unfold maxLen; omega) (by omega) (by first | omega | (simp <;> omega)) ?_)
    case c0 => exact World.ownsRow_lit w #[] 0 (Nat.le_refl _) (by simp [maxLen]) rfl
    case c1 => exact hnb _ (by repeat (first | with_reducible exact (Below.refl _ _) | with_reducible refine Below.setCell ?_ ?_ _ | with_reducible refine Below.alloc ?_ ?_ _ | with_reducible refine Below.drew ?_ | with_reducible refine below_drewN ?_ _ | omega | (simp <;> omega)))
    intro v1 w1 hown hgrow _
    have HB : Hid (Below w.heap.size w w1) := Below.grown (by repeat (first | with_reducible exact (Below.refl _ _) | with_reducible refine Below.setCell ?_ ?_ _ | with_reducible refine Below.alloc ?_ ?_ _ | with_reducible refine Below.drew ?_ | with_reducible refine below_drewN ?_ _ | omega | (simp <;> omega))) hgrow (by first | omega | (simp <;> omega)) (fun k hk => by simp [Value.ownBlock] at hk; omega)
    have HO := hide hown; clear hown hgrow
    go_wp2
    go_ret
    refine ⟨v1, rfl, HB.out, ?_, by have := HO.out; simpa using this⟩
    rcases HO.out.2 with ⟨rfl, _⟩ | ⟨g, cap, cur, rfl, _⟩ <;> rfl
theorem pause_clone_g (l : List PauseS) (hlim : l.length ≤ 1000000) : Good Tryd.prog 63 [.sl (l.map PauseS.pv)] (.sl (l.map PauseS.pv)) := by
  intro M w vs hM hp hG
  obtain ⟨v, _, rfl, h1, hp⟩ := pw_cons.1 hp
  rw [pw_nil] at hp; subst hp
  obtain ⟨a, cap, rfl, c1, c2, c3, c4, c5⟩ := sl_news h1 (pause_flat l)
  rw [List.length_map] at c1 ⊢
  have hone : ∀ u ∈ l.flatMap PauseS.vals, u.oneCell' = true := by
    intro u hu
    obtain ⟨x, _, hx⟩ := List.mem_flatMap.1 hu
    simp only [PauseS.vals, List.mem_cons, List.not_mem_nil, or_false] at hx
    rcases hx with rfl | rfl | rfl | rfl <;> rfl
  have hlen : (l.flatMap PauseS.vals).length = l.length * 4 := by
    have := flatL_len (es := l.map PauseS.pv) (sz := 4) (fun q hq => by obtain ⟨x, _, rfl⟩ := List.mem_map.1 hq; rfl)
    rw [pause_flat, List.length_map, List.length_map] at this; exact this
  refine (pause_clone_c a cap l.length _ w c3 c1 hlim hlen hone c4).mono ?_
  rintro en w' ⟨hdr, rfl, hb, _, hown⟩
  exact ⟨hdr, rfl, hb, own_repI (sz := 4) hM (by decide) (by rw [List.length_map]; exact hown) (fun q hq => by obtain ⟨x, _, rfl⟩ := List.mem_map.1 hq; rfl) (pause_flat l) c5⟩
set_option maxHeartbeats 2000000 in
theorem copied_g (r : RideS) (h1 : r.legs.length ≤ 1000000) (h2 : r.pauses.length ≤ 1000000) : Good Tryd.prog 53 [r.pv] r.pv := by
  refine good53 (by simp) ?_
  simp only [ac53, RideS.pv, AW, reduceAdd, reduceCtorEq, reduceEqDiff, ↓reduceIte, reduceLT, reduceLeDiff, reduceSub, reducePow, reduceMul, reduceToNat, reduceLE, reduceEq, Int.reduceLT, Int.reduceBEq, Int.reduceBNe]
  refine ops_call (leg_clone_g r.legs h1) (by simp only [AW, reduceAdd, reduceCtorEq, reduceEqDiff, ↓reduceIte, reduceLT, reduceLeDiff, reduceSub, reducePow, reduceMul, reduceToNat, reduceLE, reduceEq, Int.reduceLT, Int.reduceBEq, Int.reduceBNe]) ?_; simp only [AW, reduceAdd, reduceCtorEq, reduceEqDiff, ↓reduceIte, reduceLT, reduceLeDiff, reduceSub, reducePow, reduceMul, reduceToNat, reduceLE, reduceEq, Int.reduceLT, Int.reduceBEq, Int.reduceBNe]
  refine ops_call (pause_clone_g r.pauses h2) (by simp only [AW, reduceAdd, reduceCtorEq, reduceEqDiff, ↓reduceIte, reduceLT, reduceLeDiff, reduceSub, reducePow, reduceMul, reduceToNat, reduceLE, reduceEq, Int.reduceLT, Int.reduceBEq, Int.reduceBNe]) ?_; simp only [AW, reduceAdd, reduceCtorEq, reduceEqDiff, ↓reduceIte, reduceLT, reduceLeDiff, reduceSub, reducePow, reduceMul, reduceToNat, reduceLE, reduceEq, Int.reduceLT, Int.reduceBEq, Int.reduceBNe]
  first | rfl | (refine drawnK rfl ?_; (try simp only [AW, reduceAdd, reduceCtorEq, reduceEqDiff, ↓reduceIte, reduceLT, reduceLeDiff, reduceSub, reducePow, reduceMul, reduceToNat, reduceLE, reduceEq, Int.reduceLT, Int.reduceBEq, Int.reduceBNe]))
set_option maxHeartbeats 2000000 in
theorem findRd_g (rs : List RideS) (id : Int) (hle : ∀ r ∈ rs, r.legs.length ≤ 1000000 ∧ r.pauses.length ≤ 1000000) : Good Tryd.prog 45 [.sl (rs.map RideS.pv), intP id] (findRP (findRd rs id)) := by
  refine .len (es := rs.map RideS.pv) (by simp) (fun hlen => ?_)
  rw [List.length_map] at hlen
  refine good45 (by simp) ?_
  simp only [ac45, intP, AW, reduceAdd, reduceCtorEq, reduceEqDiff, ↓reduceIte, reduceLT, reduceLeDiff, reduceSub, reducePow, reduceMul, reduceToNat, reduceLE, reduceEq, Int.reduceLT, Int.reduceBEq, Int.reduceBNe]
  refine run_loop (ι := Nat) (fun k => ⟨[(1, .sc (.int .i64 id)), (4, .ptr 0 0), (8, .sl (rs.map RideS.pv)), (9, .sc (.int .i64 (rs.length : Int))), (10, .sc (.int .i64 (k : Int)))], [(0, .var [.sc (.int .i64 0), .sc (.int .i64 0), .sc (.int .i64 0), .sc (.int .i64 0), .sc (.int .i64 0), .sc (.int .i64 0), .sc (.bool false), .sc (.slice none 0 0), .sc (.slice none 0 0), .sc (.int .i64 0), .sc (.int .i64 0), .sc (.int .i64 0), .sc (.int .i64 0)])], 5, 22⟩) (fun k => k ≤ rs.length ∧ (∀ j (hj : j < rs.length), j < k → (rs[j].id == id) = false)) (fun k => rs.length - k) 5 (fun _ => rfl) 0 (by simp only [LW, Nat.reduceMod, Nat.reduceDiv, Int.natCast_zero, AW, reduceAdd, reduceCtorEq, reduceEqDiff, ↓reduceIte, reduceLT, reduceLeDiff, reduceSub, reducePow, reduceMul, reduceToNat, reduceLE, reduceEq, Int.reduceLT, Int.reduceBEq, Int.reduceBNe]) ⟨Nat.zero_le _, nofun⟩ (fun k hk => ?_)
  obtain ⟨gk, ik⟩ := hk
  by_cases hltk : k < rs.length
  rotate_left
  · have dk : decide ((k : Int) < ((rs.length : Nat) : Int)) = false := by rw [decide_eq_false_iff_not]; exact fun h => hltk (Int.ofNat_lt.1 h)
    have ek : k = rs.length := Nat.le_antisymm gk (Nat.le_of_not_lt hltk)
    subst ek
    have hn : findRd rs id = none := find_none (fun j hj => ik j hj hj)
    rw [hn]
    simp only [dk, findRP, zeroR, RideS.pv, List.map_nil, AW, reduceAdd, reduceCtorEq, reduceEqDiff, ↓reduceIte, reduceLT, reduceLeDiff, reduceSub, reducePow, reduceMul, reduceToNat, reduceLE, reduceEq, Int.reduceLT, Int.reduceBEq, Int.reduceBNe]
  have dk : decide ((k : Int) < ((rs.length : Nat) : Int)) = true := by rw [decide_eq_true_eq]; exact Int.ofNat_lt.2 hltk
  have hc := hle rs[k] (List.getElem_mem hltk)
  have gc := copied_g rs[k] hc.1 hc.2
  simp only [RideS.pv, AW, reduceAdd, reduceCtorEq, reduceEqDiff, ↓reduceIte, reduceLT, reduceLeDiff, reduceSub, reducePow, reduceMul, reduceToNat, reduceLE, reduceEq, Int.reduceLT, Int.reduceBEq, Int.reduceBNe] at gc
  simp only [dk, List.length_map, map_getD hltk, hltk, RideS.pv, AW, reduceAdd, reduceCtorEq, reduceEqDiff, ↓reduceIte, reduceLT, reduceLeDiff, reduceSub, reducePow, reduceMul, reduceToNat, reduceLE, reduceEq, Int.reduceLT, Int.reduceBEq, Int.reduceBNe]
  cases h : (rs[k].id == id)
  · simp only [AW, reduceAdd, reduceCtorEq, reduceEqDiff, ↓reduceIte, reduceLT, reduceLeDiff, reduceSub, reducePow, reduceMul, reduceToNat, reduceLE, reduceEq, Int.reduceLT, Int.reduceBEq, Int.reduceBNe]
    (try simp only [wrap_succ hltk hlen, AW, reduceAdd, reduceCtorEq, reduceEqDiff, ↓reduceIte, reduceLT, reduceLeDiff, reduceSub, reducePow, reduceMul, reduceToNat, reduceLE, reduceEq, Int.reduceLT, Int.reduceBEq, Int.reduceBNe])
    refine ⟨k + 1, ⟨hltk, fun j hj hjk => ?_⟩, ?_, meas_lt hltk⟩
    · by_cases e : j = k
      · subst e; exact h
      · exact ik j hj (by omega)
    · simp only [LW, Nat.reduceMod, Nat.reduceDiv, AW, reduceAdd, reduceCtorEq, reduceEqDiff, ↓reduceIte, reduceLT, reduceLeDiff, reduceSub, reducePow, reduceMul, reduceToNat, reduceLE, reduceEq, Int.reduceLT, Int.reduceBEq, Int.reduceBNe]
  · have hs : findRd rs id = some rs[k] := find_some hltk ik h
    rw [hs]
    simp only [AW, reduceAdd, reduceCtorEq, reduceEqDiff, ↓reduceIte, reduceLT, reduceLeDiff, reduceSub, reducePow, reduceMul, reduceToNat, reduceLE, reduceEq, Int.reduceLT, Int.reduceBEq, Int.reduceBNe]
    refine ops_call (gc) (by simp only [AW, reduceAdd, reduceCtorEq, reduceEqDiff, ↓reduceIte, reduceLT, reduceLeDiff, reduceSub, reducePow, reduceMul, reduceToNat, reduceLE, reduceEq, Int.reduceLT, Int.reduceBEq, Int.reduceBNe]) ?_; simp only [AW, reduceAdd, reduceCtorEq, reduceEqDiff, ↓reduceIte, reduceLT, reduceLeDiff, reduceSub, reducePow, reduceMul, reduceToNat, reduceLE, reduceEq, Int.reduceLT, Int.reduceBEq, Int.reduceBNe]
    simp only [findRP, RideS.pv, AW, reduceAdd, reduceCtorEq, reduceEqDiff, ↓reduceIte, reduceLT, reduceLeDiff, reduceSub, reducePow, reduceMul, reduceToNat, reduceLE, reduceEq, Int.reduceLT, Int.reduceBEq, Int.reduceBNe]
theorem foundR_some {rs : List RideS} {id : Int} {k : Nat} (h : k < rs.length) (hno : ∀ j (hj : j < rs.length), j < k → (rs[j].id == id) = false) (hk : (rs[k].id == id) = true) : foundR rs id = (k : Int) ∧ findRd rs id = some rs[k] := by
  refine ⟨?_, find_some h hno hk⟩
  have : rs.findIdx? (fun r => r.id == id) = some k := by
    rw [List.findIdx?_eq_some_iff_getElem]
    exact ⟨h, hk, fun j hj => by rw [hno j (by omega) hj]; simp⟩
  unfold foundR; rw [this]
theorem foundR_none {rs : List RideS} {id : Int} (hno : ∀ j (hj : j < rs.length), (rs[j].id == id) = false) : foundR rs id = -1 ∧ findRd rs id = none := by
  refine ⟨?_, find_none hno⟩
  have : rs.findIdx? (fun r => r.id == id) = none := by
    rw [List.findIdx?_eq_none_iff]
    intro x hx
    obtain ⟨j, hj, rfl⟩ := List.getElem_of_mem hx
    exact hno j hj
  unfold foundR; rw [this]
set_option maxHeartbeats 2000000 in
theorem foundR_g (rs : List RideS) (id : Int) : Good Tryd.prog 41 [.sl (rs.map RideS.pv), intP id] (.sc (.int .i64 (foundR rs id))) := by
  refine .len (es := rs.map RideS.pv) (by simp) (fun hlen => ?_)
  rw [List.length_map] at hlen
  refine good41 (by simp) ?_
  simp only [ac41, intP, AW, reduceAdd, reduceCtorEq, reduceEqDiff, ↓reduceIte, reduceLT, reduceLeDiff, reduceSub, reducePow, reduceMul, reduceToNat, reduceLE, reduceEq, Int.reduceLT, Int.reduceBEq, Int.reduceBNe]
  refine run_loop (ι := Nat) (fun k => ⟨[(0, .sl (rs.map RideS.pv)), (1, .sc (.int .i64 id)), (5, .sc (.int .i64 (k : Int)))], [], 2, 20⟩) (fun k => k ≤ rs.length ∧ (∀ j (hj : j < rs.length), j < k → (rs[j].id == id) = false)) (fun k => rs.length - k) 2 (fun _ => rfl) 0 (by simp only [LW, Nat.reduceMod, Nat.reduceDiv, Int.natCast_zero, AW, reduceAdd, reduceCtorEq, reduceEqDiff, ↓reduceIte, reduceLT, reduceLeDiff, reduceSub, reducePow, reduceMul, reduceToNat, reduceLE, reduceEq, Int.reduceLT, Int.reduceBEq, Int.reduceBNe]) ⟨Nat.zero_le _, nofun⟩ (fun k hk => ?_)
  obtain ⟨gk, ik⟩ := hk
  by_cases hltk : k < rs.length
  rotate_left
  · have dk : decide ((k : Int) < ((rs.length : Nat) : Int)) = false := by rw [decide_eq_false_iff_not]; exact fun h => hltk (Int.ofNat_lt.1 h)
    have ek : k = rs.length := Nat.le_antisymm gk (Nat.le_of_not_lt hltk)
    subst ek
    rw [(foundR_none (fun j hj => ik j hj hj)).1]
    simp only [dk, List.length_map, AW, reduceAdd, reduceCtorEq, reduceEqDiff, ↓reduceIte, reduceLT, reduceLeDiff, reduceSub, reducePow, reduceMul, reduceToNat, reduceLE, reduceEq, Int.reduceLT, Int.reduceBEq, Int.reduceBNe]
  have dk : decide ((k : Int) < ((rs.length : Nat) : Int)) = true := by rw [decide_eq_true_eq]; exact Int.ofNat_lt.2 hltk
  simp only [dk, List.length_map, map_getD hltk, hltk, RideS.pv, AW, reduceAdd, reduceCtorEq, reduceEqDiff, ↓reduceIte, reduceLT, reduceLeDiff, reduceSub, reducePow, reduceMul, reduceToNat, reduceLE, reduceEq, Int.reduceLT, Int.reduceBEq, Int.reduceBNe]
  cases h : (rs[k].id == id)
  · simp only [AW, reduceAdd, reduceCtorEq, reduceEqDiff, ↓reduceIte, reduceLT, reduceLeDiff, reduceSub, reducePow, reduceMul, reduceToNat, reduceLE, reduceEq, Int.reduceLT, Int.reduceBEq, Int.reduceBNe]
    (try simp only [wrap_succ hltk hlen, AW, reduceAdd, reduceCtorEq, reduceEqDiff, ↓reduceIte, reduceLT, reduceLeDiff, reduceSub, reducePow, reduceMul, reduceToNat, reduceLE, reduceEq, Int.reduceLT, Int.reduceBEq, Int.reduceBNe])
    refine ⟨k + 1, ⟨hltk, fun j hj hjk => ?_⟩, ?_, meas_lt hltk⟩
    · by_cases e : j = k
      · subst e; exact h
      · exact ik j hj (by omega)
    · simp only [LW, Nat.reduceMod, Nat.reduceDiv, AW, reduceAdd, reduceCtorEq, reduceEqDiff, ↓reduceIte, reduceLT, reduceLeDiff, reduceSub, reducePow, reduceMul, reduceToNat, reduceLE, reduceEq, Int.reduceLT, Int.reduceBEq, Int.reduceBNe]
  · rw [(foundR_some hltk ik h).1]
    simp only [AW, reduceAdd, reduceCtorEq, reduceEqDiff, ↓reduceIte, reduceLT, reduceLeDiff, reduceSub, reducePow, reduceMul, reduceToNat, reduceLE, reduceEq, Int.reduceLT, Int.reduceBEq, Int.reduceBNe]
set_option maxHeartbeats 2000000 in
theorem rfindR_g (rs : List RideS) (id : Int) : Good Tryd.prog 20 [.sl (rs.map RideS.pv), intP id] (findRP (findRd rs id)) := by
  have gf := foundR_g rs id
  refine good20 (by simp) ?_
  by_cases hex : ∃ k, ∃ h : k < rs.length, (∀ j (hj : j < rs.length), j < k → (rs[j].id == id) = false) ∧ (rs[k].id == id) = true
  · obtain ⟨k, hk, h1, h2⟩ := hex
    obtain ⟨e1, e2⟩ := foundR_some hk h1 h2
    have d0 : decide ((k : Int) < 0) = false := by rw [decide_eq_false_iff_not]; omega
    rw [e1] at gf
    rw [e2]
    simp only [ac20, intP, AW, reduceAdd, reduceCtorEq, reduceEqDiff, ↓reduceIte, reduceLT, reduceLeDiff, reduceSub, reducePow, reduceMul, reduceToNat, reduceLE, reduceEq, Int.reduceLT, Int.reduceBEq, Int.reduceBNe]
    refine ops_call (gf) (by simp only [intP, AW, reduceAdd, reduceCtorEq, reduceEqDiff, ↓reduceIte, reduceLT, reduceLeDiff, reduceSub, reducePow, reduceMul, reduceToNat, reduceLE, reduceEq, Int.reduceLT, Int.reduceBEq, Int.reduceBNe]) ?_; simp only [intP, AW, reduceAdd, reduceCtorEq, reduceEqDiff, ↓reduceIte, reduceLT, reduceLeDiff, reduceSub, reducePow, reduceMul, reduceToNat, reduceLE, reduceEq, Int.reduceLT, Int.reduceBEq, Int.reduceBNe]
    simp only [d0, List.length_map, map_getD hk, hk, RideS.pv, AW, reduceAdd, reduceCtorEq, reduceEqDiff, ↓reduceIte, reduceLT, reduceLeDiff, reduceSub, reducePow, reduceMul, reduceToNat, reduceLE, reduceEq, Int.reduceLT, Int.reduceBEq, Int.reduceBNe]
    simp only [findRP, RideS.pv, AW, reduceAdd, reduceCtorEq, reduceEqDiff, ↓reduceIte, reduceLT, reduceLeDiff, reduceSub, reducePow, reduceMul, reduceToNat, reduceLE, reduceEq, Int.reduceLT, Int.reduceBEq, Int.reduceBNe]
  · have hno : ∀ j (hj : j < rs.length), (rs[j].id == id) = false := by
      intro j
      induction j using Nat.strongRecOn with
      | _ j ih =>
        intro hj
        cases h : (rs[j].id == id)
        · rfl
        · exact absurd ⟨j, hj, fun i hi hij => ih i hij hi, h⟩ hex
    obtain ⟨e1, e2⟩ := foundR_none hno
    rw [e1] at gf
    rw [e2]
    simp only [ac20, intP, AW, reduceAdd, reduceCtorEq, reduceEqDiff, ↓reduceIte, reduceLT, reduceLeDiff, reduceSub, reducePow, reduceMul, reduceToNat, reduceLE, reduceEq, Int.reduceLT, Int.reduceBEq, Int.reduceBNe]
    refine ops_call (gf) (by simp only [intP, AW, reduceAdd, reduceCtorEq, reduceEqDiff, ↓reduceIte, reduceLT, reduceLeDiff, reduceSub, reducePow, reduceMul, reduceToNat, reduceLE, reduceEq, Int.reduceLT, Int.reduceBEq, Int.reduceBNe]) ?_; simp only [intP, AW, reduceAdd, reduceCtorEq, reduceEqDiff, ↓reduceIte, reduceLT, reduceLeDiff, reduceSub, reducePow, reduceMul, reduceToNat, reduceLE, reduceEq, Int.reduceLT, Int.reduceBEq, Int.reduceBNe]
    simp only [show decide ((-1 : Int) < 0) = true from rfl, findRP, zeroR, RideS.pv, List.map_nil, AW, reduceAdd, reduceCtorEq, reduceEqDiff, ↓reduceIte, reduceLT, reduceLeDiff, reduceSub, reducePow, reduceMul, reduceToNat, reduceLE, reduceEq, Int.reduceLT, Int.reduceBEq, Int.reduceBNe]
set_option maxHeartbeats 2000000 in
theorem fewRd_g (rs : List RideS) (most : Int) : Good Tryd.prog 26 [.sl (rs.map RideS.pv), intP most] (.sc (.bool (fewRd rs most))) := by
  refine .len (es := rs.map RideS.pv) (by simp) (fun hlen => ?_)
  rw [List.length_map] at hlen
  refine good26 (by simp) ?_
  simp only [ac26, intP, AW, reduceAdd, reduceCtorEq, reduceEqDiff, ↓reduceIte, reduceLT, reduceLeDiff, reduceSub, reducePow, reduceMul, reduceToNat, reduceLE, reduceEq, Int.reduceLT, Int.reduceBEq, Int.reduceBNe]
  refine run_loop (ι := Nat) (fun k => ⟨[(0, .sl (rs.map RideS.pv)), (1, .sc (.int .i64 most)), (5, .sc (.int .i64 (k : Int)))], [], 2, 32⟩) (fun k => k ≤ rs.length ∧ (∀ j (hj : j < rs.length), j < k → rs[j].legs.length ≤ 40 ∧ rs[j].pauses.length ≤ 40)) (fun k => rs.length - k) 2 (fun _ => rfl) 0 (by simp only [LW, Nat.reduceMod, Nat.reduceDiv, Int.natCast_zero, AW, reduceAdd, reduceCtorEq, reduceEqDiff, ↓reduceIte, reduceLT, reduceLeDiff, reduceSub, reducePow, reduceMul, reduceToNat, reduceLE, reduceEq, Int.reduceLT, Int.reduceBEq, Int.reduceBNe]) ⟨Nat.zero_le _, nofun⟩ (fun k hk => ?_)
  obtain ⟨gk, ik⟩ := hk
  by_cases hltk : k < rs.length
  rotate_left
  · have dk : decide ((k : Int) < ((rs.length : Nat) : Int)) = false := by rw [decide_eq_false_iff_not]; exact fun h => hltk (Int.ofNat_lt.1 h)
    have ek : k = rs.length := Nat.le_antisymm gk (Nat.le_of_not_lt hltk)
    subst ek
    have hall : (rs.all fun r => decide (r.legs.length ≤ 40) && decide (r.pauses.length ≤ 40)) = true := List.all_eq_true.2 (fun x hx => by
      obtain ⟨j, hj, rfl⟩ := List.getElem_of_mem hx
      have := ik j hj hj
      simp [this])
    simp only [dk, List.length_map, fewRd, hall, AW, reduceAdd, reduceCtorEq, reduceEqDiff, ↓reduceIte, reduceLT, reduceLeDiff, reduceSub, reducePow, reduceMul, reduceToNat, reduceLE, reduceEq, Int.reduceLT, Int.reduceBEq, Int.reduceBNe]
  have dk : decide ((k : Int) < ((rs.length : Nat) : Int)) = true := by rw [decide_eq_true_eq]; exact Int.ofNat_lt.2 hltk
  have bad : ¬ (rs[k].legs.length ≤ 40 ∧ rs[k].pauses.length ≤ 40) → fewRd rs most = false := fun h => by
    have : (rs.all fun r => decide (r.legs.length ≤ 40) && decide (r.pauses.length ≤ 40)) = false := by
      rw [Bool.eq_false_iff]; intro h2
      have := List.all_eq_true.1 h2 _ (List.getElem_mem hltk)
      simp only [Bool.and_eq_true, decide_eq_true_eq] at this
      exact h this
    unfold fewRd; rw [this]; rfl
  simp only [dk, List.length_map, map_getD hltk, hltk, RideS.pv, AW, reduceAdd, reduceCtorEq, reduceEqDiff, ↓reduceIte, reduceLT, reduceLeDiff, reduceSub, reducePow, reduceMul, reduceToNat, reduceLE, reduceEq, Int.reduceLT, Int.reduceBEq, Int.reduceBNe]
  cases h1 : decide ((40 : Int) < (rs[k].legs.length : Int))
  · cases h2 : decide ((40 : Int) < (rs[k].pauses.length : Int))
    · have h1' := of_decide_eq_false h1
      have h2' := of_decide_eq_false h2
      simp only [List.length_map, map_getD hltk, hltk, RideS.pv, h1, h2, AW, reduceAdd, reduceCtorEq, reduceEqDiff, ↓reduceIte, reduceLT, reduceLeDiff, reduceSub, reducePow, reduceMul, reduceToNat, reduceLE, reduceEq, Int.reduceLT, Int.reduceBEq, Int.reduceBNe]
      (try simp only [wrap_succ hltk hlen, AW, reduceAdd, reduceCtorEq, reduceEqDiff, ↓reduceIte, reduceLT, reduceLeDiff, reduceSub, reducePow, reduceMul, reduceToNat, reduceLE, reduceEq, Int.reduceLT, Int.reduceBEq, Int.reduceBNe])
      refine ⟨k + 1, ⟨hltk, fun j hj hjk => ?_⟩, ?_, meas_lt hltk⟩
      · by_cases e : j = k
        · subst e; omega
        · exact ik j hj (by omega)
      · simp only [LW, Nat.reduceMod, Nat.reduceDiv, AW, reduceAdd, reduceCtorEq, reduceEqDiff, ↓reduceIte, reduceLT, reduceLeDiff, reduceSub, reducePow, reduceMul, reduceToNat, reduceLE, reduceEq, Int.reduceLT, Int.reduceBEq, Int.reduceBNe]
    · have h2' := of_decide_eq_true h2
      rw [bad (fun h => by omega)]
      simp only [List.length_map, map_getD hltk, hltk, RideS.pv, h1, h2, AW, reduceAdd, reduceCtorEq, reduceEqDiff, ↓reduceIte, reduceLT, reduceLeDiff, reduceSub, reducePow, reduceMul, reduceToNat, reduceLE, reduceEq, Int.reduceLT, Int.reduceBEq, Int.reduceBNe]
  · have h1' := of_decide_eq_true h1
    rw [bad (fun h => by omega)]
    simp only [List.length_map, map_getD hltk, hltk, RideS.pv, h1, AW, reduceAdd, reduceCtorEq, reduceEqDiff, ↓reduceIte, reduceLT, reduceLeDiff, reduceSub, reducePow, reduceMul, reduceToNat, reduceLE, reduceEq, Int.reduceLT, Int.reduceBEq, Int.reduceBNe]


end Go.Proofs.YtaejaogidkgalaaDoor
