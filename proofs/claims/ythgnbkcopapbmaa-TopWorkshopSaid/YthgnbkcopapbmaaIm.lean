/-
  Inspections: the program's last inspection, the loop over the iterator.
-/
import Derived.Test.YthgnbkcopapbmaaIl
namespace Go.Proofs.Ythgnbkcopapbmaa
open Go.RowKit
open Nat (reduceAdd reduceEqDiff reduceLT reduceLeDiff reduceSub reducePow reduceMul)
open Int (reduceToNat reduceLE reduceEq)
set_option linter.unusedVariables false
set_option linter.unusedSimpArgs false
set_option linter.unnecessarySimpa false


open Go.Shelf
attribute [local go_sem] Oper.semAt_some
def CBox (W : World) (B : Nat) (t : TypeId) (vs : Array Value) : Prop := W.heap[B]? = some (.cells vs t (0, 0))
theorem CBox.lt {W : World} {B : Nat} {t : TypeId} {vs : Array Value} (h : CBox W B t vs) : B < W.heap.size := (Array.getElem?_eq_some_iff.1 h).1
theorem CBox.cell {W : World} {B : Nat} {t : TypeId} {vs : Array Value} (h : CBox W B t vs) (i : Nat) : W.cell? ⟨B, i, none⟩ = vs[i]? := by simp [World.cell?, show W.heap[B]? = _ from h]
theorem CBox.frozen {W : World} {B : Nat} {t : TypeId} {vs : Array Value} (h : CBox W B t vs) (i : Nat) : W.frozen? ⟨B, i, none⟩ = false := by simp [World.frozen?, show W.heap[B]? = _ from h]
theorem CBox.new (W : World) (t : TypeId) (vs : Array Value) : CBox (W.alloc (.cells vs t)) W.heap.size t vs := World.alloc_heap_new W _
theorem CBox.alloc {W : World} {B : Nat} {t : TypeId} {vs : Array Value} (h : CBox W B t vs) (o : Obj) : CBox (W.alloc o) B t vs := ((World.grownBy_alloc W o none).block B h.lt (by simp)).trans h
theorem cbox_own {β : Type} (B : Nat) (t : TypeId) (f : β → Array Value) : Own (fun s W => CBox W B t (f s)) := fun s X Y row hs hg hrow =>
  (hg.block B (CBox.lt hs) (fun e' => by obtain ⟨o, ho, hc⟩ := hrow B e'.symm; rw [show X.heap[B]? = _ from hs] at ho; cases ho; cases hc)).trans hs
theorem CBox.set {W : World} {B : Nat} {t : TypeId} {vs : Array Value} (i : Nat) (v : Value) (h : CBox W B t vs) : CBox (W.setCell ⟨B, i, none⟩ v) B t (vs.setIfInBounds i v) := by
  obtain ⟨hlt, hk⟩ := Array.getElem?_eq_some_iff.1 h
  show (W.heap.modify B _)[B]? = _
  rw [Array.getElem?_eq_getElem (by rw [Array.size_modify]; exact hlt), Array.getElem_modify_self, hk]
  rfl
theorem CBox.other {W : World} {B B' : Nat} {t : TypeId} {vs : Array Value} (h : CBox W B t vs) (hne : B ≠ B') (i : Nat) (v : Value) : CBox (W.setCell ⟨B', i, none⟩ v) B t vs := (Below.heap_setCell _ _ _ B hne).trans h
theorem KpK.set {n₀ B : Nat} {W W1 : World} (h : KpK n₀ B W W1) (p : Addr) (v : Value) (hn : n₀ ≤ p.block) (hB : p.block < B) : KpK n₀ B W (W1.setCell p v) :=
  ⟨h.1.setCell hn v, fun i a b => by
    rw [← h.2 i a b]; simp only [World.cell?]; rw [Below.heap_setCell _ _ _ i (by omega)]⟩
def updW (W : World) (B1 B2 : Nat) (x : CheckS) : World := ((((W.setCell ⟨B1, 0, none⟩ (.int .i64 x.bike)).setCell ⟨B1, 1, none⟩ (.int .i64 x.kind)).setCell ⟨B1, 2, none⟩ (.int .i64 x.at_)).setCell ⟨B1, 3, none⟩ (.bool x.good)).setCell ⟨B2, 0, none⟩ (.bool true)
theorem updW_1 {W : World} {B1 B2 : Nat} {x : CheckS} {t : TypeId} {a b c d : Value} (h : CBox W B1 t #[a, b, c, d]) (hne : B1 ≠ B2) : CBox (updW W B1 B2 x) B1 t #[.int .i64 x.bike, .int .i64 x.kind, .int .i64 x.at_, .bool x.good] :=
  ((((h.set 0 _).set 1 _).set 2 _).set 3 _).other hne 0 _
theorem updW_2 {W : World} {B1 B2 : Nat} {x : CheckS} {t : TypeId} {a : Value} (h : CBox W B2 t #[a]) (hne : B2 ≠ B1) : CBox (updW W B1 B2 x) B2 t #[.bool true] :=
  ((((h.other hne 0 _).other hne 1 _).other hne 2 _).other hne 3 _).set 0 _
theorem updW_3 {W : World} {B1 B2 B : Nat} {x : CheckS} {t : TypeId} {vs : Array Value} (h : CBox W B t vs) (h1 : B ≠ B1) (h2 : B ≠ B2) : CBox (updW W B1 B2 x) B t vs :=
  ((((h.other h1 0 _).other h1 1 _).other h1 2 _).other h1 3 _).other h2 0 _
theorem updW_4 {n₀ B : Nat} {W : World} {B1 B2 : Nat} {x : CheckS} (h1 : n₀ ≤ B1) (h2 : n₀ ≤ B2) (h3 : B1 < B) (h4 : B2 < B) : KpK n₀ B W (updW W B1 B2 x) :=
  (((((KpK.refl n₀ B W).set ⟨B1, 0, none⟩ _ h1 h3).set ⟨B1, 1, none⟩ _ h1 h3).set ⟨B1, 2, none⟩ _ h1 h3).set ⟨B1, 3, none⟩ _ h1 h3).set ⟨B2, 0, none⟩ _ h2 h4
theorem updW_5 {W : World} {B1 B2 : Nat} {x : CheckS} : KeepsOthers W (updW W B1 B2 x) :=
  ((((KeepsOthers.setCell _ _ _).trans (KeepsOthers.setCell _ _ _)).trans (KeepsOthers.setCell _ _ _)).trans (KeepsOthers.setCell _ _ _)).trans (KeepsOthers.setCell _ _ _)
def stepC (m : Option CheckS) (c : CheckS) : Option CheckS := if (match m with
    | none => true
    | some b => decide (b.at_ < c.at_)) then some c else m
theorem fold_filter (b k t : Int) : ∀ (l : List CheckS) (m : Option CheckS), l.foldl (stepB b k t) m = (l.filter (matchB b k t)).foldl stepC m
  | [], _ => rfl
  | c :: l, m => by
    rw [List.foldl_cons, List.filter_cons]
    cases h : matchB b k t c
    · have e : stepB b k t m c = m := by unfold stepB; rw [h]; rfl
      rw [e]; exact fold_filter b k t l m
    · have e : stepB b k t m c = stepC m c := by unfold stepB stepC; rw [h]; rfl
      rw [e]; exact fold_filter b k t l _
theorem stepC_snoc (pre : List CheckS) (x : CheckS) : (pre ++ [x]).foldl stepC none = stepC (pre.foldl stepC none) x := by rw [List.foldl_append]; rfl
def lastC (m : Option CheckS) : Array Value := match m with
  | none => #[.int .i64 0, .int .i64 0, .int .i64 0, .bool false]
  | some c => #[.int .i64 c.bike, .int .i64 c.kind, .int .i64 c.at_, .bool c.good]
set_option maxRecDepth 100000 in
set_option maxHeartbeats 2000000 in
theorem of37_nil (F : Fence) (n : Nat) (h8 : F.fn 52) (hro : F.round = none) (l B : Nat) (a : Option Addr) (cap : Nat) (J : List CheckS → World → Prop) (W : World)
    (c0 : W.cell? ⟨B, 0, none⟩ = some (.slice a 0 cap)) (h0 : J [] W) (p1 p2 p3 : Option Addr) :
    CallsIn F n Try.prog 52 #[.func (.yield l) #[] #[], .pointer (some ⟨B, 0, none⟩), .pointer p1, .pointer p2, .pointer p3] W fun e W' => (∃ v, e = .returned v) ∧ J [] W' := by
  refine callsIn_of_wp Try.func52 rfl h8 ?_ hro
  simp only [Try.ntmps52, List.size_toArray, List.length_cons, List.length_nil, Nat.reduceAdd, Nat.reduceSub, Array.replicate_succ, Array.replicate_zero, List.push_toArray, List.append_toArray, List.nil_append, List.cons_append]
  gi_wp2
  gi_loopw [10] (fun i wr => i = .int .i64 0 ∧ J [] wr) (fun _ _ => 0)
  case atStart => exact ⟨rfl, h0⟩
  case round =>
    obtain ⟨rfl, hJs⟩ := hrel
    gi_wp2
    go_end0
    exact ⟨⟨_, rfl⟩, hJs⟩
theorem of_stops (F : Fence) (n : Nat) (h8 : F.fn 52) (hro : F.round = none) (hn : 1 ≤ n) (B n₀ : Nat) (a : Option Addr) (cap : Nat) (zs : List CheckS) (b k t : Int) (w : World) (hmx : zs.length ≤ maxLen) (hn₀ : n₀ ≤ w.heap.size) (hBs : B + 4 ≤ w.heap.size)
    (c0 : w.cell? ⟨B, 0, none⟩ = some (.slice a zs.length cap)) (c1 : w.cell? ⟨B + 1, 0, none⟩ = some (.int .i64 b)) (c2 : w.cell? ⟨B + 1 + 1, 0, none⟩ = some (.int .i64 k)) (c3 : w.cell? ⟨B + 1 + 1 + 1, 0, none⟩ = some (.int .i64 t))
    (hc : 0 < zs.length → ∃ s off, a = some ⟨s, off, none⟩ ∧ s < n₀ ∧ ∀ j (h : j < zs.length), w.cell? ⟨s, off + j * 4, none⟩ = some (.int .i64 zs[j].bike) ∧ w.cell? ⟨s, off + j * 4 + 1, none⟩ = some (.int .i64 zs[j].kind) ∧ w.cell? ⟨s, off + j * 4 + 2, none⟩ = some (.int .i64 zs[j].at_) ∧ w.cell? ⟨s, off + j * 4 + 3, none⟩ = some (.bool zs[j].good)) :
    SeqStopsK F n Try.prog 52 #[.pointer (some ⟨B, 0, none⟩), .pointer (some ⟨B + 1, 0, none⟩), .pointer (some ⟨B + 1 + 1, 0, none⟩), .pointer (some ⟨B + 1 + 1 + 1, 0, none⟩)] (fun x : CheckS => #[CKV x]) (KpK n₀ B) (fun ys => ys = zs.filter (matchB b k t)) (fun pre => pre <+: zs.filter (matchB b k t)) zs.length w := fun l J Jx W hW hJ hJx hY h0 => by
  have hsz := hW.size
  have c0' := (hW.cell (p := ⟨B, 0, none⟩) (show B < w.heap.size by omega)).trans c0
  have c1' := (hW.cell (p := ⟨B + 1, 0, none⟩) (show B + 1 < w.heap.size by omega)).trans c1
  have c2' := (hW.cell (p := ⟨B + 1 + 1, 0, none⟩) (show B + 1 + 1 < w.heap.size by omega)).trans c2
  have c3' := (hW.cell (p := ⟨B + 1 + 1 + 1, 0, none⟩) (show B + 1 + 1 + 1 < w.heap.size by omega)).trans c3
  by_cases hz : 0 < zs.length
  · obtain ⟨s, off, rfl, hs, hcs⟩ := hc hz
    refine of37 F n h8 hro hn l B n₀ s off cap zs b k t hs J Jx (fun s W o h => hJ s W _ none h (World.grownBy_alloc W o none) (fun r e => by cases e)) hmx hY W (by omega) (by omega) c0' c1' c2' c3' (fun j h => ?_) h0
    obtain ⟨d0, d1, d2, d3⟩ := hcs j h
    have hs' : s < w.heap.size := by omega
    exact ⟨(hW.cell (p := ⟨s, _, none⟩) hs').trans d0, (hW.cell (p := ⟨s, _, none⟩) hs').trans d1, (hW.cell (p := ⟨s, _, none⟩) hs').trans d2, (hW.cell (p := ⟨s, _, none⟩) hs').trans d3⟩
  · obtain rfl : zs = [] := List.length_eq_zero_iff.1 (by omega)
    exact (of37_nil F n h8 hro l B a cap J W c0' h0 _ _ _).mono fun e W' ⟨he, hj⟩ => ⟨he, .inl ⟨_, rfl, hj⟩⟩
set_option maxRecDepth 100000 in
set_option maxHeartbeats 4000000 in
theorem last16 (F : Fence) (n : Nat) (h16 : F.fn 18) (h29 : F.fn 34) (h37 : F.fn 52) (hro : F.round = none) (hn : 3 ≤ n) (a : Option Addr) (cap : Nat) (zs : List CheckS) (b k t : Int) (w : World) (hmx : zs.length ≤ maxLen)
    (hc : 0 < zs.length → ∃ s off, a = some ⟨s, off, none⟩ ∧ s < w.heap.size ∧ ∀ j (h : j < zs.length), w.cell? ⟨s, off + j * 4, none⟩ = some (.int .i64 zs[j].bike) ∧ w.cell? ⟨s, off + j * 4 + 1, none⟩ = some (.int .i64 zs[j].kind) ∧ w.cell? ⟨s, off + j * 4 + 2, none⟩ = some (.int .i64 zs[j].at_) ∧ w.cell? ⟨s, off + j * 4 + 3, none⟩ = some (.bool zs[j].good)) :
    CallsIn F n Try.prog 18 #[.slice a zs.length cap, .int .i64 b, .int .i64 k, .int .i64 t] w fun e W' => e = .returned (.tuple #[.agg (lastC (lastL zs b k t)), .bool (lastL zs b k t).isSome]) ∧ Below w.heap.size w W' := by
  have h1 : 1 ≤ n := by omega
  refine callsIn_of_wp_marks Try.func18 rfl h16 ?_ hro
  simp only [Try.ntmps18, List.size_toArray, List.length_cons, List.length_nil, Nat.reduceAdd, Nat.reduceSub, Array.replicate_succ, Array.replicate_zero, List.push_toArray, List.append_toArray, List.nil_append, List.cons_append]
  gi_wp2_with (gi_at_call 34; refine (of29 F (n - 1) h29 hro _ _ _ _ _ _ _).mono ?_; rintro e w' ⟨rfl, rfl⟩)
  have hc0 : lastC (([] : List CheckS).foldl stepC none) = #[.int .i64 0, .int .i64 0, .int .i64 0, .bool false] := rfl
  have b8 := (((((((CBox.new w 65 #[.int .i64 0, .int .i64 0, .int .i64 0, .bool false]).alloc (.cells #[.int .i64 0, .int .i64 0, .int .i64 0, .bool false] 65)).alloc (.cells #[.bool false] 4)).alloc (.cells #[.slice a zs.length cap] 61)).alloc (.cells #[.int .i64 b] 3)).alloc (.cells #[.int .i64 k] 3)).alloc (.cells #[.int .i64 t] 3))
  have b10 := ((((((CBox.new (w.alloc (.cells #[.int .i64 0, .int .i64 0, .int .i64 0, .bool false] 65)) 65 #[.int .i64 0, .int .i64 0, .int .i64 0, .bool false]).alloc (.cells #[.bool false] 4)).alloc (.cells #[.slice a zs.length cap] 61)).alloc (.cells #[.int .i64 b] 3)).alloc (.cells #[.int .i64 k] 3)).alloc (.cells #[.int .i64 t] 3))
  have b11 := (((((CBox.new ((w.alloc (.cells #[.int .i64 0, .int .i64 0, .int .i64 0, .bool false] 65)).alloc (.cells #[.int .i64 0, .int .i64 0, .int .i64 0, .bool false] 65)) 4 #[.bool false]).alloc (.cells #[.slice a zs.length cap] 61)).alloc (.cells #[.int .i64 b] 3)).alloc (.cells #[.int .i64 k] 3)).alloc (.cells #[.int .i64 t] 3))
  have x0 := ((((CBox.new (((w.alloc (.cells #[.int .i64 0, .int .i64 0, .int .i64 0, .bool false] 65)).alloc (.cells #[.int .i64 0, .int .i64 0, .int .i64 0, .bool false] 65)).alloc (.cells #[.bool false] 4)) 61 #[.slice a zs.length cap]).alloc (.cells #[.int .i64 b] 3)).alloc (.cells #[.int .i64 k] 3)).alloc (.cells #[.int .i64 t] 3))
  have x1 := (((CBox.new ((((w.alloc (.cells #[.int .i64 0, .int .i64 0, .int .i64 0, .bool false] 65)).alloc (.cells #[.int .i64 0, .int .i64 0, .int .i64 0, .bool false] 65)).alloc (.cells #[.bool false] 4)).alloc (.cells #[.slice a zs.length cap] 61)) 3 #[.int .i64 b]).alloc (.cells #[.int .i64 k] 3)).alloc (.cells #[.int .i64 t] 3))
  have x2 := ((CBox.new (((((w.alloc (.cells #[.int .i64 0, .int .i64 0, .int .i64 0, .bool false] 65)).alloc (.cells #[.int .i64 0, .int .i64 0, .int .i64 0, .bool false] 65)).alloc (.cells #[.bool false] 4)).alloc (.cells #[.slice a zs.length cap] 61)).alloc (.cells #[.int .i64 b] 3)) 3 #[.int .i64 k]).alloc (.cells #[.int .i64 t] 3))
  have x3 := (CBox.new ((((((w.alloc (.cells #[.int .i64 0, .int .i64 0, .int .i64 0, .bool false] 65)).alloc (.cells #[.int .i64 0, .int .i64 0, .int .i64 0, .bool false] 65)).alloc (.cells #[.bool false] 4)).alloc (.cells #[.slice a zs.length cap] 61)).alloc (.cells #[.int .i64 b] 3)).alloc (.cells #[.int .i64 k] 3)) 3 #[.int .i64 t])
  obtain ⟨W0, hW0⟩ : ∃ W0, ((((((w.alloc (.cells #[.int .i64 0, .int .i64 0, .int .i64 0, .bool false] 65)).alloc (.cells #[.int .i64 0, .int .i64 0, .int .i64 0, .bool false] 65)).alloc (.cells #[.bool false] 4)).alloc (.cells #[.slice a zs.length cap] 61)).alloc (.cells #[.int .i64 b] 3)).alloc (.cells #[.int .i64 k] 3)).alloc (.cells #[.int .i64 t] 3) = W0 := ⟨_, rfl⟩
  have hB0 : Below w.heap.size w W0 := by
    rw [← hW0]
    refine Below.alloc ?_ (by simp only [World.size_alloc]; omega) _
    refine Below.alloc ?_ (by simp only [World.size_alloc]; omega) _
    refine Below.alloc ?_ (by simp only [World.size_alloc]; omega) _
    refine Below.alloc ?_ (by simp only [World.size_alloc]; omega) _
    refine Below.alloc ?_ (by simp only [World.size_alloc]; omega) _
    refine Below.alloc ?_ (by simp only [World.size_alloc]; omega) _
    exact (Below.refl _ _).alloc (Nat.le_refl _) _
  have hsz : W0.heap.size = w.heap.size + 7 := by rw [← hW0]; simp only [World.size_alloc]
  simp only [World.size_alloc] at b10 b11 x0 x1 x2 x3
  rw [hW0] at b8 b10 b11 x0 x1 x2 x3 ⊢
  clear hW0
  refine wpIn_rangeFunc_ownH hro h1 (gf := 52) (lb := #[.pointer (some ⟨w.heap.size + 1 + 1 + 1, 0, none⟩), .pointer (some ⟨w.heap.size + 1 + 1 + 1 + 1, 0, none⟩), .pointer (some ⟨w.heap.size + 1 + 1 + 1 + 1 + 1, 0, none⟩), .pointer (some ⟨w.heap.size + 1 + 1 + 1 + 1 + 1 + 1, 0, none⟩)]) rfl h37 (enters_of Try.func52 (by kernel_rfl) rfl)
    (of_stops F (n - 1) h37 hro (by omega) (w.heap.size + 1 + 1 + 1) w.heap.size a cap zs b k t W0 hmx (by omega) (by omega) (x0.cell 0) (x1.cell 0) (x2.cell 0) (x3.cell 0)
      (fun h => by
        obtain ⟨s, off, e1, e2, e3⟩ := hc h
        refine ⟨s, off, e1, e2, fun j hj => ?_⟩
        obtain ⟨d0, d1, d2, d3⟩ := e3 j hj
        exact ⟨(hB0.cell (p := ⟨s, _, none⟩) e2).trans d0, (hB0.cell (p := ⟨s, _, none⟩) e2).trans d1, (hB0.cell (p := ⟨s, _, none⟩) e2).trans d2, (hB0.cell (p := ⟨s, _, none⟩) e2).trans d3⟩))
    KpK.trans (fun W l o o' hl h x y => ⟨belowK_b (w := W0) (by omega) W l o o' hl h x y, fun i h1 h2 => (belowK_b (w := W0) (Nat.le_refl _) W l o o' hl h x y).cell (p := ⟨i, 0, none⟩) (show i < W0.heap.size by omega)⟩) (Below.refl _ _) (fun _ => rfl)
    (fun pre W => ((CBox W w.heap.size 65 #[.int .i64 0, .int .i64 0, .int .i64 0, .bool false] ∧ CBox W (w.heap.size + 1) 65 (lastC (pre.foldl stepC none))) ∧ CBox W (w.heap.size + 1 + 1) 4 #[.bool (pre.foldl stepC none).isSome]) ∧ Below w.heap.size w W ∧ w.heap.size + 7 ≤ W.heap.size)
    (fun _ _ _ => False)
    (OwnFrom.and (OwnFrom.and (OwnFrom.and (Own.from (cbox_own _ _ _) _) (Own.from (cbox_own _ _ _) _)) (Own.from (cbox_own _ _ _) _)) (OwnFrom.and (ownFrom_below (Nat.le_refl _) (by omega)) (fun s X Y row hs hg hr => Nat.le_trans hs hg.size)))
    (fun _ _ _ _ _ hs _ _ => hs)
    ⟨⟨⟨b8, b10⟩, b11⟩, hB0, by omega⟩
    (fun x a' W => ∃ Bx, w.heap.size + 7 ≤ Bx ∧ CBox W Bx 65 #[.int .i64 x.bike, .int .i64 x.kind, .int .i64 x.at_, .bool x.good] ∧ a' = { tmps := #[.slice a zs.length cap, .int .i64 b, .int .i64 k, .int .i64 t, undef, undef, undef, undef, .pointer (some ⟨w.heap.size, 0, none⟩), .bool false, .pointer (some ⟨w.heap.size + 1, 0, none⟩), .pointer (some ⟨w.heap.size + 1 + 1, 0, none⟩), .pointer (some ⟨Bx, 0, none⟩), .slice a zs.length cap, .int .i64 b, .int .i64 k, .int .i64 t, .func (.func 52) #[] #[.pointer (some ⟨w.heap.size + 1 + 1 + 1, 0, none⟩), .pointer (some ⟨w.heap.size + 1 + 1 + 1 + 1, 0, none⟩), .pointer (some ⟨w.heap.size + 1 + 1 + 1 + 1 + 1, 0, none⟩), .pointer (some ⟨w.heap.size + 1 + 1 + 1 + 1 + 1 + 1, 0, none⟩)], CKV x, undef, undef, undef, undef, undef, undef, undef, undef, undef, undef, undef, undef], defers := [] })
    (fun x a' _ X Y row hs hg hr => by obtain ⟨Bx, h1, h2, h3⟩ := hs; exact ⟨Bx, h1, cbox_own Bx 65 (fun (_ : Unit) => #[.int .i64 x.bike, .int .i64 x.kind, .int .i64 x.at_, .bool x.good]) () X Y row h2 hg (fun r e => (hr r e).2), h3⟩)
    ?assign ?body ?done ?stop
  case assign =>
    rintro l pre x W K ⟨⟨⟨g8, g10⟩, g11⟩, hB1, hs1⟩ hK
    unfold CKV
    gi_wp2
    exact hK _ _ ((KeepsOthers.alloc _ _).from _) ((KpK.refl _ _ W).alloc (by omega) (by omega) _) ⟨⟨⟨g8.alloc _, g10.alloc _⟩, g11.alloc _⟩, hB1.alloc hB1.size _, by simp only [World.size_alloc]; omega⟩ ⟨W.heap.size, hs1, CBox.new W 65 _, rfl⟩
  case body =>
    rintro l pre x a' W hl ⟨r, hr⟩ ⟨⟨⟨g8, g10⟩, g11⟩, hB1, hs1⟩ ⟨Bx, hBx, bX, rfl⟩ hlt
    have y0 : W.cell? ⟨Bx, 0, none⟩ = some (.int .i64 x.bike) := bX.cell 0
    have y1 : W.cell? ⟨Bx, 1, none⟩ = some (.int .i64 x.kind) := bX.cell 1
    have y2 : W.cell? ⟨Bx, 2, none⟩ = some (.int .i64 x.at_) := bX.cell 2
    have y3 : W.cell? ⟨Bx, 3, none⟩ = some (.bool x.good) := bX.cell 3
    have f0 : W.frozen? ⟨w.heap.size + 1, 0, none⟩ = false := g10.frozen 0
    have f1 : W.frozen? ⟨w.heap.size + 1, 1, none⟩ = false := g10.frozen 1
    have f2 : W.frozen? ⟨w.heap.size + 1, 2, none⟩ = false := g10.frozen 2
    have f3 : W.frozen? ⟨w.heap.size + 1, 3, none⟩ = false := g10.frozen 3
    have v1 : W.frozen? ⟨w.heap.size + 1 + 1, 0, none⟩ = false := g11.frozen 0
    have hlx := bX.lt
    have hst := stepC_snoc pre x
    generalize pre.foldl stepC none = m at *
    cases m with
    | none =>
      have z0 : W.cell? ⟨w.heap.size + 1, 0, none⟩ = some (.int .i64 0) := g10.cell 0
      have z1 : W.cell? ⟨w.heap.size + 1, 1, none⟩ = some (.int .i64 0) := g10.cell 1
      have z2 : W.cell? ⟨w.heap.size + 1, 2, none⟩ = some (.int .i64 0) := g10.cell 2
      have z3 : W.cell? ⟨w.heap.size + 1, 3, none⟩ = some (.bool false) := g10.cell 3
      have v0 : W.cell? ⟨w.heap.size + 1 + 1, 0, none⟩ = some (.bool false) := g11.cell 0
      gi_wp2
      change ownPostG _ _ _ _ _ _ _ _ (updW W (w.heap.size + 1) (w.heap.size + 1 + 1) x)
      have hk : KpK w.heap.size (w.heap.size + 1 + 1 + 1) W (updW W (w.heap.size + 1) (w.heap.size + 1 + 1) x) := updW_4 (by omega) (by omega) (by omega) (by omega)
      refine ⟨updW_5.from _, hk, ⟨⟨updW_3 g8 (by omega) (by omega), ?_⟩, ?_⟩, hB1.trans hk.1, Nat.le_trans hs1 hk.1.size⟩
      · rw [hst]; exact updW_1 g10 (by omega)
      · rw [hst]; exact updW_2 g11 (by omega)
    | some c =>
      have z0 : W.cell? ⟨w.heap.size + 1, 0, none⟩ = some (.int .i64 c.bike) := g10.cell 0
      have z1 : W.cell? ⟨w.heap.size + 1, 1, none⟩ = some (.int .i64 c.kind) := g10.cell 1
      have z2 : W.cell? ⟨w.heap.size + 1, 2, none⟩ = some (.int .i64 c.at_) := g10.cell 2
      have z3 : W.cell? ⟨w.heap.size + 1, 3, none⟩ = some (.bool c.good) := g10.cell 3
      have v0 : W.cell? ⟨w.heap.size + 1 + 1, 0, none⟩ = some (.bool true) := g11.cell 0
      by_cases hlt2 : c.at_ < x.at_
      · have est : stepC (some c) x = some x := by unfold stepC; simp only [decide_eq_true_eq]; rw [if_pos hlt2]
        gi_wp2
        change ownPostG _ _ _ _ _ _ _ _ (updW W (w.heap.size + 1) (w.heap.size + 1 + 1) x)
        have hk : KpK w.heap.size (w.heap.size + 1 + 1 + 1) W (updW W (w.heap.size + 1) (w.heap.size + 1 + 1) x) := updW_4 (by omega) (by omega) (by omega) (by omega)
        refine ⟨updW_5.from _, hk, ⟨⟨updW_3 g8 (by omega) (by omega), ?_⟩, ?_⟩, hB1.trans hk.1, Nat.le_trans hs1 hk.1.size⟩
        · rw [hst, est]; exact updW_1 g10 (by omega)
        · rw [hst, est]; exact updW_2 g11 (by omega)
      · have est : stepC (some c) x = some c := by unfold stepC; simp only [decide_eq_true_eq]; rw [if_neg hlt2]
        gi_wp2
        exact ⟨(KeepsOthers.refl _).from _, KpK.refl _ _ _, ⟨⟨g8, by rw [hst, est]; exact g10⟩, by rw [hst, est]; exact g11⟩, hB1, hs1⟩
  case done =>
    rintro D zs' W hD rfl ⟨⟨⟨g8, g10⟩, g11⟩, hB1, hs1⟩ hK
    have hz : lastL zs b k t = (zs.filter (matchB b k t)).foldl stepC none := fold_filter b k t zs none
    rw [← hz] at g10 g11
    clear hz
    obtain ⟨mb, hmb⟩ : ∃ mb, (lastL zs b k t).isSome = mb := ⟨_, rfl⟩
    rw [hmb] at g11
    have u0 : W.frozen? ⟨w.heap.size, 0, none⟩ = false := g8.frozen 0
    have u5 : W.frozen? ⟨w.heap.size, 1, none⟩ = false := g8.frozen 1
    have u6 : W.frozen? ⟨w.heap.size, 2, none⟩ = false := g8.frozen 2
    have u7 : W.frozen? ⟨w.heap.size, 3, none⟩ = false := g8.frozen 3
    have t0 : W.cell? ⟨w.heap.size, 0, none⟩ = some (.int .i64 0) := g8.cell 0
    have t1 : W.cell? ⟨w.heap.size, 1, none⟩ = some (.int .i64 0) := g8.cell 1
    have t2 : W.cell? ⟨w.heap.size, 2, none⟩ = some (.int .i64 0) := g8.cell 2
    have t3 : W.cell? ⟨w.heap.size, 3, none⟩ = some (.bool false) := g8.cell 3
    have v0 : W.cell? ⟨w.heap.size + 1 + 1, 0, none⟩ = some (.bool mb) := g11.cell 0
    obtain ⟨c, hcm⟩ : ∃ c : CheckS, lastC (lastL zs b k t) = #[.int .i64 c.bike, .int .i64 c.kind, .int .i64 c.at_, .bool c.good] := by
      cases lastL zs b k t with
      | none => exact ⟨⟨0, 0, 0, false⟩, rfl⟩
      | some c => exact ⟨c, rfl⟩
    rw [hcm] at g10
    have z0 : W.cell? ⟨w.heap.size + 1, 0, none⟩ = some (.int .i64 c.bike) := g10.cell 0
    have z1 : W.cell? ⟨w.heap.size + 1, 1, none⟩ = some (.int .i64 c.kind) := g10.cell 1
    have z2 : W.cell? ⟨w.heap.size + 1, 2, none⟩ = some (.int .i64 c.at_) := g10.cell 2
    have z3 : W.cell? ⟨w.heap.size + 1, 3, none⟩ = some (.bool c.good) := g10.cell 3
    gi_wp2
    have b9 : CBox ((((W.setCell ⟨w.heap.size, 0, none⟩ (.int .i64 c.bike)).setCell ⟨w.heap.size, 1, none⟩ (.int .i64 c.kind)).setCell ⟨w.heap.size, 2, none⟩ (.int .i64 c.at_)).setCell ⟨w.heap.size, 3, none⟩ (.bool c.good)).drew w.heap.size 65 #[.int .i64 c.bike, .int .i64 c.kind, .int .i64 c.at_, .bool c.good] := (((g8.set 0 _).set 1 _).set 2 _).set 3 _
    have hB9 : Below w.heap.size w ((((W.setCell ⟨w.heap.size, 0, none⟩ (.int .i64 c.bike)).setCell ⟨w.heap.size, 1, none⟩ (.int .i64 c.kind)).setCell ⟨w.heap.size, 2, none⟩ (.int .i64 c.at_)).setCell ⟨w.heap.size, 3, none⟩ (.bool c.good)).drew := ((((hB1.setCell (p := ⟨w.heap.size, 0, none⟩) (Nat.le_refl _) _).setCell (p := ⟨w.heap.size, 1, none⟩) (Nat.le_refl _) _).setCell (p := ⟨w.heap.size, 2, none⟩) (Nat.le_refl _) _).setCell (p := ⟨w.heap.size, 3, none⟩) (Nat.le_refl _) _).drew
    have hK9 : ((((W.setCell ⟨w.heap.size, 0, none⟩ (.int .i64 c.bike)).setCell ⟨w.heap.size, 1, none⟩ (.int .i64 c.kind)).setCell ⟨w.heap.size, 2, none⟩ (.int .i64 c.at_)).setCell ⟨w.heap.size, 3, none⟩ (.bool c.good)).drew.heap[D]? = some (.deferred (some [])) := ((((KeepsOthers.setCell _ _ _).trans (KeepsOthers.setCell _ _ _)).trans (KeepsOthers.setCell _ _ _)).trans (KeepsOthers.setCell _ _ _)).same D _ hK rfl
    gi_region
    all_goals gi_wp2
    all_goals (
      refine ⟨by simp, .inl ⟨_, _, rfl, run_takeDeferred hK9, ?_⟩⟩
      obtain ⟨W9, hW9⟩ : ∃ W9, ((((W.setCell ⟨w.heap.size, 0, none⟩ (.int .i64 c.bike)).setCell ⟨w.heap.size, 1, none⟩ (.int .i64 c.kind)).setCell ⟨w.heap.size, 2, none⟩ (.int .i64 c.at_)).setCell ⟨w.heap.size, 3, none⟩ (.bool c.good)).drew = W9 := ⟨_, rfl⟩
      rw [hW9] at b9 hB9 hK9 ⊢
      clear hW9
      have c0 := cell_kept (b9.cell 0) (grownBy_putObj' _ D (.deferred none)) (fun r e => by cases e; exact ⟨_, hK9, rfl⟩)
      have c1 := cell_kept (b9.cell 1) (grownBy_putObj' _ D (.deferred none)) (fun r e => by cases e; exact ⟨_, hK9, rfl⟩)
      have c2 := cell_kept (b9.cell 2) (grownBy_putObj' _ D (.deferred none)) (fun r e => by cases e; exact ⟨_, hK9, rfl⟩)
      have c3 := cell_kept (b9.cell 3) (grownBy_putObj' _ D (.deferred none)) (fun r e => by cases e; exact ⟨_, hK9, rfl⟩)
      refine ⟨.tuple #[.agg #[.int .i64 c.bike, .int .i64 c.kind, .int .i64 c.at_, .bool c.good], .bool mb], ?_, by rw [hcm, hmb], hB9.trans (belowK_b (w := w) (Nat.le_refl _) _ D _ _ (by omega) hK9 rfl rfl)⟩
      simp [results, Try.f18, go_sem, c0, c1, c2, c3])
  case stop =>
    rintro D c pre W _ _ h _
    exact h.elim


end Go.Proofs.Ythgnbkcopapbmaa
