/-
  Parse, walked.
-/
import Derived.Test.YtjnfldkcbcfboaaGreatDoorFe
namespace Go.Proofs.YtjnfldkcbcfboaaGreatDoor
open Go.RowKit
open Nat (reduceAdd reduceEqDiff reduceLT reduceLeDiff reduceSub reducePow reduceMul)
open Int (reduceToNat reduceLE reduceEq)
set_option linter.unusedVariables false
set_option linter.unusedSimpArgs false
set_option linter.unnecessarySimpa false


def relZ : RelS := ⟨⟨0, 0⟩, 0, ⟨0, 0, []⟩, [], [], [], ⟨[]⟩⟩
def parseB (l : List (List UInt8)) : Bool := readOk l && decide (checkR (readR l) = 0) && decide (linesX (readR l) = l)
def parseP (l : List (List UInt8)) : PV := if parseB l = true then .tup [(readR l).pv, intP 0] else .tup [relZ.pv, intP 3]
set_option maxRecDepth 100000 in
set_option maxHeartbeats 4000000 in
theorem parse_dead {R : Ending → World → Prop} {b c B : Nat} {T : Array Value} {W : World} {tb tc : TypeId} {x0 x1 x2 x3 x4 x5 x6 x7 x8 x9 y : Value} (hb : W.heap[b]? = some (.cells #[x0, x1, x2, x3, x4, x5, x6, x7, x8, x9] tb (0, 0))) (hc : W.heap[c]? = some (.cells #[y] tc (0, 0))) (hbc : b ≠ c) (hB : B ≤ b) (hB2 : B ≤ c) (hT2 : T.getD 2 undef = .pointer (some ⟨b, 0, none⟩)) (hT3 : T.getD 3 undef = .pointer (some ⟨c, 0, none⟩))
    (h : ∀ w', Below B W w' → R (.returned (.tuple #[.agg #[.int .i64 0, .int .i64 0, .int .i64 0, .int .i64 0, .int .i64 0, .slice none 0 0, .slice none 0 0, .slice none 0 0, .slice none 0 0, .slice none 0 0], .int .i64 3])) w') : bodyPostD Tryz.prog Tryz.f6 R (.panic mal) { tmps := T, defers := [{ target := .fn (.func 12) #[.pointer (some ⟨b, 0, none⟩), .pointer (some ⟨c, 0, none⟩)], args := #[] }] } W := by
  have lb : b < W.heap.size := (Array.getElem?_eq_some_iff.1 hb).1
  refine leaves_cons (f := 12) (args := #[.pointer (some ⟨b, 0, none⟩), .pointer (some ⟨c, 0, none⟩)]) (by simp) (by simp [go_sem]) ?_
  refine (catch_panic b c W x0 x1 x2 x3 x4 x5 x6 x7 x8 x9 y tb tc hb hc hbc).mono ?_
  rintro e u' w'' ⟨rfl, rfl, hbel, k0, k1, k2, k3, k4, k5, k6, k7, k8, k9, ky⟩
  refine ⟨_, ?_, h w'' (hbel B hB hB2 (by omega))⟩
  rw [Array.getD_eq_getD_getElem?] at hT2 hT3
  simp [results, Tryz.results6, go_sem, hT2, hT3, k0, k1, k2, k3, k4, k5, k6, k7, k8, k9, ky]
set_option maxRecDepth 100000 in
set_option maxHeartbeats 4000000 in
theorem parse_done {R : Ending → World → Prop} {b c : Nat} {T : Array Value} {W : World} {x0 x1 x2 x3 x4 x5 x6 x7 x8 x9 y : Value} (k0 : W.cell? ⟨b, 0, none⟩ = some x0) (k1 : W.cell? ⟨b, 1, none⟩ = some x1) (k2 : W.cell? ⟨b, 2, none⟩ = some x2) (k3 : W.cell? ⟨b, 3, none⟩ = some x3) (k4 : W.cell? ⟨b, 4, none⟩ = some x4) (k5 : W.cell? ⟨b, 5, none⟩ = some x5) (k6 : W.cell? ⟨b, 6, none⟩ = some x6) (k7 : W.cell? ⟨b, 7, none⟩ = some x7) (k8 : W.cell? ⟨b, 8, none⟩ = some x8) (k9 : W.cell? ⟨b, 9, none⟩ = some x9) (ky : W.cell? ⟨c, 0, none⟩ = some y) (hT2 : T.getD 2 undef = .pointer (some ⟨b, 0, none⟩)) (hT3 : T.getD 3 undef = .pointer (some ⟨c, 0, none⟩))
    (h : R (.returned (.tuple #[.agg #[x0, x1, x2, x3, x4, x5, x6, x7, x8, x9], y])) W) : bodyPostD Tryz.prog Tryz.f6 R .ret { tmps := T, defers := [{ target := .fn (.func 12) #[.pointer (some ⟨b, 0, none⟩), .pointer (some ⟨c, 0, none⟩)], args := #[] }] } W := by
  refine leaves_cons (f := 12) (args := #[.pointer (some ⟨b, 0, none⟩), .pointer (some ⟨c, 0, none⟩)]) (by simp) (by simp [go_sem]) ?_
  refine (catch_idle ⟨b, 0, none⟩ ⟨c, 0, none⟩ W).mono ?_
  rintro e u' w'' ⟨rfl, rfl, rfl⟩
  refine ⟨_, ?_, h⟩
  rw [Array.getD_eq_getD_getElem?] at hT2 hT3
  simp [results, Tryz.results6, go_sem, hT2, hT3, k0, k1, k2, k3, k4, k5, k6, k7, k8, k9, ky]
theorem rep_below {M : Nat → Prop} {w w' : World} {p : PV} {v : Value} (hb : Below w.heap.size w w') (h : RepI M w p v) : RepI M w' p v :=
  h.mono (M := M) ⟨hb.size, fun k hk _ => hb.block k hk⟩ (fun _ _ h => h)
theorem glob_below {w w' : World} (hb : Below w.heap.size w w') (h : GlobW w w.heap.size) : GlobW w' w'.heap.size := fun g hg => by
  obtain ⟨h1, b, h2, h3⟩ := h g hg
  exact ⟨Nat.lt_of_lt_of_le h1 hb.size, b, (hb.block _ h1).trans h2, h3⟩
theorem rep_zero (M : Nat → Prop) (w : World) : RepI M w (.tup [relZ.pv, intP 3]) (.tuple #[.agg #[.int .i64 0, .int .i64 0, .int .i64 0, .int .i64 0, .int .i64 0, .slice none 0 0, .slice none 0 0, .slice none 0 0, .slice none 0 0, .slice none 0 0], .int .i64 3]) := by
  refine tup_pw.2 ⟨_, rfl, pw_cons.2 ⟨_, _, rfl, ?_, pw_cons.2 ⟨_, _, rfl, .sc _ rfl, pw_nil.2 rfl⟩⟩⟩
  refine agg_pw.2 ⟨_, rfl, ?_⟩
  have e : ∀ v : Value, RepI M w (.sc v) v ↔ rngB v = true := fun v => ⟨fun h => h.sc_rng, fun h => .sc _ h⟩
  have nl : RepI M w (.sl []) (.slice none 0 0) := .slE none 0 (Nat.zero_le _) (fun _ => rfl)
  have n0 : RepI M w (.sc (.int .i64 0)) (.int .i64 0) := .sc _ rfl
  exact pw_cons.2 ⟨_, _, rfl, n0, pw_cons.2 ⟨_, _, rfl, n0, pw_cons.2 ⟨_, _, rfl, n0, pw_cons.2 ⟨_, _, rfl, n0, pw_cons.2 ⟨_, _, rfl, n0, pw_cons.2 ⟨_, _, rfl, nl, pw_cons.2 ⟨_, _, rfl, nl, pw_cons.2 ⟨_, _, rfl, nl, pw_cons.2 ⟨_, _, rfl, nl, pw_cons.2 ⟨_, _, rfl, nl, pw_nil.2 rfl⟩⟩⟩⟩⟩⟩⟩⟩⟩⟩
theorem kp_set {N : Nat → Prop} {w w' : World} {a : Addr} {v : Value} (h : Kp N w w') (hN : N a.block) : Kp N w (w'.setCell a v) := by
  refine ⟨by have := h.size; simpa using this, fun k hk hn => ?_⟩
  rw [← h.block k hk hn]
  have e : a.block ≠ k := fun e => hn (e ▸ hN)
  simp only [World.setCell, Array.getElem?_modify]
  rw [if_neg e]
theorem sl_val {M : Nat → Prop} {w : World} {es : List PV} {v : Value} (h : RepI M w (.sl es) v) : ∃ a m d, v = .slice a m d := by
  cases h with
  | slE a c => exact ⟨_, _, _, rfl⟩
  | sl _ b o c sz vs => exact ⟨_, _, _, rfl⟩
theorem rel_vals {M : Nat → Prop} {w : World} {r : RelS} {v : Value} (h : RepI M w r.pv v) : ∃ (n0 n1 n2 n3 n4 : Int) (a5 : Option Addr) (m5 d5 : Nat) (a6 : Option Addr) (m6 d6 : Nat) (a7 : Option Addr) (m7 d7 : Nat) (a8 : Option Addr) (m8 d8 : Nat) (a9 : Option Addr) (m9 d9 : Nat), v = .agg #[.int .i64 n0, .int .i64 n1, .int .i64 n2, .int .i64 n3, .int .i64 n4, .slice a5 m5 d5, .slice a6 m6 d6, .slice a7 m7 d7, .slice a8 m8 d8, .slice a9 m9 d9] := by
  obtain ⟨us, rfl, hu⟩ := agg_pw.1 h
  obtain ⟨x0, us, rfl, r0, hu0⟩ := pw_cons.1 hu
  obtain ⟨x1, us, rfl, r1, hu1⟩ := pw_cons.1 hu0
  obtain ⟨x2, us, rfl, r2, hu2⟩ := pw_cons.1 hu1
  obtain ⟨x3, us, rfl, r3, hu3⟩ := pw_cons.1 hu2
  obtain ⟨x4, us, rfl, r4, hu4⟩ := pw_cons.1 hu3
  obtain ⟨x5, us, rfl, r5, hu5⟩ := pw_cons.1 hu4
  obtain ⟨x6, us, rfl, r6, hu6⟩ := pw_cons.1 hu5
  obtain ⟨x7, us, rfl, r7, hu7⟩ := pw_cons.1 hu6
  obtain ⟨x8, us, rfl, r8, hu8⟩ := pw_cons.1 hu7
  obtain ⟨x9, us, rfl, r9, hu9⟩ := pw_cons.1 hu8
  have e0 := r0.sc_inv; subst e0
  have e1 := r1.sc_inv; subst e1
  have e2 := r2.sc_inv; subst e2
  have e3 := r3.sc_inv; subst e3
  have e4 := r4.sc_inv; subst e4
  obtain ⟨a5, m5, d5, rfl⟩ := sl_val r5
  obtain ⟨a6, m6, d6, rfl⟩ := sl_val r6
  obtain ⟨a7, m7, d7, rfl⟩ := sl_val r7
  obtain ⟨a8, m8, d8, rfl⟩ := sl_val r8
  obtain ⟨a9, m9, d9, rfl⟩ := sl_val r9
  obtain rfl := pw_nil.1 hu9
  exact ⟨_, _, _, _, _, _, _, _, _, _, _, _, _, _, _, _, _, _, _, _, rfl⟩
set_option maxRecDepth 100000 in
set_option maxHeartbeats 8000000 in
theorem parse_g (l : List (List UInt8)) (hl : l.length ≤ 1000) (hs : ∀ s ∈ l, s.length ≤ 10000) : Good Tryz.prog 6 [.sl (l.map txP)] (parseP l) := by
  intro M w vs hM hp hG
  obtain ⟨V, vs1, rfl, h1, hp⟩ := pw_cons.1 hp
  rw [pw_nil] at hp; subst hp
  have hmf : ∀ (fn : Fn) (first cap : Array Value) (w : World), (Instr.makeFunc fn first cap).run Tryz.prog w = .ok (.func fn first cap) w := fun _ _ _ _ => rfl
  go_enter_defers Tryz.func6, Tryz.ntmps6
  go_wp2_with fail
  generalize hW0 : (w.alloc (Obj.cells #[.int .i64 0, .int .i64 0, .int .i64 0, .int .i64 0, .int .i64 0, .slice none 0 0, .slice none 0 0, .slice none 0 0, .slice none 0 0, .slice none 0 0] 34)).alloc (Obj.cells #[.int .i64 0] 35) = W0
  have s0 : W0.heap.size = w.heap.size + 2 := by rw [← hW0]; simp
  have b0 : W0.heap[w.heap.size]? = some (.cells #[.int .i64 0, .int .i64 0, .int .i64 0, .int .i64 0, .int .i64 0, .slice none 0 0, .slice none 0 0, .slice none 0 0, .slice none 0 0, .slice none 0 0] 34 (0, 0)) := by rw [← hW0]; exact ((MapKept.heap_alloc _ _).2 _ (by simp)).trans (MapKept.heap_alloc _ _).1
  have c0 : W0.heap[w.heap.size + 1]? = some (.cells #[.int .i64 0] 35 (0, 0)) := by rw [← hW0]; have := (MapKept.heap_alloc (w.alloc (Obj.cells #[.int .i64 0, .int .i64 0, .int .i64 0, .int .i64 0, .int .i64 0, .slice none 0 0, .slice none 0 0, .slice none 0 0, .slice none 0 0, .slice none 0 0] 34)) (Obj.cells #[.int .i64 0] 35)).1; simpa using this
  have B0 : Below w.heap.size w W0 := by rw [← hW0]; exact ((Below.refl _ _).alloc (Nat.le_refl _) _).alloc (by simp) _
  clear hW0
  obtain ⟨MX, hMX⟩ : ∃ X : Nat → Prop, X = fun k => M k ∨ k = w.heap.size ∨ k = w.heap.size + 1 := ⟨_, rfl⟩
  have hM0 : ∀ W : World, w.heap.size + 2 ≤ W.heap.size → ∀ k, MX k → k < W.heap.size := fun W hb k hk => by
    rw [hMX] at hk
    rcases hk with hk | hk | hk
    · have := hM k hk; omega
    · omega
    · omega
  have h10 : RepI MX W0 (.sl (l.map txP)) V := h1.mono (M := M) ⟨B0.size, fun k hk _ => B0.block k hk⟩ (fun k hk hh => by
    rw [hMX] at hh
    rcases hh with hh | hh | hh
    · exact hh
    · omega
    · omega)
  have hrd := read_g l hl hs MX W0 [V] (hM0 _ (by omega)) (pw_cons.2 ⟨_, _, rfl, h10, pw_nil.2 rfl⟩) (glob_below B0 hG)
  unfold readO at hrd
  cases hro : readOk l
  · rw [hro] at hrd
    have hpp : parseP l = .tup [relZ.pv, intP 3] := by unfold parseP parseB; rw [hro]; rfl
    refine hrd.mono ?_
    rintro e w1 ⟨hb1, he⟩
    have he : e = .panicked mal := he
    subst he
    refine parse_dead (B := w.heap.size) ((hb1.block _ (by omega)).trans b0) ((hb1.block _ (by omega)).trans c0) (by omega) (Nat.le_refl _) (by omega) rfl rfl (fun w' hbel => ⟨_, rfl, (B0.trans (hb1.mono (by omega))).trans hbel, ?_⟩)
    rw [hpp]; exact rep_zero M w'
  rw [hro, if_pos rfl] at hrd
  refine hrd.mono ?_
  rintro e w1 ⟨hb1, v1, rfl, hr1⟩
  clear hrd
  obtain ⟨n0, n1, n2, n3, n4, a5, m5, d5, a6, m6, d6, a7, m7, d7, a8, m8, d8, a9, m9, d9, rfl⟩ := rel_vals hr1
  have B1 : Below w.heap.size w w1 := B0.trans (hb1.mono (by omega))
  have b1 : w1.heap[w.heap.size]? = some (.cells #[.int .i64 0, .int .i64 0, .int .i64 0, .int .i64 0, .int .i64 0, .slice none 0 0, .slice none 0 0, .slice none 0 0, .slice none 0 0, .slice none 0 0] 34 (0, 0)) := (hb1.block _ (by omega)).trans b0
  have c1 : w1.heap[w.heap.size + 1]? = some (.cells #[.int .i64 0] 35 (0, 0)) := (hb1.block _ (by omega)).trans c0
  have s1 : w.heap.size + 2 ≤ w1.heap.size := by have := hb1.size; omega
  have h11 := rep_below hb1 h10
  clear hb1 b0 c0 B0 s0
  have HB1 := hide B1; have Hb1 := hide b1; have Hc1 := hide c1; have Hs1 := hide s1; have HM := hide hM0; have Hr1 := hide hr1; have HG := hide hG; have H1 := hide h11; have HX := hide hMX; have HM1 := hide hM
  clear B1 b1 c1 s1 hM0 hr1 hG h1 h10 h11 hM hMX
  go_wp2_with fail
  generalize hW2 : w1.alloc (Obj.cells #[.int .i64 n0, .int .i64 n1, .int .i64 n2, .int .i64 n3, .int .i64 n4, .slice a5 m5 d5, .slice a6 m6 d6, .slice a7 m7 d7, .slice a8 m8 d8, .slice a9 m9 d9] 34) = W2
  have s2 : W2.heap.size = w1.heap.size + 1 := by rw [← hW2]; simp
  have k0 : W2.cell? ⟨w1.heap.size, 0, none⟩ = some (.int .i64 n0) := by rw [← hW2]; exact (World.cell?_alloc_at _ _ _ _ rfl)
  have k1 : W2.cell? ⟨w1.heap.size, 1, none⟩ = some (.int .i64 n1) := by rw [← hW2]; exact (World.cell?_alloc_at _ _ _ _ rfl)
  have k2 : W2.cell? ⟨w1.heap.size, 2, none⟩ = some (.int .i64 n2) := by rw [← hW2]; exact (World.cell?_alloc_at _ _ _ _ rfl)
  have k3 : W2.cell? ⟨w1.heap.size, 3, none⟩ = some (.int .i64 n3) := by rw [← hW2]; exact (World.cell?_alloc_at _ _ _ _ rfl)
  have k4 : W2.cell? ⟨w1.heap.size, 4, none⟩ = some (.int .i64 n4) := by rw [← hW2]; exact (World.cell?_alloc_at _ _ _ _ rfl)
  have k5 : W2.cell? ⟨w1.heap.size, 5, none⟩ = some (.slice a5 m5 d5) := by rw [← hW2]; exact (World.cell?_alloc_at _ _ _ _ rfl)
  have k6 : W2.cell? ⟨w1.heap.size, 6, none⟩ = some (.slice a6 m6 d6) := by rw [← hW2]; exact (World.cell?_alloc_at _ _ _ _ rfl)
  have k7 : W2.cell? ⟨w1.heap.size, 7, none⟩ = some (.slice a7 m7 d7) := by rw [← hW2]; exact (World.cell?_alloc_at _ _ _ _ rfl)
  have k8 : W2.cell? ⟨w1.heap.size, 8, none⟩ = some (.slice a8 m8 d8) := by rw [← hW2]; exact (World.cell?_alloc_at _ _ _ _ rfl)
  have k9 : W2.cell? ⟨w1.heap.size, 9, none⟩ = some (.slice a9 m9 d9) := by rw [← hW2]; exact (World.cell?_alloc_at _ _ _ _ rfl)
  have B2 : Below w1.heap.size w1 W2 := by rw [← hW2]; exact (Below.refl _ _).alloc (Nat.le_refl _) _
  clear hW2
  have bl := hidsA_len (noiL l) (colN l) (midL l)
  have hml : (midL l).length ≤ 1000 := by unfold midL; rw [List.length_drop, List.length_take]; omega
  have hrk : headOk l = true := by
    have := hro; unfold readOk at this; simp only [Bool.and_eq_true] at this; exact this.1.1.1.2
  have hcol : colN l ≤ 8 := by
    unfold headOk at hrk; simp only [Bool.and_eq_true] at hrk
    have := inB_iff.1 hrk.1.2; unfold colN; omega
  have bl1 : (readR l).hidden.length ≤ 1000000 := by
    have h8 : (midL l).length * colN l ≤ 1000 * 8 := Nat.mul_le_mul hml hcol
    show (hidsA _ _ _).length ≤ _
    omega
  have bl2 : (readR l).rowSums.length ≤ 1000000 := by
    have := sumsA_len (noiL l) (colN l) (midL l)
    show (sumsA _ _ _).length ≤ _
    omega
  have hll : (lastW l).length ≤ 10000 := by
    unfold lastW
    rw [List.getD_eq_getElem?_getD]
    cases he : l[l.length - 1]? with
    | none => simp
    | some x => exact hs x (List.mem_of_getElem? he)
  have bl3 : (readR l).colSums.length ≤ 1000000 := by
    have h9 : (lastN l).length ≤ 10000 := by unfold lastN; rw [List.length_map]; have := rowW_len (lastW l); omega
    show (if noiL l = true then [] else lastN l).length ≤ _
    split
    · simp
    · omega
  have hld := flines_g (readR l) bl1 bl2 bl3 MX W2 [.agg #[.int .i64 n0, .int .i64 n1, .int .i64 n2, .int .i64 n3, .int .i64 n4, .slice a5 m5 d5, .slice a6 m6 d6, .slice a7 m7 d7, .slice a8 m8 d8, .slice a9 m9 d9]] (HM.out _ (by have := Hs1.out; omega)) (pw_cons.2 ⟨_, _, rfl, rep_below B2 Hr1.out, pw_nil.2 rfl⟩) (glob_below (HB1.out.trans (B2.mono (by have := Hs1.out; omega))) HG.out)
  refine hld.mono ?_
  rintro e w3 ⟨v3, rfl, hb3, hr3⟩
  clear hld
  have hs1 := Hs1.out
  have B3 : Below w.heap.size w w3 := HB1.out.trans ((B2.mono (by omega)).trans (hb3.mono (by omega)))
  have b3 : w3.heap[w.heap.size]? = some (.cells #[.int .i64 0, .int .i64 0, .int .i64 0, .int .i64 0, .int .i64 0, .slice none 0 0, .slice none 0 0, .slice none 0 0, .slice none 0 0, .slice none 0 0] 34 (0, 0)) := (hb3.block _ (by omega)).trans ((B2.block _ (by omega)).trans Hb1.out)
  have c3 : w3.heap[w.heap.size + 1]? = some (.cells #[.int .i64 0] 35 (0, 0)) := (hb3.block _ (by omega)).trans ((B2.block _ (by omega)).trans Hc1.out)
  have s3 : w1.heap.size + 1 ≤ w3.heap.size := by have := hb3.size; omega
  have l0 : w3.cell? ⟨w1.heap.size, 0, none⟩ = some (.int .i64 n0) := ((bcell hb3).1 _ _ (by omega)).trans k0
  have l1 : w3.cell? ⟨w1.heap.size, 1, none⟩ = some (.int .i64 n1) := ((bcell hb3).1 _ _ (by omega)).trans k1
  have l2 : w3.cell? ⟨w1.heap.size, 2, none⟩ = some (.int .i64 n2) := ((bcell hb3).1 _ _ (by omega)).trans k2
  have l3 : w3.cell? ⟨w1.heap.size, 3, none⟩ = some (.int .i64 n3) := ((bcell hb3).1 _ _ (by omega)).trans k3
  have l4 : w3.cell? ⟨w1.heap.size, 4, none⟩ = some (.int .i64 n4) := ((bcell hb3).1 _ _ (by omega)).trans k4
  have l5 : w3.cell? ⟨w1.heap.size, 5, none⟩ = some (.slice a5 m5 d5) := ((bcell hb3).1 _ _ (by omega)).trans k5
  have l6 : w3.cell? ⟨w1.heap.size, 6, none⟩ = some (.slice a6 m6 d6) := ((bcell hb3).1 _ _ (by omega)).trans k6
  have l7 : w3.cell? ⟨w1.heap.size, 7, none⟩ = some (.slice a7 m7 d7) := ((bcell hb3).1 _ _ (by omega)).trans k7
  have l8 : w3.cell? ⟨w1.heap.size, 8, none⟩ = some (.slice a8 m8 d8) := ((bcell hb3).1 _ _ (by omega)).trans k8
  have l9 : w3.cell? ⟨w1.heap.size, 9, none⟩ = some (.slice a9 m9 d9) := ((bcell hb3).1 _ _ (by omega)).trans k9
  have hr1 : RepI MX w3 (readR l).pv (.agg #[.int .i64 n0, .int .i64 n1, .int .i64 n2, .int .i64 n3, .int .i64 n4, .slice a5 m5 d5, .slice a6 m6 d6, .slice a7 m7 d7, .slice a8 m8 d8, .slice a9 m9 d9]) := rep_below hb3 (rep_below B2 Hr1.out)
  have h13 := rep_below hb3 (rep_below B2 H1.out)
  clear hb3 B2 s2 k0 k1 k2 k3 k4 k5 k6 k7 k8 k9
  obtain ⟨ce, hce⟩ : ∃ c, checkR (readR l) = c := ⟨_, rfl⟩
  by_cases hz : ce = 0
  rotate_left
  · have hpb : parseB l = false := by unfold parseB; rw [hce, decide_eq_false hz, Bool.and_false]; rfl
    rw [show linesP (readR l) = .tup [.sl [], intP ce] by unfold linesP; rw [hce, if_pos hz]] at hr3
    obtain ⟨us, rfl, hu⟩ := tup_pw.1 hr3
    obtain ⟨S, us, rfl, hS, hu2⟩ := pw_cons.1 hu
    obtain ⟨E, us, rfl, hE, hu3⟩ := pw_cons.1 hu2
    obtain rfl := pw_nil.1 hu3
    have hE := hE.sc_inv; subst hE
    clear hr3 hu hu2 hu3
    have hz2 : (ce == 0) = false := beq_eq_false_iff_ne.2 hz
    have hpp : parseP l = .tup [relZ.pv, intP 3] := by unfold parseP; rw [hpb]; rfl
    go_wp2_with fail
    refine (must_no MX w3 [.bool false] (HM.out _ (by omega)) (pw_cons.2 ⟨_, _, rfl, .sc _ rfl, pw_nil.2 rfl⟩) (glob_below B3 HG.out)).mono ?_
    rintro e w9 ⟨hb9, he⟩
    have he : e = .panicked mal := he
    subst he
    refine parse_dead (B := w.heap.size) ((hb9.block _ (by omega)).trans b3) ((hb9.block _ (by omega)).trans c3) (by omega) (Nat.le_refl _) (by omega) rfl rfl (fun w_ hbel => ⟨_, rfl, (B3.trans (hb9.mono (by omega))).trans hbel, ?_⟩)
    rw [hpp]; exact rep_zero M w_
  subst hz
  rw [show linesP (readR l) = .tup [.sl ((linesX (readR l)).map txP), intP 0] by unfold linesP; rw [if_neg (by rw [hce]; decide)]] at hr3
  obtain ⟨us, rfl, hu⟩ := tup_pw.1 hr3
  obtain ⟨S, us, rfl, hS, hu2⟩ := pw_cons.1 hu
  obtain ⟨E, us, rfl, hE, hu3⟩ := pw_cons.1 hu2
  obtain rfl := pw_nil.1 hu3
  have hE := hE.sc_inv; subst hE
  clear hr3 hu hu2 hu3
  go_wp2_with fail
  refine (eqS_g (linesX (readR l)) l MX w3 [S, V] (HM.out _ (by omega)) (pw_cons.2 ⟨_, _, rfl, hS, pw_cons.2 ⟨_, _, rfl, h13, pw_nil.2 rfl⟩⟩) (glob_below B3 HG.out)).mono ?_
  rintro e w5 ⟨v5, rfl, hb5, hr5⟩
  have hv5 := hr5.sc_inv; subst hv5
  clear hr5 hS h13
  have B5 : Below w.heap.size w w5 := B3.trans (hb5.mono (by omega))
  have b5 : w5.heap[w.heap.size]? = some (.cells #[.int .i64 0, .int .i64 0, .int .i64 0, .int .i64 0, .int .i64 0, .slice none 0 0, .slice none 0 0, .slice none 0 0, .slice none 0 0, .slice none 0 0] 34 (0, 0)) := (hb5.block _ (by omega)).trans b3
  have c5 : w5.heap[w.heap.size + 1]? = some (.cells #[.int .i64 0] 35 (0, 0)) := (hb5.block _ (by omega)).trans c3
  have s5 : w1.heap.size + 1 ≤ w5.heap.size := by have := hb5.size; omega
  have p0 : w5.cell? ⟨w1.heap.size, 0, none⟩ = some (.int .i64 n0) := ((bcell hb5).1 _ _ (by omega)).trans l0
  have p1 : w5.cell? ⟨w1.heap.size, 1, none⟩ = some (.int .i64 n1) := ((bcell hb5).1 _ _ (by omega)).trans l1
  have p2 : w5.cell? ⟨w1.heap.size, 2, none⟩ = some (.int .i64 n2) := ((bcell hb5).1 _ _ (by omega)).trans l2
  have p3 : w5.cell? ⟨w1.heap.size, 3, none⟩ = some (.int .i64 n3) := ((bcell hb5).1 _ _ (by omega)).trans l3
  have p4 : w5.cell? ⟨w1.heap.size, 4, none⟩ = some (.int .i64 n4) := ((bcell hb5).1 _ _ (by omega)).trans l4
  have p5 : w5.cell? ⟨w1.heap.size, 5, none⟩ = some (.slice a5 m5 d5) := ((bcell hb5).1 _ _ (by omega)).trans l5
  have p6 : w5.cell? ⟨w1.heap.size, 6, none⟩ = some (.slice a6 m6 d6) := ((bcell hb5).1 _ _ (by omega)).trans l6
  have p7 : w5.cell? ⟨w1.heap.size, 7, none⟩ = some (.slice a7 m7 d7) := ((bcell hb5).1 _ _ (by omega)).trans l7
  have p8 : w5.cell? ⟨w1.heap.size, 8, none⟩ = some (.slice a8 m8 d8) := ((bcell hb5).1 _ _ (by omega)).trans l8
  have p9 : w5.cell? ⟨w1.heap.size, 9, none⟩ = some (.slice a9 m9 d9) := ((bcell hb5).1 _ _ (by omega)).trans l9
  have hr5 : RepI MX w5 (readR l).pv (.agg #[.int .i64 n0, .int .i64 n1, .int .i64 n2, .int .i64 n3, .int .i64 n4, .slice a5 m5 d5, .slice a6 m6 d6, .slice a7 m7 d7, .slice a8 m8 d8, .slice a9 m9 d9]) := rep_below hb5 hr1
  clear hb5 B3 b3 c3 s3 hr1 l0 l1 l2 l3 l4 l5 l6 l7 l8 l9
  by_cases hq : linesX (readR l) = l
  rotate_left
  · have hpb : parseB l = false := by unfold parseB; rw [decide_eq_false hq, Bool.and_false]
    have hq2 : decide (linesX (readR l) = l) = false := decide_eq_false hq
    rw [hq2]
    have hpp : parseP l = .tup [relZ.pv, intP 3] := by unfold parseP; rw [hpb]; rfl
    go_wp2_with fail
    refine (must_no MX w5 [.bool false] (HM.out _ (by omega)) (pw_cons.2 ⟨_, _, rfl, .sc _ rfl, pw_nil.2 rfl⟩) (glob_below B5 HG.out)).mono ?_
    rintro e w9 ⟨hb9, he⟩
    have he : e = .panicked mal := he
    subst he
    refine parse_dead (B := w.heap.size) ((hb9.block _ (by omega)).trans b5) ((hb9.block _ (by omega)).trans c5) (by omega) (Nat.le_refl _) (by omega) rfl rfl (fun w_ hbel => ⟨_, rfl, (B5.trans (hb9.mono (by omega))).trans hbel, ?_⟩)
    rw [hpp]; exact rep_zero M w_
  have hpb : parseB l = true := by unfold parseB; rw [hro, hce, decide_eq_true hq]; rfl
  have hpp : parseP l = .tup [(readR l).pv, intP 0] := by unfold parseP; rw [hpb]; rfl
  rw [decide_eq_true hq]
  go_wp2_with fail
  refine (must_yes MX w5 [.bool true] (HM.out _ (by omega)) (pw_cons.2 ⟨_, _, rfl, .sc _ rfl, pw_nil.2 rfl⟩) (glob_below B5 HG.out)).mono ?_
  rintro e w6 ⟨v6, rfl, hb6, hr6_⟩
  clear hr6_
  have B6 : Below w.heap.size w w6 := B5.trans (hb6.mono (by omega))
  have b6 : w6.heap[w.heap.size]? = some (.cells #[.int .i64 0, .int .i64 0, .int .i64 0, .int .i64 0, .int .i64 0, .slice none 0 0, .slice none 0 0, .slice none 0 0, .slice none 0 0, .slice none 0 0] 34 (0, 0)) := (hb6.block _ (by omega)).trans b5
  have c6 : w6.heap[w.heap.size + 1]? = some (.cells #[.int .i64 0] 35 (0, 0)) := (hb6.block _ (by omega)).trans c5
  have s6 : w1.heap.size + 1 ≤ w6.heap.size := by have := hb6.size; omega
  have q0 : w6.cell? ⟨w1.heap.size, 0, none⟩ = some (.int .i64 n0) := ((bcell hb6).1 _ _ (by omega)).trans p0
  have q1 : w6.cell? ⟨w1.heap.size, 1, none⟩ = some (.int .i64 n1) := ((bcell hb6).1 _ _ (by omega)).trans p1
  have q2 : w6.cell? ⟨w1.heap.size, 2, none⟩ = some (.int .i64 n2) := ((bcell hb6).1 _ _ (by omega)).trans p2
  have q3 : w6.cell? ⟨w1.heap.size, 3, none⟩ = some (.int .i64 n3) := ((bcell hb6).1 _ _ (by omega)).trans p3
  have q4 : w6.cell? ⟨w1.heap.size, 4, none⟩ = some (.int .i64 n4) := ((bcell hb6).1 _ _ (by omega)).trans p4
  have q5 : w6.cell? ⟨w1.heap.size, 5, none⟩ = some (.slice a5 m5 d5) := ((bcell hb6).1 _ _ (by omega)).trans p5
  have q6 : w6.cell? ⟨w1.heap.size, 6, none⟩ = some (.slice a6 m6 d6) := ((bcell hb6).1 _ _ (by omega)).trans p6
  have q7 : w6.cell? ⟨w1.heap.size, 7, none⟩ = some (.slice a7 m7 d7) := ((bcell hb6).1 _ _ (by omega)).trans p7
  have q8 : w6.cell? ⟨w1.heap.size, 8, none⟩ = some (.slice a8 m8 d8) := ((bcell hb6).1 _ _ (by omega)).trans p8
  have q9 : w6.cell? ⟨w1.heap.size, 9, none⟩ = some (.slice a9 m9 d9) := ((bcell hb6).1 _ _ (by omega)).trans p9
  have hr6 : RepI MX w6 (readR l).pv (.agg #[.int .i64 n0, .int .i64 n1, .int .i64 n2, .int .i64 n3, .int .i64 n4, .slice a5 m5 d5, .slice a6 m6 d6, .slice a7 m7 d7, .slice a8 m8 d8, .slice a9 m9 d9]) := rep_below hb6 hr5
  clear hb6 B5 b5 c5 s5 hr5 p0 p1 p2 p3 p4 p5 p6 p7 p8 p9
  have ltw : w.heap.size < w6.heap.size := by omega
  have ltw1 : w.heap.size + 1 < w6.heap.size := by omega
  have ltx : w1.heap.size < w6.heap.size := by omega
  have ne1 : w.heap.size ≠ w1.heap.size := by have := hs1; omega
  have ne2 : w.heap.size + 1 ≠ w1.heap.size := by have := hs1; omega
  have z0 : w6.cell? ⟨w.heap.size, 0, none⟩ = some (.int .i64 0) := by rw [cell_of_row w6 _ 0 _ _ _ b6]; rfl
  have z1 : w6.cell? ⟨w.heap.size, 1, none⟩ = some (.int .i64 0) := by rw [cell_of_row w6 _ 1 _ _ _ b6]; rfl
  have z2 : w6.cell? ⟨w.heap.size, 2, none⟩ = some (.int .i64 0) := by rw [cell_of_row w6 _ 2 _ _ _ b6]; rfl
  have z3 : w6.cell? ⟨w.heap.size, 3, none⟩ = some (.int .i64 0) := by rw [cell_of_row w6 _ 3 _ _ _ b6]; rfl
  have z4 : w6.cell? ⟨w.heap.size, 4, none⟩ = some (.int .i64 0) := by rw [cell_of_row w6 _ 4 _ _ _ b6]; rfl
  have z5 : w6.cell? ⟨w.heap.size, 5, none⟩ = some (.slice none 0 0) := by rw [cell_of_row w6 _ 5 _ _ _ b6]; rfl
  have z6 : w6.cell? ⟨w.heap.size, 6, none⟩ = some (.slice none 0 0) := by rw [cell_of_row w6 _ 6 _ _ _ b6]; rfl
  have z7 : w6.cell? ⟨w.heap.size, 7, none⟩ = some (.slice none 0 0) := by rw [cell_of_row w6 _ 7 _ _ _ b6]; rfl
  have z8 : w6.cell? ⟨w.heap.size, 8, none⟩ = some (.slice none 0 0) := by rw [cell_of_row w6 _ 8 _ _ _ b6]; rfl
  have z9 : w6.cell? ⟨w.heap.size, 9, none⟩ = some (.slice none 0 0) := by rw [cell_of_row w6 _ 9 _ _ _ b6]; rfl
  have zc : w6.cell? ⟨w.heap.size + 1, 0, none⟩ = some (.int .i64 0) := by rw [cell_of_row w6 _ 0 _ _ _ c6]; rfl
  have fb : ∀ j, w6.frozen? ⟨w.heap.size, j, none⟩ = false := fun j => by simp [World.frozen?, b6]
  have fc : w6.frozen? ⟨w.heap.size + 1, 0, none⟩ = false := by simp [World.frozen?, c6]
  have Hb6 := hide b6; have Hc6 := hide c6; have HB6 := hide B6; have Hr6 := hide hr6
  clear b6 c6 B6 hr6
  go_wp2
  refine parse_done (b := w.heap.size) (c := w.heap.size + 1) (x0 := .int .i64 n0) (x1 := .int .i64 n1) (x2 := .int .i64 n2) (x3 := .int .i64 n3) (x4 := .int .i64 n4) (x5 := .slice a5 m5 d5) (x6 := .slice a6 m6 d6) (x7 := .slice a7 m7 d7) (x8 := .slice a8 m8 d8) (x9 := .slice a9 m9 d9) (y := .int .i64 0) (by simp [go_sem, ltw, ltw1, z0, z1, z2, z3, z4, z5, z6, z7, z8, z9, zc]) (by simp [go_sem, ltw, ltw1, z0, z1, z2, z3, z4, z5, z6, z7, z8, z9, zc]) (by simp [go_sem, ltw, ltw1, z0, z1, z2, z3, z4, z5, z6, z7, z8, z9, zc]) (by simp [go_sem, ltw, ltw1, z0, z1, z2, z3, z4, z5, z6, z7, z8, z9, zc]) (by simp [go_sem, ltw, ltw1, z0, z1, z2, z3, z4, z5, z6, z7, z8, z9, zc]) (by simp [go_sem, ltw, ltw1, z0, z1, z2, z3, z4, z5, z6, z7, z8, z9, zc]) (by simp [go_sem, ltw, ltw1, z0, z1, z2, z3, z4, z5, z6, z7, z8, z9, zc]) (by simp [go_sem, ltw, ltw1, z0, z1, z2, z3, z4, z5, z6, z7, z8, z9, zc]) (by simp [go_sem, ltw, ltw1, z0, z1, z2, z3, z4, z5, z6, z7, z8, z9, zc]) (by simp [go_sem, ltw, ltw1, z0, z1, z2, z3, z4, z5, z6, z7, z8, z9, zc]) (by simp [go_sem, ltw, ltw1, z0, z1, z2, z3, z4, z5, z6, z7, z8, z9, zc]) rfl rfl ⟨_, rfl, ?_, ?_⟩
  · repeat (first | with_reducible exact (HB6.out) | with_reducible refine Below.setCell ?_ ?_ _ | with_reducible refine Below.alloc ?_ ?_ _ | with_reducible refine Below.drew ?_ | with_reducible refine below_drewN ?_ _ | omega | (simp <;> omega))
  · rw [hpp]
    refine tup_pw.2 ⟨_, rfl, pw_cons.2 ⟨_, _, rfl, ?_, pw_cons.2 ⟨_, _, rfl, .sc _ rfl, pw_nil.2 rfl⟩⟩⟩
    have m1 : MX w.heap.size := by rw [HX.out]; exact .inr (.inl rfl)
    have m2 : MX (w.heap.size + 1) := by rw [HX.out]; exact .inr (.inr rfl)
    refine Hr6.out.mono (M := MX) ?_ (fun k _ hk => by rw [HX.out]; exact .inl hk)
    refine kp_set ?_ m2
    iterate 10 (refine kp_set ?_ m1)
    exact Kp.refl _ _


end Go.Proofs.YtjnfldkcbcfboaaGreatDoor
