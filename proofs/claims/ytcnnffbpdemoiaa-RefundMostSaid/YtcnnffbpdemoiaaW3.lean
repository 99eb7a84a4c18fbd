import Derived.Test.YtcnnffbpdemoiaaW2
import Derived.Test.YtcnnffbpdemoiaaMaps
namespace Go.Proofs.Ytcnnffbpdemoiaa
open Go.RowKit
open Go.Maps (Keyed)
set_option linter.unusedVariables false

theorem laidOut : laidOutB Try.prog = true := by kernel_rfl
theorem arr55 : Go.WideMaps.ArrKey Try.prog 55 3 2 := ⟨Try.underlying55, by kernel_rfl, by kernel_rfl, by kernel_rfl⟩
theorem law55 : Keyed Try.prog 55 := Keyed.of_law arr55.law
theorem law3 : Keyed Try.prog 3 := Go.Maps.int_keyed Try.underlying3
theorem typesSize : ∃ m, Try.prog.types.size = m + 1 := ⟨Try.prog.types.size - 1, by have : 0 < Try.prog.types.size := of_decide_eq_true (by kernel_rfl); omega⟩
theorem zero3 (w : World) : (zeroValue 3).run Try.prog w = .ok (.int .i64 0) w := by kernel_rfl
theorem zero4 (w : World) : (zeroValue 4).run Try.prog w = .ok (.bool false) w := by kernel_rfl
theorem I64.wf {x : Int} (h : I64 x) : (Lit.int .i64 x).wf = true := WalkArith.wf_i64 h
theorem key55 {a b : Int} (ha : I64 a) (hb : I64 b) : ∃ kl, keyOf Try.prog 55 (.agg #[.int .i64 a, .int .i64 b]) = some kl := ⟨_, Go.WideMaps.keyOf_pair arr55 Try.underlying3 typesSize ha.wf hb.wf⟩
theorem key3 {a : Int} (ha : I64 a) : keyOf Try.prog 3 (.int .i64 a) = some (.int .i64 a) := Go.Maps.keyOf_int_mk Try.underlying3 ha.wf

def pk (r i : Int) : Value := .agg #[.int .i64 r, .int .i64 i]
theorem pk_inj {a b c d : Int} : pk a b = pk c d ↔ a = c ∧ b = d := by simp [pk]

def Sums (l : List RefS) (m1 m2 : Value → Option Value) : Prop :=
  (∀ r i, (m1 (pk r i)).getD (.int .i64 0) = .int .i64 (sumI l r i)) ∧ (∀ r, (m2 (.int .i64 r)).getD (.int .i64 0) = .int .i64 (sumR l r))
theorem Sums.nil : Sums [] (fun _ => none) (fun _ => none) := ⟨fun _ _ => rfl, fun _ => rfl⟩
theorem Sums.snoc {l : List RefS} {m1 m2 : Value → Option Value} (h : Sums l m1 m2) (x : RefS) :
    Sums (l ++ [x]) (upd m1 (pk x.ride x.item) (.int .i64 (wrap64 (sumI l x.ride x.item + x.amount)))) (upd m2 (.int .i64 x.ride) (.int .i64 (wrap64 (sumR l x.ride + x.amount)))) := by
  refine ⟨fun r i => ?_, fun r => ?_⟩
  · rw [sumI_snoc]
    by_cases e : x.ride = r ∧ x.item = i
    · obtain ⟨rfl, rfl⟩ := e; rw [upd_same]; simp
    · rw [upd_other _ _ (fun h' => e (by have := pk_inj.1 h'; exact ⟨this.1.symm, this.2.symm⟩)), h.1 r i]
      have : (x.ride == r && x.item == i) = false := by simpa using e
      rw [this]; rfl
  · rw [sumR_snoc]
    by_cases e : x.ride = r
    · subst e; rw [upd_same]; simp
    · rw [upd_other _ _ (fun h' => e (by injection h' with _ h'; exact h'.symm)), h.2 r]
      have : (x.ride == r) = false := by simpa using e
      rw [this]; rfl

def SumsAt (w : World) (b1 b2 : Nat) (l : List RefS) : Prop := ∃ n m1 m2, Mv Try.prog 55 w b1 n m1 ∧ Mv Try.prog 3 w b2 n m2 ∧ Sums l m1 m2
theorem SumsAt.below {w w' : World} {B b1 b2 : Nat} {l : List RefS} (h : SumsAt w b1 b2 l) (hb : Below B w w') (h1 : b1 < B) (h2 : b2 < B) : SumsAt w' b1 b2 l := by
  obtain ⟨n, m1, m2, g1, g2, g3⟩ := h; exact ⟨n, m1, m2, g1.below hb h1, g2.below hb h2, g3⟩
theorem SumsAt.alloc {w : World} {b1 b2 : Nat} {l : List RefS} (h : SumsAt w b1 b2 l) (o : Obj) : SumsAt (w.alloc o) b1 b2 l := by
  obtain ⟨n, m1, m2, g1, g2, g3⟩ := h; exact ⟨n, m1, m2, g1.alloc o, g2.alloc o, g3⟩

def SumsPost (w : World) (l : List RefS) (e : Ending) (w' : World) : Prop :=
  e = .returned (.tuple #[.map (some w.heap.size), .map (some (w.heap.size + 1))]) ∧ Below w.heap.size w w' ∧ SumsAt w' w.heap.size (w.heap.size + 1) l ∧ w.heap.size + 1 < w'.heap.size

set_option maxHeartbeats 1000000 in
theorem sums_c (a : Option Addr) (cap : Nat) (l : List RefS) (w : World) (H : RefS.sl w a cap l) :
    Calls Try.prog 24 #[.slice a l.length cap] w (SumsPost w l) := by
  obtain ⟨hl1, hl2, -, hfs, hok⟩ := H
  have hlen := Nat.le_trans hl1 hl2
  unfold maxLen at hlen
  clear hl1 hl2
  have hmm := @run_makeMap Try.prog
  go_enter Try.func24, Try.ntmps24
  go_wp2
  go_loopw [12] (fun i wr => ∃ k : Nat, k ≤ l.length ∧ i = .int .i64 k ∧ Below w.heap.size w wr ∧ SumsAt wr w.heap.size (w.heap.size + 1) (l.take k) ∧ w.heap.size + 1 < wr.heap.size) (fun i wr => l.length - (intOf i).toNat)
  case atStart =>
    refine ⟨0, Nat.zero_le _, rfl, ((Below.refl _ _).alloc (Nat.le_refl _) _).alloc (by simp) _, ⟨0, _, _, (Mv.made Try.prog 55 w).alloc _, ?_, Sums.nil⟩, by simp⟩
    have := Mv.made Try.prog 3 (w.alloc (.map #[] 0))
    simpa using this
  case round =>
    obtain ⟨k, hk, rfl, hb, hsum, hs2⟩ := hrel
    obtain ⟨hc, hz⟩ := bcell hb
    have hs := hb.size
    by_cases hlt : k < l.length
    · obtain ⟨b, o, rfl, hbw, hf⟩ := hfs (by omega)
      obtain ⟨h0, h1, h2, h3⟩ := hf k hlt
      have e1 := take_snoc l k hlt
      obtain ⟨_, i1, i2, i3⟩ := hok l[k] (List.getElem_mem hlt)
      generalize hfk : l[k] = f at *
      have E1 := hide e1; clear e1
      have H2 := hide hf; clear hf
      have H3 := hide hfk; clear hfk
      have H4 := hide hok; clear hok
      obtain ⟨n, m1, m2, g1, g2, g3⟩ := hsum
      generalize hl' : l.take k = l' at *
      have H5 := hide hl'; clear hl'
      have HG := hide g3
      have q1 := g3.1 f.ride f.item
      have q2 := g3.2 f.ride
      clear g3
      have G1 := hide g1
      have G2 := hide g2
      clear g1 g2
      have J1 := hide i1; have J2 := hide i2; clear i1 i2 i3
      go_wp2
      -- the region that draws
      obtain ⟨kl, hkl⟩ := key55 J1.out J2.out
      obtain ⟨st, wE, n', m', hme, hlkE, hgE, hes⟩ := ((G1.out.alloc (.cells #[.int .i64 f.id, .int .i64 f.ride, .int .i64 f.item, .int .i64 f.amount] 30)).drew).entry law55 Try.underlying49 zero3 hkl
      have hlk := ((G1.out.alloc (.cells #[.int .i64 f.id, .int .i64 f.ride, .int .i64 f.item, .int .i64 f.amount] 30)).drew).look false law55 Try.underlying49 (zero3 _) hkl
      obtain ⟨wF, hes, hMF, hgF⟩ := hes (.int .i64 (wrap64 (sumI l' f.ride f.item + f.amount)))
      change (m1 (.agg #[.int .i64 f.ride, .int .i64 f.item])).getD (.int .i64 0) = _ at q1
      rw [q1] at hme hlkE hlk
      have Q1 := hide q1; clear q1
      simp only [if_false, Bool.false_eq_true] at hlk
      unfold goInt at hme hes
      clear hkl
      have HMF := hide hMF; clear hMF
      have HGF := hide hgF; clear hgF hgE
      generalize hsI : sumI l' f.ride f.item = sI at *
      have SI := hide hsI; clear hsI
      go_region
      all_goals
        have hg2 := (HGF.out).size
        have hBF : Below w.heap.size w wF := ((hb.alloc hs (.cells #[.int .i64 f.id, .int .i64 f.ride, .int .i64 f.item, .int .i64 f.amount] 30)).drew).grown HGF.out (by simp; omega) (fun k hk => by cases hk; exact Nat.le_refl _)
        have hcF : ∀ j, wF.cell? ⟨wr.heap.size, j, none⟩ = (wr.alloc (.cells #[.int .i64 f.id, .int .i64 f.ride, .int .i64 f.item, .int .i64 f.amount] 30)).cell? ⟨wr.heap.size, j, none⟩ := fun j => World.cell?_of_block (HGF.out.block wr.heap.size (by simp) (by simp; omega))
        have g2F := ((G2.out.alloc (.cells #[.int .i64 f.id, .int .i64 f.ride, .int .i64 f.item, .int .i64 f.amount] 30)).drew).kept HGF.out (by simp)
        have hlk2 := g2F.look false law3 Try.underlying50 (zero3 _) (key3 J1.out)
        obtain ⟨wG, hup, hMG, hgG⟩ := g2F.update (val := .int .i64 (wrap64 (sumR l' f.ride + f.amount))) law3 Try.underlying50 (key3 J1.out)
        rw [q2] at hlk2
        clear q2
        simp only [if_false, Bool.false_eq_true] at hlk2
        generalize hsR : sumR l' f.ride = sR at *
        have SR := hide hsR; clear hsR
        have HBF := hide hBF; clear hBF
        have HMG := hide hMG; clear hMG
        have HGG := hide hgG; clear hgG
        have G2F := hide g2F; clear g2F
        clear hme hlkE hlk hes
        go_wp2
        go_roundw
        case rel =>
          have hg3 := HGG.out.size
          simp at hg2
          refine ⟨k+1, by omega, by go_num, HBF.out.grown HGG.out (by have := HBF.out.size; omega) (fun k hk => by cases hk; omega), ?_, by omega⟩
          refine ⟨_, _, _, (HMF.out.kept HGG.out (by simp)).mono (Nat.le_max_left _ (n+1)), HMG.out.mono (Nat.le_max_right _ _), ?_⟩
          rw [E1.out]
          have := HG.out.snoc f
          rw [SI.out, SR.out] at this
          exact this
        case measure => simp [intOf]; omega
    · obtain rfl : k = l.length := by omega
      rw [List.take_length] at hsum
      have HS := hide hsum
      clear hsum
      go_wp2
      go_ret2
      exact ⟨rfl, hb, HS.out, hs2⟩
end Go.Proofs.Ytcnnffbpdemoiaa
