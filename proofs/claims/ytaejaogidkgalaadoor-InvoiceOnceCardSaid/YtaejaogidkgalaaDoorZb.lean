/-
  Refunds: what was refunded of each item and of each ride.
-/
import Derived.Test.YtaejaogidkgalaaDoorZa
import Derived.BigRegion
import Derived.Lib.Hide
import Derived.WideKeyEntry
import Derived.DeepKeys4
namespace Go.Proofs.YtaejaogidkgalaaDoor
open Go.RowKit
open Nat (reduceAdd reduceEqDiff reduceLT reduceLeDiff reduceSub reducePow reduceMul)
open Int (reduceToNat reduceLE reduceEq)
set_option linter.unusedVariables false
set_option linter.unusedSimpArgs false
set_option linter.unnecessarySimpa false

open Go.RowKit Go.MapKept Go.ChangeMaps
open Go.Maps (Keyed)
def pk (r i : Int) : Value := .agg #[.int .i64 r, .int .i64 i]
def unpk : Value → Option (Int × Int)
  | .agg ⟨[.int .i64 a, .int .i64 b]⟩ => some (a, b)
  | _ => none
theorem unpk_pk {k : Value} {r i : Int} (h : unpk k = some (r, i)) : k = pk r i := by
  unfold unpk at h
  split at h
  · cases h; rfl
  · cases h
def sI (l : List RefS) (r i : Int) : Int := ((l.filter fun x => x.ride == r && x.item == i).map (·.amount)).sum
def sR (l : List RefS) (r : Int) : Int := ((l.filter fun x => x.ride == r).map (·.amount)).sum
theorem sI_snoc (l : List RefS) (x : RefS) (r i : Int) : sI (l ++ [x]) r i = sI l r i + if (x.ride == r && x.item == i) = true then x.amount else 0 := by
  unfold sI
  rw [List.filter_append, List.map_append, List.sum_append]
  congr 1
  cases h : (x.ride == r && x.item == i) <;> simp [List.filter_cons, h]
theorem sR_snoc (l : List RefS) (x : RefS) (r : Int) : sR (l ++ [x]) r = sR l r + if (x.ride == r) = true then x.amount else 0 := by
  unfold sR
  rw [List.filter_append, List.map_append, List.sum_append]
  congr 1
  cases h : (x.ride == r) <;> simp [List.filter_cons, h]
def mI (l : List RefS) (k : Value) : Option Value := match unpk k with
  | some (r, i) => if (l.any fun x => x.ride == r && x.item == i) = true then some (.int .i64 (sI l r i)) else none
  | none => none
def mR (l : List RefS) (k : Value) : Option Value := match k with
  | .int .i64 r => if (l.any fun x => x.ride == r) = true then some (.int .i64 (sR l r)) else none
  | _ => none
theorem mI_nil : mI [] = fun _ => none := by
  funext k; unfold mI; split <;> rfl
theorem mR_nil : mR [] = fun _ => none := by
  funext k; unfold mR; split <;> rfl
theorem mI_snoc (l : List RefS) (x : RefS) : mI (l ++ [x]) = upd (mI l) (pk x.ride x.item) (.int .i64 (sI l x.ride x.item + x.amount)) := by
  funext k
  by_cases e : k = pk x.ride x.item
  · subst e
    rw [upd_same]
    show (if _ then _ else _) = _
    rw [if_pos (by simp), sI_snoc, if_pos (by simp)]
  · rw [upd_other _ _ e]
    unfold mI
    cases h : unpk k with
    | none => rfl
    | some ri =>
      obtain ⟨r, i⟩ := ri
      have hk := unpk_pk h
      have hne : (x.ride == r && x.item == i) = false := by
        rw [Bool.eq_false_iff]; intro h2
        simp only [Bool.and_eq_true, beq_iff_eq] at h2
        exact e (by rw [hk, h2.1, h2.2])
      simp only [List.any_append, List.any_cons, List.any_nil, hne, Bool.or_false, sI_snoc, Bool.false_eq_true, if_false, Int.add_zero]
theorem mR_snoc (l : List RefS) (x : RefS) : mR (l ++ [x]) = upd (mR l) (.int .i64 x.ride) (.int .i64 (sR l x.ride + x.amount)) := by
  funext k
  by_cases e : k = .int .i64 x.ride
  · subst e
    rw [upd_same]
    show (if _ then _ else _) = _
    rw [if_pos (by simp), sR_snoc, if_pos (by simp)]
  · rw [upd_other _ _ e]
    unfold mR
    split
    · rename_i r
      have hne : (x.ride == r) = false := by
        rw [Bool.eq_false_iff]; intro h2
        exact e (by rw [beq_iff_eq.1 h2])
      simp only [List.any_append, List.any_cons, List.any_nil, hne, Bool.or_false, sR_snoc, Bool.false_eq_true, if_false, Int.add_zero]
    · rfl
theorem mI_get (l : List RefS) (r i : Int) : (mI l (pk r i)).getD (.int .i64 0) = .int .i64 (sI l r i) := by
  show (if _ then _ else _ : Option Value).getD _ = _
  by_cases h : (l.any fun x => x.ride == r && x.item == i) = true
  · rw [if_pos h]; rfl
  · rw [if_neg h]
    have : l.filter (fun x => x.ride == r && x.item == i) = [] := by
      rw [List.filter_eq_nil_iff]
      intro x hx h2
      exact h (List.any_eq_true.2 ⟨x, hx, h2⟩)
    unfold sI; rw [this]; rfl
theorem mR_get (l : List RefS) (r : Int) : (mR l (.int .i64 r)).getD (.int .i64 0) = .int .i64 (sR l r) := by
  show (if _ then _ else _ : Option Value).getD _ = _
  by_cases h : (l.any fun x => x.ride == r) = true
  · rw [if_pos h]; rfl
  · rw [if_neg h]
    have : l.filter (fun x => x.ride == r) = [] := by
      rw [List.filter_eq_nil_iff]
      intro x hx h2
      exact h (List.any_eq_true.2 ⟨x, hx, h2⟩)
    unfold sR; rw [this]; rfl
def amtOk (l : List RefS) : Prop := ∀ x ∈ l, 1 ≤ x.amount ∧ x.amount ≤ 1000000000000
theorem amt_sum {l : List RefS} (p : RefS → Bool) (h : amtOk l) : 0 ≤ ((l.filter p).map (·.amount)).sum ∧ ((l.filter p).map (·.amount)).sum ≤ l.length * 1000000000000 := by
  induction l with
  | nil => simp
  | cons x l ih =>
    have hx := h x (by simp)
    have ih := ih (fun y hy => h y (by simp [hy]))
    rw [List.filter_cons, List.length_cons]
    split
    · rw [List.map_cons, List.sum_cons]; omega
    · omega
theorem amtOk_take {l : List RefS} (h : amtOk l) (k : Nat) : amtOk (l.take k) := fun x hx => h x (List.mem_of_mem_take hx)
def RAt (w : World) (b o : Nat) (x : RefS) : Prop :=
  w.cell? ⟨b, o, none⟩ = some (.int .i64 x.id) ∧ w.cell? ⟨b, o + 1, none⟩ = some (.int .i64 x.ride) ∧ w.cell? ⟨b, o + 2, none⟩ = some (.int .i64 x.item) ∧ w.cell? ⟨b, o + 3, none⟩ = some (.int .i64 x.amount)
def RSl (w : World) (a : Option Addr) (cap : Nat) (xs : List RefS) : Prop :=
  xs.length ≤ cap ∧ cap ≤ maxLen ∧ (0 < xs.length → ∃ b o, a = some ⟨b, o, none⟩ ∧ b < w.heap.size ∧ ∀ i (h : i < xs.length), RAt w b (o + i * 4) xs[i]) ∧ ∀ x ∈ xs, I64 x.ride ∧ I64 x.item
theorem refs_of {M : Nat → Prop} {w : World} {l : List RefS} {v : Value} (h : RepI M w (.sl (l.map RefS.pv)) v) : ∃ a cap, v = .slice a l.length cap ∧ RSl w a cap l := by
  obtain ⟨a, cap, rfl, c1, c2, c3, vals, g1, g2⟩ := of_sl RefS.pv (n := 4) (fun x _ => rfl) h
  have hv : ∀ i (hi : i < l.length), vals i = l[i].vals ∧ ∀ u ∈ l[i].vals, rngB u = true := fun i hi => by
    have := pw_sc.1 (g1 i hi)
    exact ⟨this.1.symm, this.2⟩
  refine ⟨a, cap, rfl, c1, c2, fun h0 => ?_, fun x hx => ?_⟩
  · obtain ⟨b, o, rfl, hb, _, hc⟩ := g2 h0
    refine ⟨b, o, rfl, hb, fun i hi => ?_⟩
    have e := (hv i hi).1
    have c := hc i hi
    rw [e] at c
    exact ⟨c 0 _ rfl, c 1 _ rfl, c 2 _ rfl, c 3 _ rfl⟩
  · obtain ⟨i, hi, rfl⟩ := List.getElem_of_mem hx
    have r := (hv i hi).2
    exact ⟨rng_i64.1 (r (.int .i64 l[i].ride) (by simp [RefS.vals])), rng_i64.1 (r (.int .i64 l[i].item) (by simp [RefS.vals]))⟩
theorem arrK : Go.WideMaps.ArrKey Tryd.prog 84 3 2 := ⟨Tryd.underlying84, by kernel_rfl, by kernel_rfl, by kernel_rfl⟩
theorem lawA : Keyed Tryd.prog 84 := Keyed.of_law arrK.law
theorem lawI : Keyed Tryd.prog 3 := Go.Maps.int_keyed Tryd.underlying3
theorem typesSize : ∃ m, Tryd.prog.types.size = m + 1 := ⟨Tryd.prog.types.size - 1, by have : 0 < Tryd.prog.types.size := of_decide_eq_true (by kernel_rfl); omega⟩
theorem zeroInt (w : World) : (zeroValue 3).run Tryd.prog w = .ok (.int .i64 0) w := by kernel_rfl
theorem I64.wf {x : Int} (h : I64 x) : (Lit.int .i64 x).wf = true := WalkArith.wf_i64 h
theorem keyA {a b : Int} (ha : I64 a) (hb : I64 b) : ∃ kl, keyOf Tryd.prog 84 (.agg #[.int .i64 a, .int .i64 b]) = some kl := ⟨_, Go.WideMaps.keyOf_pair arrK Tryd.underlying3 typesSize ha.wf hb.wf⟩
theorem keyI {a : Int} (ha : I64 a) : keyOf Tryd.prog 3 (.int .i64 a) = some (.int .i64 a) := Go.Maps.keyOf_int_mk Tryd.underlying3 ha.wf
def SumsAt (w : World) (b1 b2 : Nat) (l : List RefS) : Prop := ∃ n, Mv Tryd.prog 84 w b1 n (mI l) ∧ Mv Tryd.prog 3 w b2 n (mR l)
def SumsPost (w : World) (l : List RefS) (e : Ending) (w' : World) : Prop :=
  e = .returned (.tuple #[.map (some w.heap.size), .map (some (w.heap.size + 1))]) ∧ Below w.heap.size w w' ∧ SumsAt w' w.heap.size (w.heap.size + 1) l ∧ w.heap.size + 1 < w'.heap.size
set_option maxHeartbeats 4000000 in
theorem sums_c (a : Option Addr) (cap : Nat) (l : List RefS) (w : World) (hA : amtOk l) (hl512 : l.length ≤ 512) (H : RSl w a cap l) :
    Calls Tryd.prog 43 #[.slice a l.length cap] w (SumsPost w l) := by
  obtain ⟨hl1, hl2, hfs, hok⟩ := H
  have hlen := Nat.le_trans hl1 hl2
  unfold maxLen at hlen
  clear hl1 hl2
  have hmm := @run_makeMap Tryd.prog
  go_enter Tryd.func43, Tryd.ntmps43
  go_wp2
  go_loopw [12] (fun i wr => ∃ k : Nat, k ≤ l.length ∧ i = .int .i64 k ∧ Below w.heap.size w wr ∧ SumsAt wr w.heap.size (w.heap.size + 1) (l.take k) ∧ w.heap.size + 1 < wr.heap.size) (fun i wr => l.length - (intOf i).toNat)
  case atStart =>
    refine ⟨0, Nat.zero_le _, rfl, ((Below.refl _ _).alloc (Nat.le_refl _) _).alloc (by simp) _, ⟨0, ?_, ?_⟩, by simp⟩
    · rw [List.take_zero, mI_nil]; exact (Mv.made Tryd.prog 84 w).alloc _
    · rw [List.take_zero, mR_nil]
      have := Mv.made Tryd.prog 3 (w.alloc (.map #[] 0))
      simpa using this
  case round =>
    obtain ⟨k, hk, rfl, hb, hsum, hs2⟩ := hrel
    obtain ⟨hc, hz⟩ := bcell hb
    have hs := hb.size
    by_cases hlt : k < l.length
    · obtain ⟨b, o, rfl, hbw, hf⟩ := hfs (by omega)
      obtain ⟨h0, h1, h2, h3⟩ := hf k hlt
      have e1 : l.take (k + 1) = l.take k ++ [l[k]] := List.take_succ_eq_append_getElem hlt
      obtain ⟨i1, i2⟩ := hok l[k] (List.getElem_mem hlt)
      have ha := hA l[k] (List.getElem_mem hlt)
      have b1 := amt_sum (fun x => x.ride == l[k].ride && x.item == l[k].item) (amtOk_take hA k)
      have b2 := amt_sum (fun x => x.ride == l[k].ride) (amtOk_take hA k)
      have b3 : (l.take k).length ≤ 512 := by rw [List.length_take]; omega
      change 0 ≤ sI (l.take k) l[k].ride l[k].item ∧ sI (l.take k) l[k].ride l[k].item ≤ _ at b1
      change 0 ≤ sR (l.take k) l[k].ride ∧ sR (l.take k) l[k].ride ≤ _ at b2
      have hw1 : wrap64 (sI (l.take k) l[k].ride l[k].item + l[k].amount) = sI (l.take k) l[k].ride l[k].item + l[k].amount := by unfold wrap64; omega
      have hw2 : wrap64 (sR (l.take k) l[k].ride + l[k].amount) = sR (l.take k) l[k].ride + l[k].amount := by unfold wrap64; omega
      have n1 := mI_snoc (l.take k) l[k]
      have n2 := mR_snoc (l.take k) l[k]
      rw [← hw1] at n1
      rw [← hw2] at n2
      have q1 := mI_get (l.take k) l[k].ride l[k].item
      have q2 := mR_get (l.take k) l[k].ride
      clear hw1 hw2 b1 b2 b3 ha
      generalize hfk : l[k] = f at *
      have E1 := hide e1; clear e1
      have H2 := hide hf; clear hf
      have H3 := hide hfk; clear hfk
      have H4 := hide hok; clear hok
      obtain ⟨n, g1, g2⟩ := hsum
      generalize hl' : l.take k = l' at *
      have H5 := hide hl'; clear hl'
      have G1 := hide g1
      have G2 := hide g2
      clear g1 g2
      have N1 := hide n1; have N2 := hide n2; clear n1 n2
      have HA := hide hA; clear hA
      have J1 := hide i1; have J2 := hide i2; clear i1 i2
      go_wp2
      -- the region that draws
      obtain ⟨kl, hkl⟩ := keyA J1.out J2.out
      obtain ⟨st, wE, n', m', hme, hlkE, hgE, hes⟩ := ((G1.out.alloc (.cells #[.int .i64 f.id, .int .i64 f.ride, .int .i64 f.item, .int .i64 f.amount] 60)).drew).entry lawA Tryd.underlying78 zeroInt hkl
      have hlk := ((G1.out.alloc (.cells #[.int .i64 f.id, .int .i64 f.ride, .int .i64 f.item, .int .i64 f.amount] 60)).drew).look false lawA Tryd.underlying78 (zeroInt _) hkl
      obtain ⟨wF, hes, hMF, hgF⟩ := hes (.int .i64 (wrap64 (sI l' f.ride f.item + f.amount)))
      change (mI l' (.agg #[.int .i64 f.ride, .int .i64 f.item])).getD (.int .i64 0) = _ at q1
      rw [q1] at hme hlkE hlk
      have Q1 := hide q1; clear q1
      simp only [if_false, Bool.false_eq_true] at hlk
      unfold goInt at hme hes
      clear hkl
      have HMF := hide hMF; clear hMF
      have HGF := hide hgF; clear hgF hgE
      generalize hsI : sI l' f.ride f.item = sI0 at *
      have SI := hide hsI; clear hsI
      go_region
      all_goals
        have hg2 := (HGF.out).size
        have hBF : Below w.heap.size w wF := ((hb.alloc hs (.cells #[.int .i64 f.id, .int .i64 f.ride, .int .i64 f.item, .int .i64 f.amount] 60)).drew).grown HGF.out (by simp; omega) (fun k hk => by cases hk; exact Nat.le_refl _)
        have hcF : ∀ j, wF.cell? ⟨wr.heap.size, j, none⟩ = (wr.alloc (.cells #[.int .i64 f.id, .int .i64 f.ride, .int .i64 f.item, .int .i64 f.amount] 60)).cell? ⟨wr.heap.size, j, none⟩ := fun j => World.cell?_of_block (HGF.out.block wr.heap.size (by simp) (by simp; omega))
        have g2F := ((G2.out.alloc (.cells #[.int .i64 f.id, .int .i64 f.ride, .int .i64 f.item, .int .i64 f.amount] 60)).drew).kept HGF.out (by simp)
        have hlk2 := g2F.look false lawI Tryd.underlying79 (zeroInt _) (keyI J1.out)
        obtain ⟨wG, hup, hMG, hgG⟩ := g2F.update (val := .int .i64 (wrap64 (sR l' f.ride + f.amount))) lawI Tryd.underlying79 (keyI J1.out)
        rw [q2] at hlk2
        clear q2
        simp only [if_false, Bool.false_eq_true] at hlk2
        generalize hsR : sR l' f.ride = sR0 at *
        have SR := hide hsR; clear hsR
        have HBF := hide hBF; clear hBF
        have HMG := hide hMG; clear hMG
        have HGG := hide hgG; clear hgG
        have G2F := hide g2F; clear g2F
        clear hme hlkE hlk hes
        go_wp2
        go_roundw
        case rel =>
          have hg3 := HGG.out.size
          simp at hg2
          refine ⟨k+1, by omega, by go_num, HBF.out.grown HGG.out (by have := HBF.out.size; omega) (fun k hk => by cases hk; omega), ?_, by omega⟩
          refine ⟨n + 1, ?_, ?_⟩
          · rw [E1.out, N1.out]
            exact HMF.out.kept HGG.out (by simp)
          · rw [E1.out, N2.out]
            exact HMG.out
        case measure => simp [intOf]; omega
    · obtain rfl : k = l.length := by omega
      rw [List.take_length] at hsum
      have HS := hide hsum
      clear hsum
      go_wp2
      go_ret2
      exact ⟨rfl, hb, HS.out, hs2⟩
theorem mI_key {l : List RefS} {k v : Value} (hok : ∀ x ∈ l, I64 x.ride ∧ I64 x.item) (hA : amtOk l) (hl : l.length ≤ 512) (h : mI l k = some v) : keyIs (.arr 2 .i64) k = true ∧ rngB v = true := by
  unfold mI at h
  split at h
  · rename_i r i hu
    split at h
    · rename_i ha
      cases h
      obtain ⟨x, hx, hp⟩ := List.any_eq_true.1 ha
      simp only [Bool.and_eq_true, beq_iff_eq] at hp
      obtain ⟨h1, h2⟩ := hok x hx
      rw [hp.1] at h1
      rw [hp.2] at h2
      rw [unpk_pk hu]
      refine ⟨?_, ?_⟩
      · have r1 := rng_i64.2 h1
        have r2 := rng_i64.2 h2
        simp [keyIs, pk, isIntB, r1, r2]
      · have := amt_sum (fun x => x.ride == r && x.item == i) hA
        change 0 ≤ sI l r i ∧ sI l r i ≤ _ at this
        exact rng_i64.2 ⟨by omega, by omega⟩
    · cases h
  · cases h
theorem mR_key {l : List RefS} {k v : Value} (hok : ∀ x ∈ l, I64 x.ride ∧ I64 x.item) (hA : amtOk l) (hl : l.length ≤ 512) (h : mR l k = some v) : keyIs (.int .i64) k = true ∧ rngB v = true := by
  unfold mR at h
  split at h
  · rename_i r
    split at h
    · rename_i ha
      cases h
      obtain ⟨x, hx, hp⟩ := List.any_eq_true.1 ha
      obtain ⟨h1, h2⟩ := hok x hx
      rw [beq_iff_eq.1 hp] at h1
      refine ⟨?_, ?_⟩
      · have r1 := rng_i64.2 h1
        simp [keyIs, isIntB, r1]
      · have := amt_sum (fun x => x.ride == r) hA
        change 0 ≤ sR l r ∧ sR l r ≤ _ at this
        exact rng_i64.2 ⟨by omega, by omega⟩
    · cases h
  · cases h
theorem is_of {kT : TypeId} {kk : KK} {w : World} {b n : Nat} {m : Value → Option Value} (h : Mv Tryd.prog kT w b n m) (hm : ∀ k v, m k = some v → keyIs kk k = true ∧ rngB v = true) : MapIs kk w b m := by
  obtain ⟨es, clock, h1, h2, h3, h4, h5⟩ := h
  exact ⟨es, clock, h1, h3, fun e he => (hm e.key e.val ((h5 _ _).2 ⟨e, he, rfl, rfl⟩)).1, h5, fun k v hk => (hm k v hk).2⟩
def sumsP (l : List RefS) : PV := .tup [.fm (.arr 2 .i64) (mI l), .fm (.int .i64) (mR l)]
theorem sums_g (l : List RefS) (hA : amtOk l) (hl : l.length ≤ 512) : Good Tryd.prog 43 [.sl (l.map RefS.pv)] (sumsP l) := by
  intro M w vs hM hp hG
  obtain ⟨v1, vs1, rfl, h1, hp⟩ := pw_cons.1 hp
  rw [pw_nil] at hp; subst hp
  obtain ⟨a, cap, rfl, hsl⟩ := refs_of h1
  have hok := hsl.2.2.2
  refine (sums_c a cap l w hA hl hsl).mono ?_
  rintro e w' ⟨rfl, hb, ⟨n, m1, m2⟩, hs⟩
  refine ⟨_, rfl, hb, tup_pw.2 ⟨_, rfl, pw_cons.2 ⟨_, _, rfl, .fm _ _ _ (by omega) (fun h => ?_) (is_of m1 (fun k v => mI_key hok hA hl)), pw_cons.2 ⟨_, _, rfl, .fm _ _ _ hs (fun h => ?_) (is_of m2 (fun k v => mR_key hok hA hl)), pw_nil.2 rfl⟩⟩⟩⟩
  · have := hM _ h; omega
  · have := hM _ h; omega


end Go.Proofs.YtaejaogidkgalaaDoor
