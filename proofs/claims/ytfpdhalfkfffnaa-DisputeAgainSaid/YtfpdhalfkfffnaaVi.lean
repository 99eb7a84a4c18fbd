import Derived.Test.YtfpdhalfkfffnaaVh
import Derived.Deep.AppendLies
namespace Go.Proofs.Ytfpdhalfkfffnaa
open Go.RowKit
set_option linter.unusedVariables false
set_option linter.unusedSimpArgs false
set_option linter.unnecessarySimpa false

noncomputable def allF : RideS → Nat → List EvS → List Int → RideS × List Int
  | x, _, [], acc => (x, acc)
  | x, i, e :: l, acc => if (narrowL x e).2 = 0 then allF (narrowL x e).1 (i + 1) l acc else allF x (i + 1) l (acc ++ [(i : Int)])
noncomputable def allL (r : RideS) (l : List EvS) : RideS × List Int × Int :=
  if checkL r ≠ 0 then (zeroR, [], checkL r) else if 512 < l.length then (zeroR, [], 8) else ((allF r.norm 0 l []).1, (allF r.norm 0 l []).2, 0)
theorem allF_cons (x : RideS) (i : Nat) (e : EvS) (l : List EvS) (acc : List Int) : allF x.norm i (e :: l) acc = if (narrowL x e).2 = 0 then allF (narrowL x e).1 (i + 1) l acc else allF x.norm (i + 1) l (acc ++ [(i : Int)]) := by
  rw [allF, narrow_norm]
def AllPost (w : World) (r : RideS) (l : List EvS) (e : Ending) (w' : World) : Prop :=
  ∃ (x : RideS) (a : Option Addr) (cap : Nat), e = .returned (.tuple #[RV x, .slice a (allL r l).2.1.length cap, .int .i64 (allL r l).2.2]) ∧ Below w.heap.size w w' ∧ x.norm = (allL r l).1 ∧ RideS.ok w' x ∧ SlI w' a cap (allL r l).2.1 ∧ RideS.from_ w.heap.size x ∧ RideS.in_ w' x ∧ ∀ b, a = some b → w.heap.size ≤ b.block
theorem AllPost.err {w w' : World} {r : RideS} {l : List EvS} {k : Int} (hb : Below w.heap.size w w') (hn : allL r l = (zeroR, [], k)) : AllPost w r l (.returned (.tuple #[RV zeroR, .slice none 0 0, .int .i64 k])) w' := by
  refine ⟨zeroR, none, 0, by rw [hn]; rfl, hb, by rw [hn]; rfl, zeroR_ok _, ?_, ⟨(fun a h => by cases h), (fun a h => by cases h)⟩, (fun a h => by rcases h with h | h <;> cases h), (fun b h => by cases h)⟩
  rw [hn]; exact ⟨Nat.le_refl _, Nat.zero_le _, fun _ => rfl, fun h => absurd h (Nat.lt_irrefl 0), fun x hx => by cases hx⟩
theorem SlI.of_own {w : World} {B : Nat} {e : TypeId} {a : Option Addr} {cap : Nat} {l : List Int} (h : w.ownsRow B e 1 (.slice a l.length cap) l.length (intV l)) (hok : ∀ x ∈ l, I64 x) : SlI w a cap l := by
  rcases h.2 with ⟨h1, h2⟩ | ⟨g, c, cur, hv, hg, hh, hle, hm, _, _⟩
  · simp only [Value.slice.injEq] at h1
    obtain ⟨rfl, h3, rfl⟩ := h1
    have : l = [] := List.eq_nil_of_length_eq_zero h3
    subst this
    exact ⟨Nat.le_refl _, Nat.zero_le _, fun _ => rfl, fun h => absurd h (Nat.lt_irrefl 0), fun x hx => by cases hx⟩
  · simp only [Value.slice.injEq, true_and] at hv
    obtain ⟨rfl, rfl⟩ := hv
    have hc := h.cells (g := g) rfl
    refine ⟨hle, hm, (fun e => by cases e), fun _ => ⟨g, 0, rfl, (Array.getElem?_eq_some_iff.1 hh).1, fun i hi => ?_⟩, hok⟩
    rw [← addr_add]; exact hc i _ (by simp [intV, hi])
theorem own_shape {w : World} {B n : Nat} {v : Value} {e : TypeId} {size : Nat} {xs : List Value} (h : w.ownsRow B e size v n xs) : ∃ a c, v = .slice a n c := by
  rcases h.2 with ⟨rfl, rfl⟩ | ⟨g, cap, cur, rfl, _⟩
  · exact ⟨_, _, rfl⟩
  · exact ⟨_, _, rfl⟩
theorem AllPost.fin {w w' : World} {r x : RideS} {l : List EvS} {acc : List Int} {a : Option Addr} {c B : Nat} (hb : Below w.heap.size w w') (hn : allL r l = (x.norm, acc, 0)) (hx : RideS.ok w' x) (ho : w'.ownsRow B 3 1 (.slice a acc.length c) acc.length (intV acc)) (hok : ∀ x ∈ acc, I64 x) (hf : RideS.from_ w.heap.size x) (hin : RideS.in_ w' x) (hB : w.heap.size ≤ B := by omega) : AllPost w r l (.returned (.tuple #[RV x, .slice a acc.length c, .int .i64 0])) w' :=
  ⟨x, a, c, by rw [hn], hb, by rw [hn], hx, by rw [hn]; exact SlI.of_own ho hok, hf, hin, fun b hb => Nat.le_trans hB (own_from ho b hb)⟩
set_option maxRecDepth 100000 in
set_option maxHeartbeats 8000000 in
theorem all_c (r : RideS) (la : Option Addr) (lc : Nat) (l : List EvS) (w : World) (H : RideS.ok w r) (HL : EvS.sl w la lc l) : Calls Try.prog 16 #[RV r, .slice la l.length lc] w (AllPost w r l) := by
  have HH := hide H; clear H
  have HLL := hide HL
  obtain ⟨hl1, hl2, -, hL, hEok⟩ := HL
  have hlen := Nat.le_trans hl1 hl2
  unfold maxLen at hlen
  have HEOK := hide hEok
  clear hl1 hl2 hEok
  go_enter Try.func16, Try.ntmps16
  go_wp2_with fail
  refine (rcheck_c r _ ?_).mono ?_
  · exact RideS.ok_below (by repeat (first | with_reducible exact (Below.refl _ _) | with_reducible refine Below.setCell ?_ ?_ _ | with_reducible refine Below.alloc ?_ ?_ _ | with_reducible refine Below.drew ?_ | with_reducible refine below_drewN ?_ _ | omega | (simp <;> omega))) HH.out
  rintro e w1 ⟨rfl, hb⟩
  obtain ⟨hc1, hz1⟩ := bcell hb
  have hs1 := hb.size
  try simp at hs1
  have hqw_1 : w.heap.size < w1.heap.size := by omega
  have hqw_1_1 : w.heap.size + 1 < w1.heap.size := by omega
  have HW1 : Hid (Below w.heap.size w w1) := (show Below w.heap.size w _ by repeat (first | with_reducible exact (Below.refl _ _) | with_reducible refine Below.setCell ?_ ?_ _ | with_reducible refine Below.alloc ?_ ?_ _ | with_reducible refine Below.drew ?_ | with_reducible refine below_drewN ?_ _ | omega | (simp <;> omega))).trans (hb.mono (by first | omega | (simp <;> omega)))
  clear hb
  obtain ⟨he1, hef1⟩ := bcell HW1.out
  by_cases hck : checkL r = 0
  rotate_left
  · have d1 : (checkL r != 0) = true := by rw [bne_iff_ne]; exact hck
    have hV := hide (show allL r l = (zeroR, [], checkL r) by rw [allL, if_pos hck])
    generalize checkL r = ck at *
    go_wp2
    refine bodyPost_ret (v := .tuple #[RV zeroR, .slice none 0 0, .int .i64 ck]) (by simp [results, Try.results16, go_sem, zeroR, *]) rfl (AllPost.err ?_ hV.out)
    repeat (first | with_reducible exact (HW1.out) | with_reducible refine Below.setCell ?_ ?_ _ | with_reducible refine Below.alloc ?_ ?_ _ | with_reducible refine Below.drew ?_ | with_reducible refine below_drewN ?_ _ | omega | (simp <;> omega))
  have HCK := hide hck
  have d1 : (checkL r != 0) = false := by rw [hck]; rfl
  clear hck
  by_cases hn : 512 < l.length
  · have d2 : decide ((512 : Int) < l.length) = true := by rw [decide_eq_true_eq]; omega
    have hV := hide (show allL r l = (zeroR, [], 8) by rw [allL, if_neg (show ¬ checkL r ≠ 0 by simp [HCK.out]), if_pos hn])
    go_wp2
    refine bodyPost_ret (v := .tuple #[RV zeroR, .slice none 0 0, .int .i64 8]) (by simp [results, Try.results16, go_sem, zeroR, *]) rfl (AllPost.err ?_ hV.out)
    repeat (first | with_reducible exact (HW1.out) | with_reducible refine Below.setCell ?_ ?_ _ | with_reducible refine Below.alloc ?_ ?_ _ | with_reducible refine Below.drew ?_ | with_reducible refine below_drewN ?_ _ | omega | (simp <;> omega))
  have d2 : decide ((512 : Int) < l.length) = false := by rw [decide_eq_false_iff_not]; omega
  have HN := hide (show allL r l = ((allF r.norm 0 l []).1, (allF r.norm 0 l []).2, 0) by rw [allL, if_neg (show ¬ checkL r ≠ 0 by simp [HCK.out]), if_neg hn])
  have hcl := check_lens HCK.out
  go_wp2_with fail
  refine (own_c r _ ?_ (by omega) (by omega)).mono ?_
  · exact RideS.ok_below (by repeat (first | with_reducible exact (HW1.out) | with_reducible refine Below.setCell ?_ ?_ _ | with_reducible refine Below.alloc ?_ ?_ _ | with_reducible refine Below.drew ?_ | with_reducible refine below_drewN ?_ _ | omega | (simp <;> omega))) HH.out
  rintro e w2 ⟨a1, c1, a2, c2, B2, rfl, hb, hB2, ho1, hlt, ho2⟩
  obtain ⟨hc2, hz2⟩ := bcell hb
  have hs2 := hb.size
  try simp at hs2
  have hqw_2 : w.heap.size < w2.heap.size := by omega
  have hqw_1_2 : w.heap.size + 1 < w2.heap.size := by omega
  have hps := (HW1.out).size
  have HW2 : Hid (Below w.heap.size w w2) := (show Below w.heap.size w _ by repeat (first | with_reducible exact (HW1.out) | with_reducible refine Below.setCell ?_ ?_ _ | with_reducible refine Below.alloc ?_ ?_ _ | with_reducible refine Below.drew ?_ | with_reducible refine below_drewN ?_ _ | omega | (simp <;> omega))).trans (hb.mono (by first | omega | (simp <;> omega)))
  clear hb hps
  obtain ⟨he2, hef2⟩ := bcell HW2.out
  clear hcl
  have HO1 := hide ho1; have HO2 := hide ho2; clear ho1 ho2 hlt
  go_wp2_with fail
  have hoff1 := hide (show RideS.off w1.heap.size w2.heap.size { r with legsA := a1, legsC := c1, pausesA := a2, pausesC := c2 } from fun a ha => by
    rcases ha with ha | ha
    · have hq := own_from HO1.out a ha
      have hq2 := HO1.out.lt a.block (by simp only at ha; subst ha; rfl)
      exact ⟨hq, by omega⟩
    · have hq := own_from HO2.out a ha
      have hq2 := HO2.out.lt a.block (by simp only at ha; subst ha; rfl)
      exact ⟨by omega, by omega⟩)
  have hin2 := hide (show RideS.in_ w2 { r with legsA := a1, legsC := c1, pausesA := a2, pausesC := c2 } from fun a ha => by
    rcases ha with ha | ha
    · exact own_lt HO1.out a ha
    · exact own_lt HO2.out a ha)
  have hok2 := hide (RideS.ok_lists HW2.out HH.out HO1.out HO2.out)
  clear HO1 HO2
  refine wp_world ?_
  intro W3 hW0
  have hW0c3 := fun b o => congrArg (fun x => World.cell? x ⟨b, o, none⟩) hW0
  have hW0f3 := fun b o => congrArg (fun x => World.frozen? x ⟨b, o, none⟩) hW0
  have hW0s3 := congrArg (fun x => x.heap.size) hW0
  try simp only at hW0c3 hW0f3
  try simp at hW0s3
  have HB3 := hide (show Below w.heap.size w W3 by rw [hW0]; repeat (first | with_reducible exact (HW2.out) | with_reducible refine Below.setCell ?_ ?_ _ | with_reducible refine Below.alloc ?_ ?_ _ | with_reducible refine Below.drew ?_ | with_reducible refine below_drewN ?_ _ | omega | (simp <;> omega)))
  have hW0b3 : ∀ k, k < w2.heap.size → W3.heap[k]? = w2.heap[k]? := fun k hk => by rw [hW0]; exact ((Below.refl w2.heap.size w2).alloc (Nat.le_refl _) _).block k hk
  clear hW0
  go_loopw [28, 10] (fun i v wr => ∃ (k : Nat) (x : RideS) (acc : List Int), k ≤ l.length ∧ i = .int .i64 k ∧ Below w2.heap.size W3 wr ∧ Hid (RideS.at wr w2.heap.size 0 x) ∧ Hid (∀ j, j < 13 → wr.frozen? ⟨w2.heap.size, j, none⟩ = false) ∧ Hid (RideS.ok wr x) ∧ Hid (RideS.off w1.heap.size w2.heap.size x) ∧ Hid (RideS.in_ wr x) ∧ Hid (∀ a, (x.legsA = some a ∨ x.pausesA = some a) → some a.block ≠ v.ownBlock) ∧ Hid (wr.ownsRow (w2.heap.size + 1) 3 1 v acc.length (intV acc)) ∧ Hid (acc.length ≤ k ∧ ∀ x ∈ acc, I64 x) ∧ Hid (allF r.norm 0 l [] = allF x.norm k (l.drop k) acc)) (fun i v wr => l.length - (intOf i).toNat)
  case atStart =>
    refine ⟨0, { r with legsA := a1, legsC := c1, pausesA := a2, pausesC := c2 }, [], Nat.zero_le _, rfl, Below.refl _ _, ?_, ?_, ?_, hoff1, ?_, (fun a ha e => by cases e), World.ownsRow_nil _ _ _ _, ⟨Nat.le_refl _, fun x hx => by cases hx⟩, rfl⟩
    · unfold RideS.at
      simp only [hW0c3, Nat.zero_add]
      exact hide (by simp)
    · intro j hj; simp [hW0f3]
    · exact RideS.ok_same hok2.out (by omega) (fun a ha hlt => (hW0b3 a.block hlt))
    · intro a ha; have := hin2.out a ha; omega
  case round =>
    obtain ⟨k, x, acc, hk, rfl, hb, hat, hz, hok, hoff, hin, hne, hown, hacc, hv⟩ := hrel
    obtain ⟨hd3, hy3⟩ := bcell hb
    have ht3 := hb.size
    have hq0_3 : w.heap.size < wr.heap.size := by omega
    have hq1_3 : w.heap.size + 1 < wr.heap.size := by omega
    have HW3 : Hid (Below w.heap.size w wr) := HB3.out.trans (hb.mono (by omega))
    have HB := hide hb; clear hb
    obtain ⟨he3, hef3⟩ := bcell HW3.out
    have hq2 : w2.heap.size < wr.heap.size := by omega
    by_cases hlt : k < l.length
    · obtain ⟨eb, eo, ee, ebw, ef⟩ := hL (by omega)
      obtain ⟨f0, f1, f2⟩ := ef k hlt
      have HE := hide (HEOK.out _ (List.getElem_mem hlt))
      have hv2 := hide (hv.out.trans (show allF x.norm k (l.drop k) acc = (if (narrowL x l[k]).2 = 0 then allF (narrowL x l[k]).1 (k+1) (l.drop (k+1)) acc else allF x.norm (k+1) (l.drop (k+1)) (acc ++ [(k : Int)])) by rw [List.drop_eq_getElem_cons hlt, allF_cons]))
      generalize l[k] = e at *
      clear hv ef
      have hebn : eb < wr.heap.size := by omega
      go_wp2_with fail
      refine (take_c x w2.heap.size e _ ?_ ?_ ?_ ?_ ?_ ?_ ?_).mono ?_
      · simp; omega
      · exact RideS.at_below ((Below.refl _ _).alloc (Nat.le_refl _) _) hq2 hat.out
      · intro j hj
        rw [(bcell ((Below.refl wr.heap.size wr).alloc (Nat.le_refl _) _)).2 _ _ hq2]; exact hz.out j hj
      · exact RideS.ok_alloc hok.out _
      · exact EvS.ok_below (by repeat (first | with_reducible exact (HW3.out) | with_reducible refine Below.setCell ?_ ?_ _ | with_reducible refine Below.alloc ?_ ?_ _ | with_reducible refine Below.drew ?_ | with_reducible refine below_drewN ?_ _ | omega | (simp <;> omega))) HE.out
      · exact RideS.off_mono hoff.out (Nat.zero_le _)
      · intro a ha; have := hin.out a ha; simp; omega
      rintro en w4 ⟨x2, rfl, hg, hn, hat2, hz2, hok2, hor, hin2⟩
      have hgs := hg.size
      simp at hgs
      have HG : Hid (wr.grownBy w4 (some w2.heap.size)) := ⟨hg.os, hg.tape, hg.output, by omega, fun k hk hne => (hg.block k (by simp; omega) hne).trans (((Below.refl wr.heap.size wr).alloc (Nat.le_refl _) _).block k hk)⟩
      have HB4 : Hid (Below w2.heap.size W3 w4) := HB.out.trans ⟨HG.out.os, HG.out.tape, HG.out.output, HG.out.size, fun k hk => HG.out.block k (by omega) (by intro e; cases e; omega)⟩
      have HO4 := hide (hown.out.kept HG.out (by
        have := hown.out.lt
        cases hb : Value.ownBlock _ with
        | none => exact .inl rfl
        | some q => right; intro e; cases e; have := this _ hb; omega))
      have HOFF2 := hide (show RideS.off w1.heap.size w2.heap.size x2 from by
        rcases hor with h | ⟨h1, h2⟩
        · exact RideS.off_mono (RideS.off_of_from h (by simp; omega)) (by simp; omega)
        · intro a ha; rw [h1, h2] at ha; exact hoff.out a ha)
      have HNE2 := hide (show ∀ a, (x2.legsA = some a ∨ x2.pausesA = some a) → some a.block ≠ Value.ownBlock u10 from by
        intro a ha
        rcases hor with h | ⟨h1, h2⟩
        · intro e
          have h3 := (hown.out.lt a.block e.symm).2
          have h4 := (RideS.off_of_from (p := w2.heap.size) h (by simp; omega) a ha).1
          simp at h4; omega
        · rw [h1, h2] at ha; exact hne.out a ha)
      have HIN2 := hide hin2; clear hin2
      have HAT2 := hide hat2; have HZ2 := hide hz2; have HOK2 := hide hok2; have HN2 := hide hn
      clear hat2 hz2 hok2 hn hg hor hat hz hok hoff hown HG hin hne
      have hqa : w2.heap.size < w4.heap.size := by omega
      generalize narrowL x e = nv at *
      by_cases h0 : nv.2 = 0
      · have d0 : (nv.2 == 0) = true := by rw [beq_iff_eq]; exact h0
        have HV := hide (show allF r.norm 0 l [] = allF x2.norm (k+1) (l.drop (k+1)) acc by rw [hv2.out, if_pos h0, HN2.out, if_pos h0])
        clear h0 hv2
        go_wp2
        try rw [ee]
        go_roundw
        case rel => exact ⟨k+1, x2, acc, by omega, by go_num, HB4.out, HAT2, HZ2, HOK2, HOFF2, HIN2, HNE2, HO4, ⟨by have := hacc.out.1; omega, hacc.out.2⟩, HV⟩
        case measure => simp [intOf]; omega
      · have d0 : (nv.2 == 0) = false := by rw [beq_eq_false_iff_ne]; exact h0
        have HV := hide (show allF r.norm 0 l [] = allF x2.norm (k+1) (l.drop (k+1)) (acc ++ [(k : Int)]) by rw [hv2.out, if_neg h0, HN2.out, if_neg h0])
        clear h0 hv2
        obtain ⟨i0, hi, hz0, hz1, hz2⟩ := info_parts info3
        have JI := hide hi; have JZ0 := hide hz0; have JZ1 := hide hz1; have JZ2 := hide hz2
        clear hi hz0 hz1 hz2
        have hal := hacc.out.1
        go_wp2_with (at_builtin; refine wpList_append_lies _ rfl (.tmp 37) (.tmp 39) 39 rfl (w2.heap.size + 1) 3 i0 _ 1 8 Try.underlying39 JI.out JZ0.out JZ1.out JZ2.out rfl (by decide) _ acc.length (intV acc) (by rfl) ?c0 ⟨w4.heap.size, 0, none⟩ 1 1 [.int .i64 k] (by rfl) (by rfl) ?c1 (by simp [Value.oneCell']) (by omega) (by unfold maxLen; omega) (by omega) (by first | omega | (simp <;> omega)) (w4.heap.size + 1) (by simp) ?_)
        case c0 => exact World.ownsRow.alloc HO4.out _
        case c1 => (intro j u hj; rw [addr_add]; simpa using hj)
        intro g5 c5 w5 hown5 hgrow5 hg5 hg5lt
        have HG5 : Hid (w4.grownBy w5 (Value.ownBlock u10)) := ⟨hgrow5.os, hgrow5.tape, hgrow5.output, by have := hgrow5.size; simp at this; omega, fun k hk hne => (hgrow5.block k (by simp; omega) hne).trans (((Below.refl w4.heap.size w4).alloc (Nat.le_refl _) _).block k hk)⟩
        have HOB : Hid (∀ k, k ≤ w2.heap.size → some k ≠ Value.ownBlock u10) := fun k hk e => by have := (HO4.out.lt k e.symm).1; omega
        have hw5s := HG5.out.size
        have HB5 : Hid (Below w2.heap.size W3 w5) := HB4.out.trans ⟨HG5.out.os, HG5.out.tape, HG5.out.output, HG5.out.size, fun k hk => HG5.out.block k (by omega) (HOB.out k (by omega))⟩
        have hp5 : w5.heap[w2.heap.size]? = w4.heap[w2.heap.size]? := HG5.out.block _ hqa (HOB.out _ (Nat.le_refl _))
        have HP5 := hide hp5; clear hp5
        have HAT5 := hide (show RideS.at w5 w2.heap.size 0 x2 by
          have h := HAT2.out
          have hc : ∀ j, w5.cell? ⟨w2.heap.size, j, none⟩ = w4.cell? ⟨w2.heap.size, j, none⟩ := fun j => World.cell?_of_block HP5.out
          unfold RideS.at at *; simp only [hc]; exact h)
        have HZ5 := hide (show ∀ j, j < 13 → w5.frozen? ⟨w2.heap.size, j, none⟩ = false from fun j hj => (World.frozen?_of_block (a := ⟨w2.heap.size, j, none⟩) HP5.out).trans (HZ2.out j hj))
        have HOK5 := hide (show RideS.ok w5 x2 from RideS.ok_same HOK2.out hw5s (fun a ha hlt => HG5.out.block a.block hlt (fun e => by
          exact HNE2.out a ha e)))
        have HO5 : Hid (w5.ownsRow (w2.heap.size + 1) 3 1 (.slice (some ⟨g5, 0, none⟩) (acc.length + 1) c5) (acc ++ [(k : Int)]).length (intV (acc ++ [(k : Int)]))) := by
          rw [intV_append, List.length_append]; exact hown5
        have HNE5 := hide (show ∀ a, (x2.legsA = some a ∨ x2.pausesA = some a) → some a.block ≠ Value.ownBlock (.slice (some ⟨g5, 0, none⟩) (acc.length + 1) c5) from by
          intro a ha e
          have hlt := HIN2.out a ha
          have hne := HNE2.out a ha
          rcases hg5 with h5 | h5
          · exact hne (e.trans h5.symm)
          · simp only [Value.ownBlock, Option.some.injEq] at e; omega)
        have HIN5 := hide (show RideS.in_ w5 x2 from fun a ha => Nat.lt_of_lt_of_le (HIN2.out a ha) hw5s)
        clear hown5 hgrow5 hg5 hg5lt
        go_wp2
        try rw [ee]
        go_roundw
        case rel => exact ⟨k+1, x2, acc ++ [(k : Int)], by omega, by go_num, HB5.out, HAT5, HZ5, HOK5, HOFF2, HIN5, HNE5, HO5, ⟨by have := hacc.out.1; simp; omega, fun y hy => by
          rcases List.mem_append.1 hy with h | h
          · exact hacc.out.2 y h
          · simp at h; subst h; exact ⟨by omega, by omega⟩⟩, HV⟩
        case measure => simp [intOf]; omega
    · obtain rfl : k = l.length := by omega
      have hV := hide (show allL r l = (x.norm, acc, 0) by
        have h := hv.out
        rw [List.drop_of_length_le (Nat.le_refl _), allF] at h
        rw [HN.out, h])
      clear hv
      obtain ⟨a5, c5, hsh⟩ := own_shape hown.out
      subst hsh
      obtain ⟨x0, x1, x2, x3, x4, x5, x6, x7, x8, x9, x10, x11, x12⟩ := hat.out
      simp only [Nat.zero_add] at x0 x1 x2 x3 x4 x5 x6 x7 x8 x9 x10 x11 x12
      have hw1s : w.heap.size ≤ w1.heap.size := by omega
      go_wp2
      refine bodyPost_ret (v := .tuple #[RV x, .slice a5 acc.length c5, .int .i64 0]) (by simp [results, Try.results16, go_sem, *]) rfl (AllPost.fin (B := w2.heap.size + 1) ?_ hV.out ?_ ?_ hacc.out.2 ⟨fun a ha => Nat.le_trans hw1s (hoff.out a (.inl ha)).1, fun a ha => Nat.le_trans hw1s (hoff.out a (.inr ha)).1⟩ ?_)
      · repeat (first | with_reducible exact (HW3.out) | with_reducible refine Below.setCell ?_ ?_ _ | with_reducible refine Below.alloc ?_ ?_ _ | with_reducible refine Below.drew ?_ | with_reducible refine below_drewN ?_ _ | omega | (simp <;> omega))
      · repeat (first | with_reducible exact hok.out | with_reducible refine RideS.ok_setCell ?_ hoff.out _ _ ?_ | with_reducible refine RideS.ok_alloc ?_ _ | (simp <;> omega))
      · repeat (first | with_reducible exact hown.out | with_reducible refine ownsRow_setCell ?_ _ _ ?_ | with_reducible refine World.ownsRow.alloc ?_ _ | (simp <;> omega))
      · intro a ha; have := hin.out a ha; simp; omega


end Go.Proofs.Ytfpdhalfkfffnaa
