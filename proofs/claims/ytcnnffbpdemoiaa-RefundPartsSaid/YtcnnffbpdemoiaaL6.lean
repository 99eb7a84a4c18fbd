import Derived.Test.YtcnnffbpdemoiaaL5
import Derived.Deep.RegionLawGrows
namespace Go.Proofs.Ytcnnffbpdemoiaa
open Go.RowKit
set_option linter.unusedVariables false

set_option maxRecDepth 100000 in
set_option maxHeartbeats 8000000 in
theorem parts_good (a0 : Option Addr) (b o cap0 cap : Nat) (fs : List FareS) (l : List RefS) (k : Nat) (part id ride item : Int) (w : World) (HF : FareS.sl w a0 cap0 fs) (H : RefS.sl w (some ⟨b, o, none⟩) cap l) (hbw : b < w.heap.size) (hk : k < l.length)
    (hcell : ∀ i (h : i < l.length), RefS.at w b (o + i * 4) l[i]) (jr : I64 ride) (ji : I64 item)
    (hfew : fewL fs = true) (hl : (l.length : Int) ≤ 60) (i1 : 1 ≤ id) (i2 : id ≤ 1000000) (hc : checkL fs l = 0) (p1 : 1 ≤ part) (p2 : part < l[k].amount) :
    Calls Try.prog 8 #[.slice a0 fs.length cap0, .slice (some ⟨b, o, none⟩) l.length cap, .int .i64 k, .int .i64 part, .int .i64 id, .int .i64 ride, .int .i64 item] w (Ret w (.bool true)) := by
  have HF' := hide HF; clear HF
  have HL := hide H; clear H
  have JR := hide jr; have JI := hide ji; clear jr ji
  have G := hide (check_good.1 hc)
  have HP := hide (fun hid : ∀ y ∈ l, y.id ≠ id => parted_good (check_good.1 hc) hk (by omega) p1 p2 i1 i2 hid)
  have HFL := hide (RefS.at_flat l o hcell)
  have HAM := hide (flat_amount l k hk part)
  have ham := (check_good.1 hc).amounts l[k] (List.getElem_mem hk)
  obtain ⟨h0, h1, h2, h3⟩ := hcell k hk
  have HOKY := hide (HL.out.2.2.2.2 l[k] (List.getElem_mem hk))
  have HCELL := hide hcell; clear hcell
  generalize hlk : l[k] = y at *
  have HLK := hide hlk; clear hlk
  have k0 : (0 : Int) ≤ (k : Int) := by omega
  have k1 : (k : Int) < (l.length : Int) := by omega
  have HFEW := hide hfew; clear hfew
  have HC := hide hc; clear hc
  obtain ⟨a1, a2⟩ := ham
  obtain ⟨i0, hi, hz0, hz1, hz2⟩ := info_parts info30
  have HI := hide hi; have HZ0 := hide hz0; have HZ1 := hide hz1; have HZ2 := hide hz2
  clear hi hz0 hz1 hz2
  go_enter Try.func8, Try.ntmps8
  go_wp2_with fail
  refine (few_c a0 cap0 fs _ HF'.out).mono ?_
  rintro e w1 ⟨rfl, rfl⟩
  rw [HFEW.out]
  go_wp2_with fail
  refine (check_c a0 _ cap0 cap fs l _ HF'.out HL.out).mono ?_
  rintro e w2 ⟨rfl, hb⟩
  rw [HC.out]
  have hc2 := (bcell hb).1
  have hs2 := hb.size
  have B2 := hide hb; clear hb
  have OWN0 := hide (show (w2.alloc (.cells #[] 30)).ownsRow w2.heap.size 30 4 (.slice (some ⟨w2.heap.size, 0, none⟩) 0 0) 0 [] from
    ⟨rfl, .inr ⟨_, 0, #[], rfl, Nat.le_refl _, heap_alloc_new _ _, Nat.le_refl _, Nat.zero_le _, rfl, rfl⟩⟩)
  go_wp2_with (at_builtin; refine wpList_append_own _ rfl _ _ 23 rfl w2.heap.size 30 i0 _ 4 32 Try.underlying23 HI.out HZ0.out HZ1.out HZ2.out rfl (by decide) _ _ _ rfl OWN0.out ⟨b, o, none⟩ l.length cap (RefS.flat l) rfl (RefS.flat_len l) ?c1 (RefS.flat_cell l) ?c3 ?c4 ?c5 ?_)
  case c1 =>
    intro j u hj
    rw [addr_add, World.cell?_alloc_lt]
    · rw [hc2 _ _ hbw]; exact HFL.out j u hj
    · show b < _; omega
  case c3 => unfold maxLen; omega
  case c4 => omega
  case c5 => first | omega | (simp <;> omega)
  intro v3 w3 hown3 hgrow3 _
  obtain ⟨g, c3, hv3, hg3, hfz, hcl, hgl⟩ := ownsRow_some hown3 (by omega)
  subst hv3
  have hb3 : Below w2.heap.size w2 w3 := ((Below.refl _ _).alloc (Nat.le_refl _) _).grown hgrow3 (by simp) (fun q hq => by simp [Value.ownBlock] at hq; omega)
  have hc3' := (bcell hb3).1
  have B3 := hide (B2.out.trans (hb3.mono hs2)); clear hb3 hgrow3
  have O3 := hide hown3
  have hfz3 := hfz (k * 4 + 3)
  have hcl3 : ∃ u, w3.cell? ⟨g, k * 4 + 3, none⟩ = some u := by
    have hlt : k * 4 + 3 < (RefS.flat l).length := by rw [RefS.flat_len]; omega
    exact ⟨_, hcl _ _ (List.getElem?_eq_getElem hlt)⟩
  obtain ⟨u3, hu3⟩ := hcl3
  have O4 := hide (ownsRow_set hown3 (j := k * 4 + 3) (by omega) (.int .i64 part)); clear hown3 hcl hfz
  have q1 : b < w2.heap.size := by omega
  have q2 : b ≠ g := by omega
  rw [← HAM.out] at O4
  go_wp2
  have hcw4 : ∀ x, (w3.setCell ⟨g, k * 4 + 3, none⟩ (.int .i64 part)).cell? ⟨b, x, none⟩ = w.cell? ⟨b, x, none⟩ := by
    intro x
    rw [World.cell?_of_block (w := w3) (heap_setCell_other w3 _ b _ (by show b ≠ g; exact q2)), hc3' _ _ q1, hc2 _ _ hbw]
  have hb4 : Below w.heap.size w (w3.setCell ⟨g, k * 4 + 3, none⟩ (.int .i64 part)) := B3.out.setCell (by show _ ≤ g; omega) _
  have hs34 : (w3.setCell ⟨g, k * 4 + 3, none⟩ (.int .i64 part)).heap.size = w3.heap.size := by simp [World.setCell]
  have hs23 : w2.heap.size ≤ w3.heap.size := by omega
  clear hc2 hc3' hu3 hfz3
  generalize w3.setCell ⟨g, k * 4 + 3, none⟩ (.int .i64 part) = w4 at *
  have B4 := hide hb4; clear hb4
  have q3 : b < w4.heap.size := by omega
  have q4 : w2.heap.size ≤ w4.heap.size := by omega
  clear hs34 hs23
  go_loop [16] (fun i => ∃ j : Nat, j ≤ l.length ∧ i = .int .i64 j ∧ Hid (∀ i (h : i < l.length), i < j → l[i].id ≠ id)) (fun i => l.length - (intOf i).toNat)
  case atStart => exact ⟨0, Nat.zero_le _, rfl, fun _ _ h => absurd h (Nat.not_lt_zero _)⟩
  case round =>
    obtain ⟨j, hj, rfl, hno⟩ := hrel
    by_cases hjl : j < l.length
    · obtain ⟨x0, x1, x2, x3⟩ := HCELL.out j hjl
      generalize hlj : l[j] = z at *
      have HLJ := hide hlj; clear hlj
      have hjl' : (j : Int) < (l.length : Int) := by omega
      cases hid : (z.id == id)
      · go_wp2
        go_round
        case rel =>
          refine ⟨j+1, by omega, by go_num, ?_⟩
          intro i h hi
          by_cases e : i = j
          · subst e; have := HLJ.out; simp only [this]; intro e'; simp [e'] at hid
          · exact hno i h (by omega)
        case measure => simp [intOf]; omega
      · go_wp2_with fail
        refine (awake_c _).mono ?_
        rintro e w5 ⟨rfl, hb5⟩
        have B5 := hide (B4.out.trans (hb5.mono B4.out.size)); clear hb5
        go_wp2
        go_ret
        exact ⟨rfl, B5.out⟩
    · obtain rfl : j = l.length := by omega
      have hno' := hide (show ∀ y ∈ l, y.id ≠ id by
        intro y hy
        obtain ⟨j, hj, rfl⟩ := List.getElem_of_mem hy
        exact hno.out j hj hj)
      clear hno
      obtain ⟨hgood, eI, eR⟩ := HP.out hno'.out
      obtain ⟨m, hm⟩ : ∃ m, m = parted l k part id y := ⟨_, rfl⟩
      rw [← hm] at hgood eI eR
      have HG := hide hgood; have EI := hide eI; have ER := hide eR; clear hgood eI eR
      have E1 := hide (show l.length + 1 = m.length by rw [hm]; simp [parted])
      have E2 := hide (show RefS.flat (l.set k { y with amount := part }) ++ (⟨id, y.ride, y.item, y.amount - part⟩ : RefS).vals = RefS.flat m by rw [hm, parted, RefS.flat_append, RefS.flat_one])
      have HOK := hide (show ∀ (X : World), ∀ x ∈ m, RefS.ok X x by
        intro X x hx
        rw [hm, parted] at hx
        have hyo := HOKY.out
        rcases List.mem_append.1 hx with hx | hx
        · rcases List.mem_or_eq_of_mem_set hx with hx | hx
          · exact HL.out.2.2.2.2 x hx
          · subst hx; exact ⟨hyo.1, hyo.2.1, hyo.2.2.1, i64_lit _ (by dsimp only; omega)⟩
        · simp at hx; subst hx; exact ⟨i64_lit _ (by dsimp only; omega), hyo.2.1, hyo.2.2.1, i64_lit _ (by dsimp only; omega)⟩)
      clear hm
      have u1 : IntKind.i64.wrap (y.amount - part) = y.amount - part := IntWalk.i64_in _ (by omega)
      go_wp2
      go_region_law ((refine step_append_own rfl (.tmp 93) (.tmp 113) 23 rfl 30 i0 _ 4 32 Try.underlying23 HI.out HZ0.out HZ1.out HZ2.out rfl (by decide) w2.heap.size (.slice (some ⟨g, 0, none⟩) l.length c3) l.length (RefS.flat (l.set k { y with amount := part })) (by rfl) (O4.out.alloc _) ⟨w4.heap.size, 0, none⟩ 1 1 (⟨id, y.ride, y.item, y.amount - part⟩ : RefS).vals (by rfl) rfl (by intro j u hj; rw [addr_add]; simpa using hj) (by intro u hu; exact RefS.flat_cell [⟨id, y.ride, y.item, y.amount - part⟩] u (by simpa [RefS.flat] using hu)) (by unfold maxLen; omega) (by omega) (by first | omega | (simp <;> omega)) ?_; intro v5 w5 hown5 hgrow5; rw [E1.out, E2.out] at hown5; have HB5 := hide (show Below w.heap.size w w5 from Below.grown ((B4.out.alloc B4.out.size _).drew) hgrow5 (by have := B4.out.size; first | omega | (simp <;> omega)) (fun q hq => by simp [Value.ownBlock] at hq; omega)); obtain ⟨b5, c5, hv5, hbb5, hsl5⟩ := RefS.sl_own hown5 (by have := E1.out; omega) (HOK.out _); rw [hv5]; have L5 := hide hsl5; clear hv5 hown5 hgrow5 hsl5))
      all_goals
        clear u1
        go_wp2_with fail
        refine (left_c a0 _ cap0 cap fs l ride item _ (FareS.sl_below HB5.out HF'.out) (RefS.sl_below HB5.out HL.out) JR.out JI.out).mono ?_
        rintro e w6 ⟨rfl, hb6⟩
        have B6 := hide (HB5.out.trans (hb6.mono HB5.out.size)); have L6 := hide (RefS.sl_below hb6 L5.out); clear hb6
        have V1 := hide (parted_left G.out HG.out EI.out ER.out ride item)
        have V2 := hide (parted_net G.out HG.out ER.out ride)
        go_wp2_with fail
        refine (left_c a0 _ cap0 c5 fs m ride item _ (FareS.sl_below B6.out HF'.out) L6.out JR.out JI.out).mono ?_
        rintro e w7 ⟨rfl, hb7⟩
        rw [V1.out]
        have B7 := hide (B6.out.trans (hb7.mono B6.out.size)); have L7 := hide (RefS.sl_below hb7 L6.out); clear hb7
        go_wp2_with fail
        refine (net_c a0 _ cap0 cap fs l ride _ (FareS.sl_below B7.out HF'.out) (RefS.sl_below B7.out HL.out) JR.out).mono ?_
        rintro e w8 ⟨rfl, hb8⟩
        have B8 := hide (B7.out.trans (hb8.mono B7.out.size)); have L8 := hide (RefS.sl_below hb8 L7.out); clear hb8
        go_wp2_with fail
        refine (net_c a0 _ cap0 c5 fs m ride _ (FareS.sl_below B8.out HF'.out) L8.out JR.out).mono ?_
        rintro e w9 ⟨rfl, hb9⟩
        rw [V2.out]
        have B9 := hide (B8.out.trans (hb9.mono B8.out.size)); have L9 := hide (RefS.sl_below hb9 L8.out); clear hb9
        go_wp2_with fail
        refine (check_c a0 _ cap0 c5 fs m _ (FareS.sl_below B9.out HF'.out) L9.out).mono ?_
        rintro e wa ⟨rfl, hba⟩
        rw [check_good.2 HG.out]
        have Ba := hide (B9.out.trans (hba.mono B9.out.size)); clear hba
        go_wp2_with fail
        refine (awake_c _).mono ?_
        rintro e wb ⟨rfl, hbb⟩
        have Bb := hide (Ba.out.trans (hbb.mono Ba.out.size)); clear hbb
        go_wp2
        go_ret
        exact ⟨rfl, Bb.out⟩

theorem lawParts' (a0 : Option Addr) (cap0 : Nat) (fs : List FareS) (a : Option Addr) (cap : Nat) (l : List RefS) (at_ part id ride item : Int) (w : World) (HF : FareS.sl w a0 cap0 fs) (H : RefS.sl w a cap l) (_j1 : I64 at_) (_j2 : I64 part) (_j3 : I64 id) (jr : I64 ride) (ji : I64 item) :
    Calls Try.prog 8 #[.slice a0 fs.length cap0, .slice a l.length cap, .int .i64 at_, .int .i64 part, .int .i64 id, .int .i64 ride, .int .i64 item] w (Ret w (.bool true)) := by
  by_cases c1 : fewL fs = false
  · exact parts_bad1 a0 a cap0 cap fs l at_ part id ride item w HF (.inl c1)
  have c1' : fewL fs = true := by simpa using c1
  by_cases c2 : (60 : Int) < l.length
  · exact parts_bad1 a0 a cap0 cap fs l at_ part id ride item w HF (.inr (.inl ⟨c1', c2⟩))
  by_cases c3 : at_ < 0
  · exact parts_bad1 a0 a cap0 cap fs l at_ part id ride item w HF (.inr (.inr (.inl ⟨c1', by omega, c3⟩)))
  by_cases c4 : (l.length : Int) ≤ at_
  · exact parts_bad1 a0 a cap0 cap fs l at_ part id ride item w HF (.inr (.inr (.inr (.inl ⟨c1', by omega, by omega, c4⟩))))
  by_cases c5 : id < 1
  · exact parts_bad1 a0 a cap0 cap fs l at_ part id ride item w HF (.inr (.inr (.inr (.inr (.inl ⟨c1', by omega, by omega, by omega, c5⟩)))))
  by_cases c6 : 1000000 < id
  · exact parts_bad1 a0 a cap0 cap fs l at_ part id ride item w HF (.inr (.inr (.inr (.inr (.inr ⟨c1', by omega, by omega, by omega, by omega, c6⟩)))))
  obtain ⟨k, rfl⟩ := Int.eq_ofNat_of_zero_le (by omega : 0 ≤ at_)
  have hk : k < l.length := by omega
  obtain ⟨b, o, rfl, hbw, hcell⟩ := H.2.2.2.1 (by omega)
  by_cases c7 : checkL fs l = 0
  · by_cases c8 : part < 1
    · exact parts_bad2 a0 b o cap0 cap fs l k part id ride item w HF H hbw hk (hcell k hk) c1' (by omega) (by omega) (by omega) (.inr (.inl ⟨c7, c8⟩))
    · by_cases c9 : l[k].amount ≤ part
      · exact parts_bad2 a0 b o cap0 cap fs l k part id ride item w HF H hbw hk (hcell k hk) c1' (by omega) (by omega) (by omega) (.inr (.inr ⟨c7, by omega, c9⟩))
      · exact parts_good a0 b o cap0 cap fs l k part id ride item w HF H hbw hk hcell jr ji c1' (by omega) (by omega) (by omega) c7 (by omega) (by omega)
  · exact parts_bad2 a0 b o cap0 cap fs l k part id ride item w HF H hbw hk (hcell k hk) c1' (by omega) (by omega) (by omega) (.inl c7)
end Go.Proofs.Ytcnnffbpdemoiaa
