/-
  math/bits.Div64 and num.quotient, walked.
-/
import Derived.Test.YtjlhnlfalomenaaDoorBq
import Derived.Test.YtjlhnlfalomenaaDoorJa
namespace Go.Proofs.YtjlhnlfalomenaaDoor
open Go.RowKit
open Nat (reduceAdd reduceEqDiff reduceLT reduceLeDiff reduceSub reducePow reduceMul)
open Int (reduceToNat reduceLE reduceEq)
set_option linter.unusedVariables false
set_option linter.unusedSimpArgs false
set_option linter.unnecessarySimpa false

theorem quoN {a b : Nat} (h : a < 18446744073709551616) : IntKind.u64.wrap ((a : Int).tdiv (b : Int)) = ((a / b : Nat) : Int) := by
  rw [Int.tdiv_eq_ediv_of_nonneg (by omega), ← Int.natCast_ediv, wu_id (Nat.lt_of_le_of_lt (Nat.div_le_self _ _) h)]
theorem remN (a b : Nat) : (a : Int).tmod (b : Int) = ((a % b : Nat) : Int) := by
  rw [Int.tmod_eq_emod_of_nonneg (by omega), Int.natCast_emod]
theorem shlN {a s : Nat} (h : s ≤ 64) : IntKind.u64.wrap ((a : Int) * 2 ^ min s IntKind.u64.bits) = ((a * 2 ^ s % 18446744073709551616 : Nat) : Int) := by
  rw [show min s IntKind.u64.bits = s from Nat.min_eq_left h, show (2 : Int) ^ s = ((2 ^ s : Nat) : Int) by rw [Int.natCast_pow]; rfl, mulM]
theorem shrN {a s : Nat} (h : s ≤ 64) : ((a : Int)).fdiv (2 ^ min s IntKind.u64.bits) = ((a / 2 ^ s : Nat) : Int) := by
  rw [show min s IntKind.u64.bits = s from Nat.min_eq_left h, show (2 : Int) ^ s = ((2 ^ s : Nat) : Int) by rw [Int.natCast_pow]; rfl, Int.fdiv_eq_ediv_of_nonneg _ (Int.natCast_nonneg _), Int.natCast_ediv]
theorem mulB {r : Nat} (h : r < 4294967296) : IntKind.u64.wrap (4294967296 * (r : Int)) = ((4294967296 * r : Nat) : Int) := by
  rw [IntKind.wrap_u64]; omega
theorem subW {a b : Nat} (h : b ≤ a) (h2 : a < 18446744073709551616) : IntKind.u64.wrap ((a : Int) - (b : Int)) = ((a - b : Nat) : Int) := by
  rw [IntKind.wrap_u64]; omega
theorem sub1W {a : Nat} (h : 1 ≤ a) (h2 : a < 18446744073709551616) : IntKind.u64.wrap ((a : Int) - 1) = ((a - 1 : Nat) : Int) := by
  rw [IntKind.wrap_u64]; omega
theorem sub64 {a : Nat} (h : a ≤ 64) : IntKind.u64.wrap (64 - (a : Int)) = ((64 - a : Nat) : Int) := by
  rw [IntKind.wrap_u64]; omega
theorem orN {h s b : Nat} (hb : b < 2 ^ s) (hh : h * 2 ^ s < 18446744073709551616) (hb2 : b < 18446744073709551616) : bits .or .u64 ((h * 2 ^ s : Nat) : Int) (b : Int) = ((h * 2 ^ s + b : Nat) : Int) := by
  rw [bits_or_u64_nat _ _ hh hb2]
  congr 1
  rw [Nat.mul_comm, Nat.two_pow_add_eq_or_of_lt hb]
theorem usub {u n v q : Nat} (hv : v < 18446744073709551616) (hv0 : 0 < v) (hq : q = (u * 4294967296 + n) / v) :
    IntKind.u64.wrap (IntKind.u64.wrap (IntKind.u64.wrap ((u : Int) * 4294967296) + (n : Int)) - IntKind.u64.wrap ((q : Int) * (v : Int))) = (((u * 4294967296 + n) % v : Nat) : Int) := by
  have h1 := Nat.div_add_mod (u * 4294967296 + n) v
  have h2 := Nat.mod_lt (u * 4294967296 + n) hv0
  rw [← hq] at h1
  rw [Nat.mul_comm] at h1
  rw [← Int.natCast_mul]
  generalize (u * 4294967296 + n) % v = r at *
  generalize q * v = p at *
  simp only [IntKind.wrap_u64]
  omega
theorem urem {u v : Nat} (hu : u < 18446744073709551616) : IntKind.u64.wrap ((u : Int) - IntKind.u64.wrap (((u / v : Nat) : Int) * (v : Int))) = ((u % v : Nat) : Int) := by
  have h1 := Nat.div_add_mod u v
  rw [Nat.mul_comm] at h1
  rw [← Int.natCast_mul]
  generalize u / v * v = p at *
  generalize u % v = r at *
  simp only [IntKind.wrap_u64]
  omega
theorem uquo {a b : Nat} (ha : a < 4294967296) (hb : b < 4294967296) : IntKind.u64.wrap (IntKind.u64.wrap ((a : Int) * 4294967296) + (b : Int)) = ((a * 4294967296 + b : Nat) : Int) := by
  simp only [IntKind.wrap_u64]; omega
theorem nlt0 (n : Nat) : ((n : Int) < 0) = False := by simp
theorem neq0 {n : Nat} (h : 0 < n) : ((n : Int) = 0) = False := by simp; omega
set_option maxHeartbeats 8000000 in
theorem div64_g (hi lo y : Nat) (hy64 : y < 18446744073709551616) (hlo : lo < 18446744073709551616) (h : hi < y) : Good Tryd.prog 40 [u64P hi, u64P lo, u64P y] (.tup [u64P ((hi * 18446744073709551616 + lo) / y), u64P ((hi * 18446744073709551616 + lo) % y)]) := by
  refine good40 (by simp) ?_
  have hy : 0 < y := by omega
  have z1 : ((y : Int) == 0) = false := by simp; omega
  have z2 : decide ((y : Int) ≤ (hi : Int)) = false := by rw [decide_eq_false_iff_not]; omega
  by_cases h0 : hi = 0
  · subst h0
    have z3 : (((0 : Nat) : Int) == 0) = true := rfl
    simp only [ac40, u64P, z1, z2, z3, neq0 hy, quoN hlo, remN, Nat.zero_mul, Nat.zero_add, AW, reduceAdd, reduceCtorEq, reduceEqDiff, ↓reduceIte, reduceLT, reduceLeDiff, reduceSub, reducePow, reduceMul, reduceToNat, reduceLE, reduceEq, Int.reduceLT, Int.reduceBEq, Int.reduceBNe]
    exact rfl
  have z3 : ((hi : Int) == 0) = false := by simp; omega
  obtain ⟨l1, l2⟩ := len_ge hy
  have l3 := len_lt y
  have l4 := len_64 hy64
  obtain ⟨s, hs⟩ : ∃ s, s = 64 - lenN y := ⟨_, rfl⟩
  have hs63 : s ≤ 63 := by omega
  have hs64 : s ≤ 64 := by omega
  have hp := Nat.two_pow_pos s
  obtain ⟨v, hv⟩ : ∃ v, v = y * 2 ^ s := ⟨_, rfl⟩
  have v1h : 9223372036854775808 ≤ v := by
    have e : (2 : Nat) ^ (lenN y - 1) * 2 ^ s = 9223372036854775808 := by rw [← Nat.pow_add, show lenN y - 1 + s = 63 by omega]
    rw [hv, ← e]; exact Nat.mul_le_mul_right _ l1
  have hv64 : v < 18446744073709551616 := by
    have e : (2 : Nat) ^ lenN y * 2 ^ s = 18446744073709551616 := by rw [← Nat.pow_add, show lenN y + s = 64 by omega]
    rw [hv, ← e]; exact Nat.mul_lt_mul_of_pos_right l3 hp
  have hv0 : 0 < v := by omega
  obtain ⟨hnorm, huv, hlow⟩ := div_norm (hi := hi) (lo := lo) (y := y) hs63 hlo h
  have hhv : hi * 2 ^ s < 18446744073709551616 := by
    have : hi * 2 ^ s ≤ y * 2 ^ s := Nat.mul_le_mul_right _ (by omega)
    omega
  have s1 := shlN (a := y) hs64
  rw [← hv, Nat.mod_eq_of_lt hv64] at s1
  have s2 := shlN (a := hi) hs64
  rw [Nat.mod_eq_of_lt hhv] at s2
  have s3 := shlN (a := lo) hs64
  have s4 := shrN (a := lo) (s := 64 - s) (by omega)
  have s5 := sub64 hs64
  have s6 := orN (h := hi) hlow hhv (Nat.lt_of_le_of_lt (Nat.div_le_self _ _) hlo)
  have s7 := wu_id (x := s) (by omega)
  obtain ⟨u, hu⟩ : ∃ u, u = hi * 2 ^ s + lo / 2 ^ (64 - s) := ⟨_, rfl⟩
  obtain ⟨w, hwe⟩ : ∃ w, w = lo * 2 ^ s % 18446744073709551616 := ⟨_, rfl⟩
  have hw : w < 18446744073709551616 := by rw [hwe]; exact Nat.mod_lt _ (by decide)
  rw [← hu] at s6 huv
  rw [← hu, ← hwe] at hnorm
  rw [← hwe] at s3
  rw [← hv] at huv
  have a1 := andN hv64
  have a2 := andN hw
  have b1 := shr32 v
  have b2 := shr32 w
  have hvv := Nat.div_add_mod v 4294967296
  rw [Nat.mul_comm] at hvv
  have h1 : 2147483648 ≤ v / 4294967296 := by omega
  have h2 : v / 4294967296 < 4294967296 := by omega
  have h3 : v % 4294967296 < 4294967296 := Nat.mod_lt _ (by decide)
  have hn1 : w / 4294967296 < 4294967296 := by omega
  have hn0 : w % 4294967296 < 4294967296 := Nat.mod_lt _ (by decide)
  obtain ⟨v1, hv1e⟩ : ∃ v1, v1 = v / 4294967296 := ⟨_, rfl⟩
  obtain ⟨v0, hv0e⟩ : ∃ v0, v0 = v % 4294967296 := ⟨_, rfl⟩
  obtain ⟨n1, hn1e⟩ : ∃ n1, n1 = w / 4294967296 := ⟨_, rfl⟩
  obtain ⟨n0, hn0e⟩ : ∃ n0, n0 = w % 4294967296 := ⟨_, rfl⟩
  rw [← hv1e] at b1 hvv h1 h2
  rw [← hv0e] at a1 hvv h3
  rw [← hn1e] at b2 hn1
  rw [← hn0e] at a2 hn0
  rw [← hvv] at huv
  have hqq := quoN (a := u) (b := v1) (by omega)
  have hrr := urem (u := u) (v := v1) (by omega)
  have hv10 := neq0 (n := v1) (by omega)
  simp only [ac40, u64P, z1, z2, z3, AW, reduceAdd, reduceCtorEq, reduceEqDiff, ↓reduceIte, reduceLT, reduceLeDiff, reduceSub, reducePow, reduceMul, reduceToNat, reduceLE, reduceEq, Int.reduceLT, Int.reduceBEq, Int.reduceBNe]
  refine ops_call (lead_g y hy64) (by simp only [u64P, intP, AW, reduceAdd, reduceCtorEq, reduceEqDiff, ↓reduceIte, reduceLT, reduceLeDiff, reduceSub, reducePow, reduceMul, reduceToNat, reduceLE, reduceEq, Int.reduceLT, Int.reduceBEq, Int.reduceBNe]) ?_; simp only [u64P, intP, AW, reduceAdd, reduceCtorEq, reduceEqDiff, ↓reduceIte, reduceLT, reduceLeDiff, reduceSub, reducePow, reduceMul, reduceToNat, reduceLE, reduceEq, Int.reduceLT, Int.reduceBEq, Int.reduceBNe]
  rw [← hs]
  simp only [s7, nlt0, s1, b1, a1, s2, s5, s4, s6, s3, b2, a2, hv10, hqq, hrr, AW, reduceAdd, reduceCtorEq, reduceEqDiff, ↓reduceIte, reduceLT, reduceLeDiff, reduceSub, reducePow, reduceMul, reduceToNat, reduceLE, reduceEq, Int.reduceLT, Int.reduceBEq, Int.reduceBNe]
  clear s1 s2 s3 s4 s5 s6 s7 a1 a2 b1 b2 hqq hrr z1 z2 z3 hlow hhv l1 l2 l3 l4 hs v1h hwe hu
  refine run_loop (ι := Nat × Nat) (fun x => ⟨[(2, .sc (.int .u64 ((v : Nat) : Int))), (8, .sc (.int .u64 ((s : Nat) : Int))), (9, .sc (.int .u64 ((v1 : Nat) : Int))), (10, .sc (.int .u64 ((v0 : Nat) : Int))), (11, .sc (.int .u64 ((u : Nat) : Int))), (13, .sc (.int .u64 ((n1 : Nat) : Int))), (14, .sc (.int .u64 ((n0 : Nat) : Int))), (15, .sc (.int .u64 ((x.1 : Nat) : Int))), (16, .sc (.int .u64 ((x.2 : Nat) : Int)))], [], 52, 135⟩) (fun x => Dig u n1 v1 v0 x.1 x.2 ∧ x.2 < 4294967296) (fun x => x.1) 52 (fun _ => rfl) (u / v1, u % v1) (by simp only [LW, Nat.reduceMod, Nat.reduceDiv, AW, reduceAdd, reduceCtorEq, reduceEqDiff, ↓reduceIte, reduceLT, reduceLeDiff, reduceSub, reducePow, reduceMul, reduceToNat, reduceLE, reduceEq, Int.reduceLT, Int.reduceBEq, Int.reduceBNe]) ⟨dig_init h1 h3 huv hn1, by have := Nat.mod_lt u (show 0 < v1 by omega); simp only; omega⟩ ?_
  rintro ⟨q, r⟩ ⟨g1, g2⟩
  simp only at g1 g2
  have gl := g1.le
  have w3 := mulB g2
  have w4 := addW (a := 4294967296 * r) (b := n1) (by omega)
  have w6 := addW (a := r) (b := v1) (by omega)
  have next : (4294967296 ≤ q ∨ 4294967296 * r + n1 < q * v0) → Dig u n1 v1 v0 (q - 1) (r + v1) ∧ 1 ≤ q ∧ q - 1 ≤ 4294967296 := dig_next h1 h3 huv hn1 g1
  have big : 4294967296 ≤ r + v1 → (4294967296 ≤ q ∨ 4294967296 * r + n1 < q * v0) → q - 1 = (u * 4294967296 + n1) / (v1 * 4294967296 + v0) := fun h ht => dig_big h1 h3 huv hn1 (next ht).1 (next ht).2.2 h
  by_cases t1 : 4294967296 ≤ q
  · have e1 : decide ((4294967296 : Int) ≤ (q : Int)) = true := by rw [decide_eq_true_eq]; omega
    obtain ⟨a1, a2, a3⟩ := next (.inl t1)
    have w5 := sub1W (a := q) a2 (by omega)
    by_cases t3 : 4294967296 ≤ r + v1
    · have e3 : decide ((4294967296 : Int) ≤ ((r + v1 : Nat) : Int)) = true := by rw [decide_eq_true_eq]; omega
      have hq := big t3 (.inl t1)
      rw [hvv] at hq
      simp only [e1, w5, w6, e3, AW, reduceAdd, reduceCtorEq, reduceEqDiff, ↓reduceIte, reduceLT, reduceLeDiff, reduceSub, reducePow, reduceMul, reduceToNat, reduceLE, reduceEq, Int.reduceLT, Int.reduceBEq, Int.reduceBNe]
      obtain ⟨q1, hq1e⟩ : ∃ q1, q1 = (q - 1) := ⟨_, rfl⟩
      rw [← hq1e] at hq ⊢
      have hq1 := hq
      have hq1b : q1 < 4294967296 := by rw [hq, ← hvv]; exact dig_lt h1 h3 huv hn1
      have hs1 := usub (u := u) (n := n1) hv64 hv0 hq
      obtain ⟨r1, hr1e⟩ : ∃ r1, r1 = (u * 4294967296 + n1) % v := ⟨_, rfl⟩
      rw [← hr1e] at hs1
      have hr1 : r1 < v := by rw [hr1e]; exact Nat.mod_lt _ hv0
      have hr1v : r1 < v1 * 4294967296 + v0 := by omega
      have hr2 := urem (u := r1) (v := v1) (by omega)
      have hqq := quoN (a := r1) (b := v1) (by omega)
      clear hq next big g1 g2 gl w3 w4 w6
      simp only [hs1, hqq, hr2, hv10, AW, reduceAdd, reduceCtorEq, reduceEqDiff, ↓reduceIte, reduceLT, reduceLeDiff, reduceSub, reducePow, reduceMul, reduceToNat, reduceLE, reduceEq, Int.reduceLT, Int.reduceBEq, Int.reduceBNe]
      refine run_loop (ι := Nat × Nat) (fun x => ⟨[(2, .sc (.int .u64 ((v : Nat) : Int))), (8, .sc (.int .u64 ((s : Nat) : Int))), (9, .sc (.int .u64 ((v1 : Nat) : Int))), (10, .sc (.int .u64 ((v0 : Nat) : Int))), (14, .sc (.int .u64 ((n0 : Nat) : Int))), (15, .sc (.int .u64 ((q1 : Nat) : Int))), (16, .sc (.int .u64 ((x.2 : Nat) : Int))), (17, .sc (.int .u64 ((r1 : Nat) : Int))), (18, .sc (.int .u64 ((x.1 : Nat) : Int)))], [], 92, 135⟩) (fun x => Dig r1 n0 v1 v0 x.1 x.2 ∧ x.2 < 4294967296) (fun x => x.1) 92 (fun _ => rfl) (r1 / v1, r1 % v1) (by simp only [LW, Nat.reduceMod, Nat.reduceDiv, AW, reduceAdd, reduceCtorEq, reduceEqDiff, ↓reduceIte, reduceLT, reduceLeDiff, reduceSub, reducePow, reduceMul, reduceToNat, reduceLE, reduceEq, Int.reduceLT, Int.reduceBEq, Int.reduceBNe]) ⟨dig_init h1 h3 hr1v hn0, by have := Nat.mod_lt r1 (show 0 < v1 by omega); simp only; omega⟩ ?_
      rintro ⟨q, r⟩ ⟨g1, g2⟩
      simp only at g1 g2
      have gl := g1.le
      have w3 := mulB g2
      have w4 := addW (a := 4294967296 * r) (b := n0) (by omega)
      have w6 := addW (a := r) (b := v1) (by omega)
      have next : (4294967296 ≤ q ∨ 4294967296 * r + n0 < q * v0) → Dig r1 n0 v1 v0 (q - 1) (r + v1) ∧ 1 ≤ q ∧ q - 1 ≤ 4294967296 := dig_next h1 h3 hr1v hn0 g1
      have big : 4294967296 ≤ r + v1 → (4294967296 ≤ q ∨ 4294967296 * r + n0 < q * v0) → q - 1 = (r1 * 4294967296 + n0) / (v1 * 4294967296 + v0) := fun h ht => dig_big h1 h3 hr1v hn0 (next ht).1 (next ht).2.2 h
      by_cases t1 : 4294967296 ≤ q
      · have e1 : decide ((4294967296 : Int) ≤ (q : Int)) = true := by rw [decide_eq_true_eq]; omega
        obtain ⟨a1, a2, a3⟩ := next (.inl t1)
        have w5 := sub1W (a := q) a2 (by omega)
        by_cases t3 : 4294967296 ≤ r + v1
        · have e3 : decide ((4294967296 : Int) ≤ ((r + v1 : Nat) : Int)) = true := by rw [decide_eq_true_eq]; omega
          have hq := big t3 (.inl t1)
          rw [hvv] at hq
          simp only [e1, w5, w6, e3, AW, reduceAdd, reduceCtorEq, reduceEqDiff, ↓reduceIte, reduceLT, reduceLeDiff, reduceSub, reducePow, reduceMul, reduceToNat, reduceLE, reduceEq, Int.reduceLT, Int.reduceBEq, Int.reduceBNe]
          have hs2 := usub (u := r1) (n := n0) hv64 hv0 hq
          have hq0 : (q - 1) < 4294967296 := by rw [hq, ← hvv]; exact dig_lt h1 h3 hr1v hn0
          have hs3 := uquo hq1b hq0
          simp only [hs2, hs3, nlt0, shrN hs64, AW, reduceAdd, reduceCtorEq, reduceEqDiff, ↓reduceIte, reduceLT, reduceLeDiff, reduceSub, reducePow, reduceMul, reduceToNat, reduceLE, reduceEq, Int.reduceLT, Int.reduceBEq, Int.reduceBNe]
          rw [hq, hq1]
          have hd := div_two (X := hi * 18446744073709551616 + lo) (u := u) (w := w) hy hv hnorm hw
          rw [← hn1e, ← hn0e, ← hr1e] at hd
          rw [hd.1, hd.2]
        · have e3 : decide ((4294967296 : Int) ≤ ((r + v1 : Nat) : Int)) = false := by rw [decide_eq_false_iff_not]; omega
          simp only [e1, w5, w6, e3, AW, reduceAdd, reduceCtorEq, reduceEqDiff, ↓reduceIte, reduceLT, reduceLeDiff, reduceSub, reducePow, reduceMul, reduceToNat, reduceLE, reduceEq, Int.reduceLT, Int.reduceBEq, Int.reduceBNe]
          refine ⟨(q - 1, r + v1), ⟨a1, by simp only; omega⟩, ?_, by simp only; omega⟩
          simp only [LW, Nat.reduceMod, Nat.reduceDiv, AW, reduceAdd, reduceCtorEq, reduceEqDiff, ↓reduceIte, reduceLT, reduceLeDiff, reduceSub, reducePow, reduceMul, reduceToNat, reduceLE, reduceEq, Int.reduceLT, Int.reduceBEq, Int.reduceBNe]
      have e1 : decide ((4294967296 : Int) ≤ (q : Int)) = false := by rw [decide_eq_false_iff_not]; omega
      have hqv : q * v0 ≤ 4294967295 * 4294967295 := Nat.mul_le_mul (by omega) (by omega)
      have w2 := mulW (a := q) (b := v0) (by omega)
      by_cases t2 : 4294967296 * r + n0 < q * v0
      rotate_left
      · have e2 : decide (((4294967296 * r + n0 : Nat) : Int) < ((q * v0 : Nat) : Int)) = false := by rw [decide_eq_false_iff_not]; omega
        have hq := dig_done hn0 g1 (by omega) (by omega)
        rw [hvv] at hq
        simp only [e1, w2, w3, w4, e2, AW, reduceAdd, reduceCtorEq, reduceEqDiff, ↓reduceIte, reduceLT, reduceLeDiff, reduceSub, reducePow, reduceMul, reduceToNat, reduceLE, reduceEq, Int.reduceLT, Int.reduceBEq, Int.reduceBNe]
        have hs2 := usub (u := r1) (n := n0) hv64 hv0 hq
        have hq0 : q < 4294967296 := by rw [hq, ← hvv]; exact dig_lt h1 h3 hr1v hn0
        have hs3 := uquo hq1b hq0
        simp only [hs2, hs3, nlt0, shrN hs64, AW, reduceAdd, reduceCtorEq, reduceEqDiff, ↓reduceIte, reduceLT, reduceLeDiff, reduceSub, reducePow, reduceMul, reduceToNat, reduceLE, reduceEq, Int.reduceLT, Int.reduceBEq, Int.reduceBNe]
        rw [hq, hq1]
        have hd := div_two (X := hi * 18446744073709551616 + lo) (u := u) (w := w) hy hv hnorm hw
        rw [← hn1e, ← hn0e, ← hr1e] at hd
        rw [hd.1, hd.2]
      have e2 : decide (((4294967296 * r + n0 : Nat) : Int) < ((q * v0 : Nat) : Int)) = true := by rw [decide_eq_true_eq]; omega
      obtain ⟨a1, a2, a3⟩ := next (.inr t2)
      have w5 := sub1W (a := q) a2 (by omega)
      by_cases t3 : 4294967296 ≤ r + v1
      · have e3 : decide ((4294967296 : Int) ≤ ((r + v1 : Nat) : Int)) = true := by rw [decide_eq_true_eq]; omega
        have hq := big t3 (.inr t2)
        rw [hvv] at hq
        simp only [e1, w2, w3, w4, e2, w5, w6, e3, AW, reduceAdd, reduceCtorEq, reduceEqDiff, ↓reduceIte, reduceLT, reduceLeDiff, reduceSub, reducePow, reduceMul, reduceToNat, reduceLE, reduceEq, Int.reduceLT, Int.reduceBEq, Int.reduceBNe]
        have hs2 := usub (u := r1) (n := n0) hv64 hv0 hq
        have hq0 : (q - 1) < 4294967296 := by rw [hq, ← hvv]; exact dig_lt h1 h3 hr1v hn0
        have hs3 := uquo hq1b hq0
        simp only [hs2, hs3, nlt0, shrN hs64, AW, reduceAdd, reduceCtorEq, reduceEqDiff, ↓reduceIte, reduceLT, reduceLeDiff, reduceSub, reducePow, reduceMul, reduceToNat, reduceLE, reduceEq, Int.reduceLT, Int.reduceBEq, Int.reduceBNe]
        rw [hq, hq1]
        have hd := div_two (X := hi * 18446744073709551616 + lo) (u := u) (w := w) hy hv hnorm hw
        rw [← hn1e, ← hn0e, ← hr1e] at hd
        rw [hd.1, hd.2]
      · have e3 : decide ((4294967296 : Int) ≤ ((r + v1 : Nat) : Int)) = false := by rw [decide_eq_false_iff_not]; omega
        simp only [e1, w2, w3, w4, e2, w5, w6, e3, AW, reduceAdd, reduceCtorEq, reduceEqDiff, ↓reduceIte, reduceLT, reduceLeDiff, reduceSub, reducePow, reduceMul, reduceToNat, reduceLE, reduceEq, Int.reduceLT, Int.reduceBEq, Int.reduceBNe]
        refine ⟨(q - 1, r + v1), ⟨a1, by simp only; omega⟩, ?_, by simp only; omega⟩
        simp only [LW, Nat.reduceMod, Nat.reduceDiv, AW, reduceAdd, reduceCtorEq, reduceEqDiff, ↓reduceIte, reduceLT, reduceLeDiff, reduceSub, reducePow, reduceMul, reduceToNat, reduceLE, reduceEq, Int.reduceLT, Int.reduceBEq, Int.reduceBNe]
    · have e3 : decide ((4294967296 : Int) ≤ ((r + v1 : Nat) : Int)) = false := by rw [decide_eq_false_iff_not]; omega
      simp only [e1, w5, w6, e3, AW, reduceAdd, reduceCtorEq, reduceEqDiff, ↓reduceIte, reduceLT, reduceLeDiff, reduceSub, reducePow, reduceMul, reduceToNat, reduceLE, reduceEq, Int.reduceLT, Int.reduceBEq, Int.reduceBNe]
      refine ⟨(q - 1, r + v1), ⟨a1, by simp only; omega⟩, ?_, by simp only; omega⟩
      simp only [LW, Nat.reduceMod, Nat.reduceDiv, AW, reduceAdd, reduceCtorEq, reduceEqDiff, ↓reduceIte, reduceLT, reduceLeDiff, reduceSub, reducePow, reduceMul, reduceToNat, reduceLE, reduceEq, Int.reduceLT, Int.reduceBEq, Int.reduceBNe]
  have e1 : decide ((4294967296 : Int) ≤ (q : Int)) = false := by rw [decide_eq_false_iff_not]; omega
  have hqv : q * v0 ≤ 4294967295 * 4294967295 := Nat.mul_le_mul (by omega) (by omega)
  have w2 := mulW (a := q) (b := v0) (by omega)
  by_cases t2 : 4294967296 * r + n1 < q * v0
  rotate_left
  · have e2 : decide (((4294967296 * r + n1 : Nat) : Int) < ((q * v0 : Nat) : Int)) = false := by rw [decide_eq_false_iff_not]; omega
    have hq := dig_done hn1 g1 (by omega) (by omega)
    rw [hvv] at hq
    simp only [e1, w2, w3, w4, e2, AW, reduceAdd, reduceCtorEq, reduceEqDiff, ↓reduceIte, reduceLT, reduceLeDiff, reduceSub, reducePow, reduceMul, reduceToNat, reduceLE, reduceEq, Int.reduceLT, Int.reduceBEq, Int.reduceBNe]
    obtain ⟨q1, hq1e⟩ : ∃ q1, q1 = q := ⟨_, rfl⟩
    rw [← hq1e] at hq ⊢
    have hq1 := hq
    have hq1b : q1 < 4294967296 := by rw [hq, ← hvv]; exact dig_lt h1 h3 huv hn1
    have hs1 := usub (u := u) (n := n1) hv64 hv0 hq
    obtain ⟨r1, hr1e⟩ : ∃ r1, r1 = (u * 4294967296 + n1) % v := ⟨_, rfl⟩
    rw [← hr1e] at hs1
    have hr1 : r1 < v := by rw [hr1e]; exact Nat.mod_lt _ hv0
    have hr1v : r1 < v1 * 4294967296 + v0 := by omega
    have hr2 := urem (u := r1) (v := v1) (by omega)
    have hqq := quoN (a := r1) (b := v1) (by omega)
    clear hq next big g1 g2 gl w3 w4 w6
    simp only [hs1, hqq, hr2, hv10, AW, reduceAdd, reduceCtorEq, reduceEqDiff, ↓reduceIte, reduceLT, reduceLeDiff, reduceSub, reducePow, reduceMul, reduceToNat, reduceLE, reduceEq, Int.reduceLT, Int.reduceBEq, Int.reduceBNe]
    refine run_loop (ι := Nat × Nat) (fun x => ⟨[(2, .sc (.int .u64 ((v : Nat) : Int))), (8, .sc (.int .u64 ((s : Nat) : Int))), (9, .sc (.int .u64 ((v1 : Nat) : Int))), (10, .sc (.int .u64 ((v0 : Nat) : Int))), (14, .sc (.int .u64 ((n0 : Nat) : Int))), (15, .sc (.int .u64 ((q1 : Nat) : Int))), (16, .sc (.int .u64 ((x.2 : Nat) : Int))), (17, .sc (.int .u64 ((r1 : Nat) : Int))), (18, .sc (.int .u64 ((x.1 : Nat) : Int)))], [], 83, 135⟩) (fun x => Dig r1 n0 v1 v0 x.1 x.2 ∧ x.2 < 4294967296) (fun x => x.1) 83 (fun _ => rfl) (r1 / v1, r1 % v1) (by simp only [LW, Nat.reduceMod, Nat.reduceDiv, AW, reduceAdd, reduceCtorEq, reduceEqDiff, ↓reduceIte, reduceLT, reduceLeDiff, reduceSub, reducePow, reduceMul, reduceToNat, reduceLE, reduceEq, Int.reduceLT, Int.reduceBEq, Int.reduceBNe]) ⟨dig_init h1 h3 hr1v hn0, by have := Nat.mod_lt r1 (show 0 < v1 by omega); simp only; omega⟩ ?_
    rintro ⟨q, r⟩ ⟨g1, g2⟩
    simp only at g1 g2
    have gl := g1.le
    have w3 := mulB g2
    have w4 := addW (a := 4294967296 * r) (b := n0) (by omega)
    have w6 := addW (a := r) (b := v1) (by omega)
    have next : (4294967296 ≤ q ∨ 4294967296 * r + n0 < q * v0) → Dig r1 n0 v1 v0 (q - 1) (r + v1) ∧ 1 ≤ q ∧ q - 1 ≤ 4294967296 := dig_next h1 h3 hr1v hn0 g1
    have big : 4294967296 ≤ r + v1 → (4294967296 ≤ q ∨ 4294967296 * r + n0 < q * v0) → q - 1 = (r1 * 4294967296 + n0) / (v1 * 4294967296 + v0) := fun h ht => dig_big h1 h3 hr1v hn0 (next ht).1 (next ht).2.2 h
    by_cases t1 : 4294967296 ≤ q
    · have e1 : decide ((4294967296 : Int) ≤ (q : Int)) = true := by rw [decide_eq_true_eq]; omega
      obtain ⟨a1, a2, a3⟩ := next (.inl t1)
      have w5 := sub1W (a := q) a2 (by omega)
      by_cases t3 : 4294967296 ≤ r + v1
      · have e3 : decide ((4294967296 : Int) ≤ ((r + v1 : Nat) : Int)) = true := by rw [decide_eq_true_eq]; omega
        have hq := big t3 (.inl t1)
        rw [hvv] at hq
        simp only [e1, w5, w6, e3, AW, reduceAdd, reduceCtorEq, reduceEqDiff, ↓reduceIte, reduceLT, reduceLeDiff, reduceSub, reducePow, reduceMul, reduceToNat, reduceLE, reduceEq, Int.reduceLT, Int.reduceBEq, Int.reduceBNe]
        have hs2 := usub (u := r1) (n := n0) hv64 hv0 hq
        have hq0 : (q - 1) < 4294967296 := by rw [hq, ← hvv]; exact dig_lt h1 h3 hr1v hn0
        have hs3 := uquo hq1b hq0
        simp only [hs2, hs3, nlt0, shrN hs64, AW, reduceAdd, reduceCtorEq, reduceEqDiff, ↓reduceIte, reduceLT, reduceLeDiff, reduceSub, reducePow, reduceMul, reduceToNat, reduceLE, reduceEq, Int.reduceLT, Int.reduceBEq, Int.reduceBNe]
        rw [hq, hq1]
        have hd := div_two (X := hi * 18446744073709551616 + lo) (u := u) (w := w) hy hv hnorm hw
        rw [← hn1e, ← hn0e, ← hr1e] at hd
        rw [hd.1, hd.2]
      · have e3 : decide ((4294967296 : Int) ≤ ((r + v1 : Nat) : Int)) = false := by rw [decide_eq_false_iff_not]; omega
        simp only [e1, w5, w6, e3, AW, reduceAdd, reduceCtorEq, reduceEqDiff, ↓reduceIte, reduceLT, reduceLeDiff, reduceSub, reducePow, reduceMul, reduceToNat, reduceLE, reduceEq, Int.reduceLT, Int.reduceBEq, Int.reduceBNe]
        refine ⟨(q - 1, r + v1), ⟨a1, by simp only; omega⟩, ?_, by simp only; omega⟩
        simp only [LW, Nat.reduceMod, Nat.reduceDiv, AW, reduceAdd, reduceCtorEq, reduceEqDiff, ↓reduceIte, reduceLT, reduceLeDiff, reduceSub, reducePow, reduceMul, reduceToNat, reduceLE, reduceEq, Int.reduceLT, Int.reduceBEq, Int.reduceBNe]
    have e1 : decide ((4294967296 : Int) ≤ (q : Int)) = false := by rw [decide_eq_false_iff_not]; omega
    have hqv : q * v0 ≤ 4294967295 * 4294967295 := Nat.mul_le_mul (by omega) (by omega)
    have w2 := mulW (a := q) (b := v0) (by omega)
    by_cases t2 : 4294967296 * r + n0 < q * v0
    rotate_left
    · have e2 : decide (((4294967296 * r + n0 : Nat) : Int) < ((q * v0 : Nat) : Int)) = false := by rw [decide_eq_false_iff_not]; omega
      have hq := dig_done hn0 g1 (by omega) (by omega)
      rw [hvv] at hq
      simp only [e1, w2, w3, w4, e2, AW, reduceAdd, reduceCtorEq, reduceEqDiff, ↓reduceIte, reduceLT, reduceLeDiff, reduceSub, reducePow, reduceMul, reduceToNat, reduceLE, reduceEq, Int.reduceLT, Int.reduceBEq, Int.reduceBNe]
      have hs2 := usub (u := r1) (n := n0) hv64 hv0 hq
      have hq0 : q < 4294967296 := by rw [hq, ← hvv]; exact dig_lt h1 h3 hr1v hn0
      have hs3 := uquo hq1b hq0
      simp only [hs2, hs3, nlt0, shrN hs64, AW, reduceAdd, reduceCtorEq, reduceEqDiff, ↓reduceIte, reduceLT, reduceLeDiff, reduceSub, reducePow, reduceMul, reduceToNat, reduceLE, reduceEq, Int.reduceLT, Int.reduceBEq, Int.reduceBNe]
      rw [hq, hq1]
      have hd := div_two (X := hi * 18446744073709551616 + lo) (u := u) (w := w) hy hv hnorm hw
      rw [← hn1e, ← hn0e, ← hr1e] at hd
      rw [hd.1, hd.2]
    have e2 : decide (((4294967296 * r + n0 : Nat) : Int) < ((q * v0 : Nat) : Int)) = true := by rw [decide_eq_true_eq]; omega
    obtain ⟨a1, a2, a3⟩ := next (.inr t2)
    have w5 := sub1W (a := q) a2 (by omega)
    by_cases t3 : 4294967296 ≤ r + v1
    · have e3 : decide ((4294967296 : Int) ≤ ((r + v1 : Nat) : Int)) = true := by rw [decide_eq_true_eq]; omega
      have hq := big t3 (.inr t2)
      rw [hvv] at hq
      simp only [e1, w2, w3, w4, e2, w5, w6, e3, AW, reduceAdd, reduceCtorEq, reduceEqDiff, ↓reduceIte, reduceLT, reduceLeDiff, reduceSub, reducePow, reduceMul, reduceToNat, reduceLE, reduceEq, Int.reduceLT, Int.reduceBEq, Int.reduceBNe]
      have hs2 := usub (u := r1) (n := n0) hv64 hv0 hq
      have hq0 : (q - 1) < 4294967296 := by rw [hq, ← hvv]; exact dig_lt h1 h3 hr1v hn0
      have hs3 := uquo hq1b hq0
      simp only [hs2, hs3, nlt0, shrN hs64, AW, reduceAdd, reduceCtorEq, reduceEqDiff, ↓reduceIte, reduceLT, reduceLeDiff, reduceSub, reducePow, reduceMul, reduceToNat, reduceLE, reduceEq, Int.reduceLT, Int.reduceBEq, Int.reduceBNe]
      rw [hq, hq1]
      have hd := div_two (X := hi * 18446744073709551616 + lo) (u := u) (w := w) hy hv hnorm hw
      rw [← hn1e, ← hn0e, ← hr1e] at hd
      rw [hd.1, hd.2]
    · have e3 : decide ((4294967296 : Int) ≤ ((r + v1 : Nat) : Int)) = false := by rw [decide_eq_false_iff_not]; omega
      simp only [e1, w2, w3, w4, e2, w5, w6, e3, AW, reduceAdd, reduceCtorEq, reduceEqDiff, ↓reduceIte, reduceLT, reduceLeDiff, reduceSub, reducePow, reduceMul, reduceToNat, reduceLE, reduceEq, Int.reduceLT, Int.reduceBEq, Int.reduceBNe]
      refine ⟨(q - 1, r + v1), ⟨a1, by simp only; omega⟩, ?_, by simp only; omega⟩
      simp only [LW, Nat.reduceMod, Nat.reduceDiv, AW, reduceAdd, reduceCtorEq, reduceEqDiff, ↓reduceIte, reduceLT, reduceLeDiff, reduceSub, reducePow, reduceMul, reduceToNat, reduceLE, reduceEq, Int.reduceLT, Int.reduceBEq, Int.reduceBNe]
  have e2 : decide (((4294967296 * r + n1 : Nat) : Int) < ((q * v0 : Nat) : Int)) = true := by rw [decide_eq_true_eq]; omega
  obtain ⟨a1, a2, a3⟩ := next (.inr t2)
  have w5 := sub1W (a := q) a2 (by omega)
  by_cases t3 : 4294967296 ≤ r + v1
  · have e3 : decide ((4294967296 : Int) ≤ ((r + v1 : Nat) : Int)) = true := by rw [decide_eq_true_eq]; omega
    have hq := big t3 (.inr t2)
    rw [hvv] at hq
    simp only [e1, w2, w3, w4, e2, w5, w6, e3, AW, reduceAdd, reduceCtorEq, reduceEqDiff, ↓reduceIte, reduceLT, reduceLeDiff, reduceSub, reducePow, reduceMul, reduceToNat, reduceLE, reduceEq, Int.reduceLT, Int.reduceBEq, Int.reduceBNe]
    obtain ⟨q1, hq1e⟩ : ∃ q1, q1 = (q - 1) := ⟨_, rfl⟩
    rw [← hq1e] at hq ⊢
    have hq1 := hq
    have hq1b : q1 < 4294967296 := by rw [hq, ← hvv]; exact dig_lt h1 h3 huv hn1
    have hs1 := usub (u := u) (n := n1) hv64 hv0 hq
    obtain ⟨r1, hr1e⟩ : ∃ r1, r1 = (u * 4294967296 + n1) % v := ⟨_, rfl⟩
    rw [← hr1e] at hs1
    have hr1 : r1 < v := by rw [hr1e]; exact Nat.mod_lt _ hv0
    have hr1v : r1 < v1 * 4294967296 + v0 := by omega
    have hr2 := urem (u := r1) (v := v1) (by omega)
    have hqq := quoN (a := r1) (b := v1) (by omega)
    clear hq next big g1 g2 gl w3 w4 w6
    simp only [hs1, hqq, hr2, hv10, AW, reduceAdd, reduceCtorEq, reduceEqDiff, ↓reduceIte, reduceLT, reduceLeDiff, reduceSub, reducePow, reduceMul, reduceToNat, reduceLE, reduceEq, Int.reduceLT, Int.reduceBEq, Int.reduceBNe]
    refine run_loop (ι := Nat × Nat) (fun x => ⟨[(2, .sc (.int .u64 ((v : Nat) : Int))), (8, .sc (.int .u64 ((s : Nat) : Int))), (9, .sc (.int .u64 ((v1 : Nat) : Int))), (10, .sc (.int .u64 ((v0 : Nat) : Int))), (14, .sc (.int .u64 ((n0 : Nat) : Int))), (15, .sc (.int .u64 ((q1 : Nat) : Int))), (16, .sc (.int .u64 ((x.2 : Nat) : Int))), (17, .sc (.int .u64 ((r1 : Nat) : Int))), (18, .sc (.int .u64 ((x.1 : Nat) : Int)))], [], 92, 135⟩) (fun x => Dig r1 n0 v1 v0 x.1 x.2 ∧ x.2 < 4294967296) (fun x => x.1) 92 (fun _ => rfl) (r1 / v1, r1 % v1) (by simp only [LW, Nat.reduceMod, Nat.reduceDiv, AW, reduceAdd, reduceCtorEq, reduceEqDiff, ↓reduceIte, reduceLT, reduceLeDiff, reduceSub, reducePow, reduceMul, reduceToNat, reduceLE, reduceEq, Int.reduceLT, Int.reduceBEq, Int.reduceBNe]) ⟨dig_init h1 h3 hr1v hn0, by have := Nat.mod_lt r1 (show 0 < v1 by omega); simp only; omega⟩ ?_
    rintro ⟨q, r⟩ ⟨g1, g2⟩
    simp only at g1 g2
    have gl := g1.le
    have w3 := mulB g2
    have w4 := addW (a := 4294967296 * r) (b := n0) (by omega)
    have w6 := addW (a := r) (b := v1) (by omega)
    have next : (4294967296 ≤ q ∨ 4294967296 * r + n0 < q * v0) → Dig r1 n0 v1 v0 (q - 1) (r + v1) ∧ 1 ≤ q ∧ q - 1 ≤ 4294967296 := dig_next h1 h3 hr1v hn0 g1
    have big : 4294967296 ≤ r + v1 → (4294967296 ≤ q ∨ 4294967296 * r + n0 < q * v0) → q - 1 = (r1 * 4294967296 + n0) / (v1 * 4294967296 + v0) := fun h ht => dig_big h1 h3 hr1v hn0 (next ht).1 (next ht).2.2 h
    by_cases t1 : 4294967296 ≤ q
    · have e1 : decide ((4294967296 : Int) ≤ (q : Int)) = true := by rw [decide_eq_true_eq]; omega
      obtain ⟨a1, a2, a3⟩ := next (.inl t1)
      have w5 := sub1W (a := q) a2 (by omega)
      by_cases t3 : 4294967296 ≤ r + v1
      · have e3 : decide ((4294967296 : Int) ≤ ((r + v1 : Nat) : Int)) = true := by rw [decide_eq_true_eq]; omega
        have hq := big t3 (.inl t1)
        rw [hvv] at hq
        simp only [e1, w5, w6, e3, AW, reduceAdd, reduceCtorEq, reduceEqDiff, ↓reduceIte, reduceLT, reduceLeDiff, reduceSub, reducePow, reduceMul, reduceToNat, reduceLE, reduceEq, Int.reduceLT, Int.reduceBEq, Int.reduceBNe]
        have hs2 := usub (u := r1) (n := n0) hv64 hv0 hq
        have hq0 : (q - 1) < 4294967296 := by rw [hq, ← hvv]; exact dig_lt h1 h3 hr1v hn0
        have hs3 := uquo hq1b hq0
        simp only [hs2, hs3, nlt0, shrN hs64, AW, reduceAdd, reduceCtorEq, reduceEqDiff, ↓reduceIte, reduceLT, reduceLeDiff, reduceSub, reducePow, reduceMul, reduceToNat, reduceLE, reduceEq, Int.reduceLT, Int.reduceBEq, Int.reduceBNe]
        rw [hq, hq1]
        have hd := div_two (X := hi * 18446744073709551616 + lo) (u := u) (w := w) hy hv hnorm hw
        rw [← hn1e, ← hn0e, ← hr1e] at hd
        rw [hd.1, hd.2]
      · have e3 : decide ((4294967296 : Int) ≤ ((r + v1 : Nat) : Int)) = false := by rw [decide_eq_false_iff_not]; omega
        simp only [e1, w5, w6, e3, AW, reduceAdd, reduceCtorEq, reduceEqDiff, ↓reduceIte, reduceLT, reduceLeDiff, reduceSub, reducePow, reduceMul, reduceToNat, reduceLE, reduceEq, Int.reduceLT, Int.reduceBEq, Int.reduceBNe]
        refine ⟨(q - 1, r + v1), ⟨a1, by simp only; omega⟩, ?_, by simp only; omega⟩
        simp only [LW, Nat.reduceMod, Nat.reduceDiv, AW, reduceAdd, reduceCtorEq, reduceEqDiff, ↓reduceIte, reduceLT, reduceLeDiff, reduceSub, reducePow, reduceMul, reduceToNat, reduceLE, reduceEq, Int.reduceLT, Int.reduceBEq, Int.reduceBNe]
    have e1 : decide ((4294967296 : Int) ≤ (q : Int)) = false := by rw [decide_eq_false_iff_not]; omega
    have hqv : q * v0 ≤ 4294967295 * 4294967295 := Nat.mul_le_mul (by omega) (by omega)
    have w2 := mulW (a := q) (b := v0) (by omega)
    by_cases t2 : 4294967296 * r + n0 < q * v0
    rotate_left
    · have e2 : decide (((4294967296 * r + n0 : Nat) : Int) < ((q * v0 : Nat) : Int)) = false := by rw [decide_eq_false_iff_not]; omega
      have hq := dig_done hn0 g1 (by omega) (by omega)
      rw [hvv] at hq
      simp only [e1, w2, w3, w4, e2, AW, reduceAdd, reduceCtorEq, reduceEqDiff, ↓reduceIte, reduceLT, reduceLeDiff, reduceSub, reducePow, reduceMul, reduceToNat, reduceLE, reduceEq, Int.reduceLT, Int.reduceBEq, Int.reduceBNe]
      have hs2 := usub (u := r1) (n := n0) hv64 hv0 hq
      have hq0 : q < 4294967296 := by rw [hq, ← hvv]; exact dig_lt h1 h3 hr1v hn0
      have hs3 := uquo hq1b hq0
      simp only [hs2, hs3, nlt0, shrN hs64, AW, reduceAdd, reduceCtorEq, reduceEqDiff, ↓reduceIte, reduceLT, reduceLeDiff, reduceSub, reducePow, reduceMul, reduceToNat, reduceLE, reduceEq, Int.reduceLT, Int.reduceBEq, Int.reduceBNe]
      rw [hq, hq1]
      have hd := div_two (X := hi * 18446744073709551616 + lo) (u := u) (w := w) hy hv hnorm hw
      rw [← hn1e, ← hn0e, ← hr1e] at hd
      rw [hd.1, hd.2]
    have e2 : decide (((4294967296 * r + n0 : Nat) : Int) < ((q * v0 : Nat) : Int)) = true := by rw [decide_eq_true_eq]; omega
    obtain ⟨a1, a2, a3⟩ := next (.inr t2)
    have w5 := sub1W (a := q) a2 (by omega)
    by_cases t3 : 4294967296 ≤ r + v1
    · have e3 : decide ((4294967296 : Int) ≤ ((r + v1 : Nat) : Int)) = true := by rw [decide_eq_true_eq]; omega
      have hq := big t3 (.inr t2)
      rw [hvv] at hq
      simp only [e1, w2, w3, w4, e2, w5, w6, e3, AW, reduceAdd, reduceCtorEq, reduceEqDiff, ↓reduceIte, reduceLT, reduceLeDiff, reduceSub, reducePow, reduceMul, reduceToNat, reduceLE, reduceEq, Int.reduceLT, Int.reduceBEq, Int.reduceBNe]
      have hs2 := usub (u := r1) (n := n0) hv64 hv0 hq
      have hq0 : (q - 1) < 4294967296 := by rw [hq, ← hvv]; exact dig_lt h1 h3 hr1v hn0
      have hs3 := uquo hq1b hq0
      simp only [hs2, hs3, nlt0, shrN hs64, AW, reduceAdd, reduceCtorEq, reduceEqDiff, ↓reduceIte, reduceLT, reduceLeDiff, reduceSub, reducePow, reduceMul, reduceToNat, reduceLE, reduceEq, Int.reduceLT, Int.reduceBEq, Int.reduceBNe]
      rw [hq, hq1]
      have hd := div_two (X := hi * 18446744073709551616 + lo) (u := u) (w := w) hy hv hnorm hw
      rw [← hn1e, ← hn0e, ← hr1e] at hd
      rw [hd.1, hd.2]
    · have e3 : decide ((4294967296 : Int) ≤ ((r + v1 : Nat) : Int)) = false := by rw [decide_eq_false_iff_not]; omega
      simp only [e1, w2, w3, w4, e2, w5, w6, e3, AW, reduceAdd, reduceCtorEq, reduceEqDiff, ↓reduceIte, reduceLT, reduceLeDiff, reduceSub, reducePow, reduceMul, reduceToNat, reduceLE, reduceEq, Int.reduceLT, Int.reduceBEq, Int.reduceBNe]
      refine ⟨(q - 1, r + v1), ⟨a1, by simp only; omega⟩, ?_, by simp only; omega⟩
      simp only [LW, Nat.reduceMod, Nat.reduceDiv, AW, reduceAdd, reduceCtorEq, reduceEqDiff, ↓reduceIte, reduceLT, reduceLeDiff, reduceSub, reducePow, reduceMul, reduceToNat, reduceLE, reduceEq, Int.reduceLT, Int.reduceBEq, Int.reduceBNe]
  · have e3 : decide ((4294967296 : Int) ≤ ((r + v1 : Nat) : Int)) = false := by rw [decide_eq_false_iff_not]; omega
    simp only [e1, w2, w3, w4, e2, w5, w6, e3, AW, reduceAdd, reduceCtorEq, reduceEqDiff, ↓reduceIte, reduceLT, reduceLeDiff, reduceSub, reducePow, reduceMul, reduceToNat, reduceLE, reduceEq, Int.reduceLT, Int.reduceBEq, Int.reduceBNe]
    refine ⟨(q - 1, r + v1), ⟨a1, by simp only; omega⟩, ?_, by simp only; omega⟩
    simp only [LW, Nat.reduceMod, Nat.reduceDiv, AW, reduceAdd, reduceCtorEq, reduceEqDiff, ↓reduceIte, reduceLT, reduceLeDiff, reduceSub, reducePow, reduceMul, reduceToNat, reduceLE, reduceEq, Int.reduceLT, Int.reduceBEq, Int.reduceBNe]
set_option maxHeartbeats 2000000 in
theorem quotient_g (a b c : Nat) (ha : a ≤ 1125899906842624) (hb : b ≤ 1125899906842624) (hc : 0 < c) (hc2 : c ≤ 1125899906842624) (hq : a * b / c < 9223372036854775808) : Good Tryd.prog 41 [intP (a : Int), intP (b : Int), intP (c : Int)] (.tup [intP ((a * b / c : Nat) : Int), intP ((a * b % c : Nat) : Int)]) := by
  refine good41 (by simp) ?_
  have h1 : a * b / 18446744073709551616 < c := by
    have h2 := (Nat.div_lt_iff_lt_mul hc).1 hq
    rw [Nat.div_lt_iff_lt_mul (by decide)]
    omega
  have h3 := Nat.mod_lt (a * b) (show 0 < 18446744073709551616 by decide)
  have h4 := Nat.div_add_mod (a * b) 18446744073709551616
  rw [Nat.mul_comm] at h4
  have h5 := div64_g (a * b / 18446744073709551616) (a * b % 18446744073709551616) c (by omega) h3 h1
  rw [h4] at h5
  have h6 := Nat.mod_lt (a * b) hc
  have w0 : ∀ n : Nat, n < 9223372036854775808 → IntKind.i64.wrap (n : Int) = (n : Int) := fun n hn => wrap_id (by unfold I64; omega)
  have w1 := w0 (a * b / c) hq
  have w2 := w0 (a * b % c) (by omega)
  simp only [ac41, intP, wu_id (show a < 18446744073709551616 by omega), wu_id (show b < 18446744073709551616 by omega), AW, reduceAdd, reduceCtorEq, reduceEqDiff, ↓reduceIte, reduceLT, reduceLeDiff, reduceSub, reducePow, reduceMul, reduceToNat, reduceLE, reduceEq, Int.reduceLT, Int.reduceBEq, Int.reduceBNe]
  refine ops_call (mul64_g a b (by omega) (by omega)) (by simp only [u64P, AW, reduceAdd, reduceCtorEq, reduceEqDiff, ↓reduceIte, reduceLT, reduceLeDiff, reduceSub, reducePow, reduceMul, reduceToNat, reduceLE, reduceEq, Int.reduceLT, Int.reduceBEq, Int.reduceBNe]) ?_; simp only [u64P, AW, reduceAdd, reduceCtorEq, reduceEqDiff, ↓reduceIte, reduceLT, reduceLeDiff, reduceSub, reducePow, reduceMul, reduceToNat, reduceLE, reduceEq, Int.reduceLT, Int.reduceBEq, Int.reduceBNe]
  simp only [wu_id (show c < 18446744073709551616 by omega), AW, reduceAdd, reduceCtorEq, reduceEqDiff, ↓reduceIte, reduceLT, reduceLeDiff, reduceSub, reducePow, reduceMul, reduceToNat, reduceLE, reduceEq, Int.reduceLT, Int.reduceBEq, Int.reduceBNe]
  refine ops_call (h5) (by simp only [u64P, AW, reduceAdd, reduceCtorEq, reduceEqDiff, ↓reduceIte, reduceLT, reduceLeDiff, reduceSub, reducePow, reduceMul, reduceToNat, reduceLE, reduceEq, Int.reduceLT, Int.reduceBEq, Int.reduceBNe]) ?_; simp only [u64P, AW, reduceAdd, reduceCtorEq, reduceEqDiff, ↓reduceIte, reduceLT, reduceLeDiff, reduceSub, reducePow, reduceMul, reduceToNat, reduceLE, reduceEq, Int.reduceLT, Int.reduceBEq, Int.reduceBNe]
  simp only [w1, w2, AW, reduceAdd, reduceCtorEq, reduceEqDiff, ↓reduceIte, reduceLT, reduceLeDiff, reduceSub, reducePow, reduceMul, reduceToNat, reduceLE, reduceEq, Int.reduceLT, Int.reduceBEq, Int.reduceBNe]


end Go.Proofs.YtjlhnlfalomenaaDoor
