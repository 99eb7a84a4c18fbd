/-
  Strings as lists of bytes; strconv.Itoa, strconv.Atoi, strings.Repeat by the shelf's contracts.
-/
import Derived.Test.YtjnfldkcbcfboaaGreatDoorM8
import Derived.Lib.Strings
import Derived.Shelf.Strconv.Itoa3
import Derived.Shelf.Strconv.ErrVarAll
import Derived.Shelf.Strings.Repeat
import Derived.Lib.AppendIntMem
namespace Go.Proofs.YtjnfldkcbcfboaaGreatDoor
open Go.RowKit
open Nat (reduceAdd reduceEqDiff reduceLT reduceLeDiff reduceSub reducePow reduceMul)
open Int (reduceToNat reduceLE reduceEq)
set_option linter.unusedVariables false
set_option linter.unusedSimpArgs false
set_option linter.unnecessarySimpa false


open Go.Shelf
def bA (l : List UInt8) : ByteArray := ⟨l.toArray⟩
def txP (l : List UInt8) : PV := .sc (.string (bA l))
theorem bA_size (l : List UInt8) : (bA l).size = l.length := by simp [bA, ByteArray.size]
theorem bA_append (l m : List UInt8) : bA l ++ bA m = bA (l ++ m) := by
  apply ByteArray.ext; simp [bA]
theorem bA_data (l : List UInt8) : (bA l).data.toList = l := by simp [bA]
theorem bA_of (s : ByteArray) : bA s.data.toList = s := by simp [bA]
theorem bA_extract (l : List UInt8) (a b : Nat) : (bA l).extract a b = bA ((l.take b).drop a) := by
  apply ByteArray.ext
  simp [bA, List.drop_take]
theorem bA_get (l : List UInt8) (i : Nat) : (bA l)[i]? = l[i]? := by
  by_cases h : i < l.length
  · rw [List.getElem?_eq_getElem h, getElem?_pos (bA l) i (by rw [bA_size]; exact h)]
    congr 1
  · rw [List.getElem?_eq_none (by omega), getElem?_neg (bA l) i (by rw [bA_size]; exact h)]
theorem bA_inj {l m : List UInt8} (h : bA l = bA m) : l = m := by
  have := congrArg (fun s => s.data.toList) h; simpa [bA] using this
theorem bA_toList (l : List UInt8) : (bA l).toList = l := by
  have h := Lib.toList_data (bA l)
  rw [bA_data] at h; exact h
theorem bA_beq (l m : List UInt8) : ((bA l).toList == (bA m).toList) = decide (l = m) := by
  rw [bA_toList, bA_toList]
  by_cases h : l = m
  · subst h; simp
  · rw [decide_eq_false h]; exact beq_eq_false_iff_ne.2 h
theorem rng_str {l : List UInt8} : rngB (.string (bA l)) = true ↔ l.length ≤ 9223372036854775807 := by
  simp [rngB, bA_size]
theorem Good.strlen {P : Program} {f : FuncId} {args : List PV} {r : PV} {l : List UInt8} (hm : txP l ∈ args) (h : l.length ≤ 9223372036854775807 → Good P f args r) : Good P f args r :=
  .fact _ (fun M w vs hp => by obtain ⟨v, hv⟩ := hp.mem hm; exact rng_str.1 hv.sc_rng) h
def laysItoa_ren : Go.Shelf.Ren := ⟨fun | 171 => 24 | 243 => 44 | 246 => 57 | 283 => 67 | 284 => 68 | 285 => 69 | 286 => 70 | 129 => 80 | 317 => 79 | 318 => 81 | 319 => 82 | 320 => 83 | 337 => 91 | 338 => 92 | n => n, fun | 3 => 3 | 9 => 9 | 2 => 2 | 4 => 4 | 171 => 98 | 0 => 0 | 53 => 99 | 37 => 73 | 5 => 5 | 173 => 102 | 212 => 114 | 51 => 115 | 20 => 20 | 213 => 116 | 46 => 117 | 232 => 134 | 233 => 135 | n => n, fun | 17 => 1 | 18 => 4 | 19 => 5 | n => n⟩
theorem laysItoa : LaysM.n171 Tryz.prog laysItoa_ren := {
  mixed := by kernel_rfl
  f129 := Tryz.func80.trans (congrArg some (by kernel_rfl))
  f171 := Tryz.func24.trans (congrArg some (by kernel_rfl))
  f243 := Tryz.func44.trans (congrArg some (by kernel_rfl))
  f246 := Tryz.func57.trans (congrArg some (by kernel_rfl))
  f283 := Tryz.func67.trans (congrArg some (by kernel_rfl))
  f284 := Tryz.func68.trans (congrArg some (by kernel_rfl))
  f285 := Tryz.func69.trans (congrArg some (by kernel_rfl))
  f286 := Tryz.func70.trans (congrArg some (by kernel_rfl))
  f317 := Tryz.func79.trans (congrArg some (by kernel_rfl))
  f318 := Tryz.func81.trans (congrArg some (by kernel_rfl))
  f319 := Tryz.func82.trans (congrArg some (by kernel_rfl))
  f320 := Tryz.func83.trans (congrArg some (by kernel_rfl))
  f337 := Tryz.func91.trans (congrArg some (by kernel_rfl))
  f338 := Tryz.func92.trans (congrArg some (by kernel_rfl))
  t0 := Tryz.underlying0
  a0 := Tryz.isAgg0
  z0 := Tryz.sizeOf0
  v0 := Tryz.zeroValue0
  t2 := Tryz.underlying2
  a2 := Tryz.isAgg2
  z2 := Tryz.sizeOf2
  v2 := Tryz.zeroValue2
  t3 := Tryz.underlying3
  a3 := Tryz.isAgg3
  z3 := Tryz.sizeOf3
  v3 := Tryz.zeroValue3
  t4 := Tryz.underlying4
  a4 := Tryz.isAgg4
  z4 := Tryz.sizeOf4
  v4 := Tryz.zeroValue4
  t5 := Tryz.underlying5
  a5 := Tryz.isAgg5
  z5 := Tryz.sizeOf5
  v5 := Tryz.zeroValue5
  t9 := Tryz.underlying9
  a9 := Tryz.isAgg9
  z9 := Tryz.sizeOf9
  v9 := Tryz.zeroValue9
  t20 := Tryz.underlying20
  a20 := Tryz.isAgg20
  z20 := Tryz.sizeOf20
  v20 := Tryz.zeroValue20
  t37 := Tryz.underlying73
  a37 := Tryz.isAgg73
  z37 := Tryz.sizeOf73
  v37 := Tryz.zeroValue73
  t46 := Tryz.underlying117
  a46 := Tryz.isAgg117
  z46 := Tryz.sizeOf117
  v46 := Tryz.zeroValue117
  t51 := Tryz.underlying115
  a51 := Tryz.isAgg115
  z51 := Tryz.sizeOf115
  v51 := Tryz.zeroValue115
  t53 := Tryz.underlying99
  a53 := Tryz.isAgg99
  z53 := Tryz.sizeOf99
  v53 := Tryz.zeroValue99
  t171 := Tryz.underlying98
  a171 := Tryz.isAgg98
  z171 := Tryz.sizeOf98
  v171 := Tryz.zeroValue98
  t173 := Tryz.underlying102
  a173 := Tryz.isAgg102
  z173 := Tryz.sizeOf102
  v173 := Tryz.zeroValue102
  t212 := Tryz.underlying114
  a212 := Tryz.isAgg114
  z212 := Tryz.sizeOf114
  v212 := Tryz.zeroValue114
  t213 := Tryz.underlying116
  a213 := Tryz.isAgg116
  z213 := Tryz.sizeOf116
  t232 := Tryz.underlying134
  a232 := Tryz.isAgg134
  z232 := Tryz.sizeOf134
  v232 := Tryz.zeroValue134
  t233 := Tryz.underlying135
  a233 := Tryz.isAgg135
  z233 := Tryz.sizeOf135
  v233 := Tryz.zeroValue135
  g17 := by kernel_rfl
  g18 := by kernel_rfl
  g19 := by kernel_rfl
  i0 := by kernel_rfl
  i2 := by kernel_rfl
  i3 := by kernel_rfl
  i4 := by kernel_rfl
  i5 := by kernel_rfl
  i9 := by kernel_rfl
  i20 := by kernel_rfl
  i37 := by kernel_rfl
  i46 := by kernel_rfl
  i51 := by kernel_rfl
  i53 := by kernel_rfl
  i171 := by kernel_rfl
  i173 := by kernel_rfl
  i212 := by kernel_rfl
  i232 := by kernel_rfl
  i233 := by kernel_rfl
  m17 := by kernel_rfl
  m18 := by kernel_rfl
  m19 := by kernel_rfl }

def laysAtoi_ren : Go.Shelf.Ren := ⟨fun | 172 => 47 | 244 => 59 | 245 => 60 | 247 => 74 | 279 => 75 | 280 => 76 | 281 => 77 | 282 => 78 | 287 => 88 | 316 => 89 | 171 => 24 | 205 => 90 | 321 => 98 | 322 => 99 | 243 => 44 | 246 => 57 | 283 => 67 | 284 => 68 | 285 => 69 | 286 => 70 | 129 => 80 | 317 => 79 | 318 => 81 | 319 => 82 | 320 => 83 | 337 => 91 | 338 => 92 | n => n, fun | 9 => 9 | 3 => 3 | 75 => 78 | 76 => 79 | 4 => 4 | 5 => 5 | 167 => 106 | 37 => 73 | 0 => 0 | 85 => 107 | 2 => 2 | 168 => 109 | 53 => 99 | 175 => 122 | 46 => 117 | 210 => 126 | 127 => 89 | 145 => 133 | 143 => 131 | 21 => 21 | 171 => 98 | 173 => 102 | 212 => 114 | 51 => 115 | 20 => 20 | 213 => 116 | 232 => 134 | 233 => 135 | 80 => 81 | n => n, fun | 15 => 2 | 16 => 3 | 17 => 1 | 18 => 4 | 19 => 5 | n => n⟩
theorem laysAtoi : LaysC.n172 Tryz.prog laysAtoi_ren := {
  mixed := by kernel_rfl
  f129 := Tryz.func80.trans (congrArg some (by kernel_rfl))
  f171 := Tryz.func24.trans (congrArg some (by kernel_rfl))
  f172 := Tryz.func47.trans (congrArg some (by kernel_rfl))
  f205 := Tryz.func90.trans (congrArg some (by kernel_rfl))
  f243 := Tryz.func44.trans (congrArg some (by kernel_rfl))
  f244 := Tryz.func59.trans (congrArg some (by kernel_rfl))
  f245 := Tryz.func60.trans (congrArg some (by kernel_rfl))
  f246 := Tryz.func57.trans (congrArg some (by kernel_rfl))
  f247 := Tryz.func74.trans (congrArg some (by kernel_rfl))
  f279 := Tryz.func75.trans (congrArg some (by kernel_rfl))
  f280 := Tryz.func76.trans (congrArg some (by kernel_rfl))
  f281 := Tryz.func77.trans (congrArg some (by kernel_rfl))
  f282 := Tryz.func78.trans (congrArg some (by kernel_rfl))
  f283 := Tryz.func67.trans (congrArg some (by kernel_rfl))
  f284 := Tryz.func68.trans (congrArg some (by kernel_rfl))
  f285 := Tryz.func69.trans (congrArg some (by kernel_rfl))
  f286 := Tryz.func70.trans (congrArg some (by kernel_rfl))
  f287 := Tryz.func88.trans (congrArg some (by kernel_rfl))
  f316 := Tryz.func89.trans (congrArg some (by kernel_rfl))
  f317 := Tryz.func79.trans (congrArg some (by kernel_rfl))
  f318 := Tryz.func81.trans (congrArg some (by kernel_rfl))
  f319 := Tryz.func82.trans (congrArg some (by kernel_rfl))
  f320 := Tryz.func83.trans (congrArg some (by kernel_rfl))
  f321 := Tryz.func98.trans (congrArg some (by kernel_rfl))
  f322 := Tryz.func99.trans (congrArg some (by kernel_rfl))
  f337 := Tryz.func91.trans (congrArg some (by kernel_rfl))
  f338 := Tryz.func92.trans (congrArg some (by kernel_rfl))
  t0 := Tryz.underlying0
  a0 := Tryz.isAgg0
  z0 := Tryz.sizeOf0
  v0 := Tryz.zeroValue0
  t2 := Tryz.underlying2
  a2 := Tryz.isAgg2
  z2 := Tryz.sizeOf2
  v2 := Tryz.zeroValue2
  t3 := Tryz.underlying3
  a3 := Tryz.isAgg3
  z3 := Tryz.sizeOf3
  v3 := Tryz.zeroValue3
  t4 := Tryz.underlying4
  a4 := Tryz.isAgg4
  z4 := Tryz.sizeOf4
  v4 := Tryz.zeroValue4
  t5 := Tryz.underlying5
  a5 := Tryz.isAgg5
  z5 := Tryz.sizeOf5
  v5 := Tryz.zeroValue5
  t9 := Tryz.underlying9
  a9 := Tryz.isAgg9
  z9 := Tryz.sizeOf9
  v9 := Tryz.zeroValue9
  t20 := Tryz.underlying20
  a20 := Tryz.isAgg20
  z20 := Tryz.sizeOf20
  v20 := Tryz.zeroValue20
  t21 := Tryz.underlying21
  a21 := Tryz.isAgg21
  z21 := Tryz.sizeOf21
  v21 := Tryz.zeroValue21
  t37 := Tryz.underlying73
  a37 := Tryz.isAgg73
  z37 := Tryz.sizeOf73
  v37 := Tryz.zeroValue73
  t46 := Tryz.underlying117
  a46 := Tryz.isAgg117
  z46 := Tryz.sizeOf117
  v46 := Tryz.zeroValue117
  t51 := Tryz.underlying115
  a51 := Tryz.isAgg115
  z51 := Tryz.sizeOf115
  v51 := Tryz.zeroValue115
  t53 := Tryz.underlying99
  a53 := Tryz.isAgg99
  z53 := Tryz.sizeOf99
  v53 := Tryz.zeroValue99
  t75 := Tryz.underlying78
  a75 := Tryz.isAgg78
  z75 := Tryz.sizeOf78
  v75 := Tryz.zeroValue78
  t76 := Tryz.underlying79
  a76 := Tryz.isAgg79
  z76 := Tryz.sizeOf79
  v76 := Tryz.zeroValue79
  t85 := Tryz.underlying107
  a85 := Tryz.isAgg107
  z85 := Tryz.sizeOf107
  v85 := Tryz.zeroValue107
  t127 := Tryz.underlying89
  a127 := Tryz.isAgg89
  z127 := Tryz.sizeOf89
  v127 := Tryz.zeroValue89
  t143 := Tryz.underlying131
  a143 := Tryz.isAgg131
  z143 := Tryz.sizeOf131
  v143 := Tryz.zeroValue131
  t145 := Tryz.underlying133
  a145 := Tryz.isAgg133
  z145 := Tryz.sizeOf133
  v145 := Tryz.zeroValue133
  t167 := Tryz.underlying106
  a167 := Tryz.isAgg106
  z167 := Tryz.sizeOf106
  v167 := Tryz.zeroValue106
  t168 := Tryz.underlying109
  a168 := Tryz.isAgg109
  z168 := Tryz.sizeOf109
  v168 := Tryz.zeroValue109
  t171 := Tryz.underlying98
  a171 := Tryz.isAgg98
  z171 := Tryz.sizeOf98
  v171 := Tryz.zeroValue98
  t173 := Tryz.underlying102
  a173 := Tryz.isAgg102
  z173 := Tryz.sizeOf102
  v173 := Tryz.zeroValue102
  t175 := Tryz.underlying122
  a175 := Tryz.isAgg122
  z175 := Tryz.sizeOf122
  v175 := Tryz.zeroValue122
  t210 := Tryz.underlying126
  a210 := Tryz.isAgg126
  z210 := Tryz.sizeOf126
  v210 := Tryz.zeroValue126
  t212 := Tryz.underlying114
  a212 := Tryz.isAgg114
  z212 := Tryz.sizeOf114
  v212 := Tryz.zeroValue114
  t213 := Tryz.underlying116
  a213 := Tryz.isAgg116
  z213 := Tryz.sizeOf116
  t232 := Tryz.underlying134
  a232 := Tryz.isAgg134
  z232 := Tryz.sizeOf134
  v232 := Tryz.zeroValue134
  t233 := Tryz.underlying135
  a233 := Tryz.isAgg135
  z233 := Tryz.sizeOf135
  v233 := Tryz.zeroValue135
  g15 := by kernel_rfl
  g16 := by kernel_rfl
  g17 := by kernel_rfl
  g18 := by kernel_rfl
  g19 := by kernel_rfl
  t80 := Tryz.underlying81
  a80 := Tryz.isAgg81
  z80 := Tryz.sizeOf81
  v80 := Tryz.zeroValue81
  i0 := by kernel_rfl
  i2 := by kernel_rfl
  i3 := by kernel_rfl
  i4 := by kernel_rfl
  i5 := by kernel_rfl
  i9 := by kernel_rfl
  i20 := by kernel_rfl
  i21 := by kernel_rfl
  i37 := by kernel_rfl
  i46 := by kernel_rfl
  i51 := by kernel_rfl
  i53 := by kernel_rfl
  i75 := by kernel_rfl
  i76 := by kernel_rfl
  i80 := by kernel_rfl
  i85 := by kernel_rfl
  i127 := by kernel_rfl
  i143 := by kernel_rfl
  i145 := by kernel_rfl
  i167 := by kernel_rfl
  i168 := by kernel_rfl
  i171 := by kernel_rfl
  i173 := by kernel_rfl
  i175 := by kernel_rfl
  i210 := by kernel_rfl
  i212 := by kernel_rfl
  i232 := by kernel_rfl
  i233 := by kernel_rfl
  m15 := by kernel_rfl
  m16 := by kernel_rfl
  m17 := by kernel_rfl
  m18 := by kernel_rfl
  m19 := by kernel_rfl
  c0 := by kernel_rfl
  c2 := by kernel_rfl
  c3 := by kernel_rfl
  c4 := by kernel_rfl
  c5 := by kernel_rfl
  c9 := by kernel_rfl
  c20 := by kernel_rfl
  c21 := by kernel_rfl
  c37 := by kernel_rfl
  c46 := by kernel_rfl
  c51 := by kernel_rfl
  c53 := by kernel_rfl
  c75 := by kernel_rfl
  c76 := by kernel_rfl
  c80 := by kernel_rfl
  c85 := by kernel_rfl
  c127 := by kernel_rfl
  c143 := by kernel_rfl
  c145 := by kernel_rfl
  c167 := by kernel_rfl
  c168 := by kernel_rfl
  c171 := by kernel_rfl
  c173 := by kernel_rfl
  c175 := by kernel_rfl
  c210 := by kernel_rfl
  c212 := by kernel_rfl
  c213 := by kernel_rfl
  c232 := by kernel_rfl
  c233 := by kernel_rfl }

theorem glob_var {w : World} {H : Nat} (h : GlobW w H) {n : String} {g : Nat} {p : Obj → Prop} (hm : (g, p) ∈ globs) (hn : Tryz.prog.globalNamed n = some g) {cs : Array Value} {ty : TypeId} {x : Nat × Nat} (hp : ∀ b, p b → b = .cells cs ty x) : w.var? Tryz.prog n = some cs := by
  obtain ⟨_, b, hb, hpb⟩ := h _ hm
  unfold World.var?
  rw [hn, Option.bind_some]
  simp only at hb
  rw [hb, hp b hpb]
theorem glob_pow {w : World} {H : Nat} (h : GlobW w H) : Lib.TabIs Tryz.prog w "internal/strconv.uint64pow10" .u64 Lib.pow10Tab := by
  obtain ⟨_, b, hb, ty, x, rfl⟩ := h _ (List.Mem.head _)
  unfold Lib.TabIs World.var?
  rw [show Tryz.prog.globalNamed "internal/strconv.uint64pow10" = some 1 from by kernel_rfl, Option.bind_some]
  simp only at hb
  rw [hb]
  rfl
theorem glob_range {w : World} {H : Nat} (h : GlobW w H) : ∃ t p, w.cell? ⟨3, 0, none⟩ = some (.iface t p) := by
  obtain ⟨_, b, hb, t, p, ty, x, rfl⟩ := h _ (List.Mem.tail _ (List.Mem.head _))
  exact ⟨t, p, by rw [cell_of_row w 3 0 _ ty x hb]; rfl⟩
theorem glob_syntax {w : World} {H : Nat} (h : GlobW w H) : ∃ t p, w.cell? ⟨2, 0, none⟩ = some (.iface t p) := by
  obtain ⟨_, b, hb, t, p, ty, x, rfl⟩ := h _ (List.Mem.tail _ (List.Mem.tail _ (List.Mem.head _)))
  exact ⟨t, p, by rw [cell_of_row w 2 0 _ ty x hb]; rfl⟩
theorem nDigits_le : ∀ (k u : Nat), u < 10 ^ k → 0 < k → Lib.nDigits u ≤ k
  | 0, _, _, h => by omega
  | k + 1, u, h, _ => by
    by_cases hu : u < 10
    · rw [Lib.nDigits_small hu]; omega
    · rw [Lib.nDigits_big hu]
      have h0 : 0 < k := by
        rcases Nat.eq_zero_or_pos k with e | e
        · subst e; simp at h; omega
        · exact e
      have := nDigits_le k (u / 10) (by rw [Nat.pow_succ] at h; omega) h0
      omega
theorem itoa_len {n : Int} (h : I64 n) : (Lib.itoa n).length ≤ 20 := by
  unfold Lib.itoa
  split
  · rw [List.length_cons, Lib.decDigits_length]
    have := nDigits_le 19 n.natAbs (by obtain ⟨h1, h2⟩ := h; omega) (by decide)
    omega
  · rw [Lib.decDigits_length]
    have := nDigits_le 19 n.toNat (by obtain ⟨h1, h2⟩ := h; omega) (by decide)
    omega
theorem itoa_g (n : Int) : Good Tryz.prog 24 [intP n] (txP (Lib.itoa n)) := by
  refine .rng (n := n) (by simp [intP]) (fun hn => ?_)
  refine .of_ret (rng_str.2 (Nat.le_trans (itoa_len hn) (by decide))) (fun M w vs hM hp hG => ?_)
  obtain ⟨v1, vs1, rfl, h1, hp⟩ := pw_cons.1 hp
  rw [pw_nil] at hp; subst hp
  have e1 : v1 = .int .i64 n := h1.sc_inv
  subst e1
  refine (Any.strconv_Itoa laysItoa n hn.1 hn.2 w (glob_pow hG)).mono ?_
  rintro e w' ⟨rfl, k, os, rfl⟩
  exact ⟨rfl, Lib.below_grow _ w (Nat.le_refl _) k os⟩
/-- What strconv.Atoi hands back. -/
def atoiP (l : List UInt8) : PV := match Lib.atoiAll l with
  | .ok v => .tup [intP v, .sc .nilIface]
  | .range => .tup [intP (Lib.atoiSat l), .ifc]
  | _ => .tup [intP 0, .ifc]
theorem tup_ifc {M : Nat → Prop} {w : World} {n : Int} (h : I64 n) (t : TypeId) (v : Value) : RepI M w (.tup [intP n, .ifc]) (.tuple #[.int .i64 n, .iface t v]) :=
  tup_pw.2 ⟨_, rfl, pw_cons.2 ⟨_, _, rfl, .sc _ (rng_i64.2 h), pw_cons.2 ⟨_, _, rfl, .ifc t v, pw_nil.2 rfl⟩⟩⟩
theorem atoi_g (l : List UInt8) (hl : l.length ≤ 1000000) : Good Tryz.prog 47 [txP l] (atoiP l) := by
  intro M w vs hM hp hG
  obtain ⟨v1, vs1, rfl, h1, hp⟩ := pw_cons.1 hp
  rw [pw_nil] at hp; subst hp
  have e1 : v1 = .string (bA l) := h1.sc_inv
  subst e1
  unfold atoiP
  cases h : Lib.atoiAll l
  · rename_i v
    refine (Any.strconv_Atoi_ok laysAtoi (bA l) (by rw [bA_size]; omega) v (by rw [bA_data]; exact h) w).mono ?_
    rintro e w' ⟨rfl, hw⟩
    refine ⟨_, rfl, ?_, tup_pw.2 ⟨_, rfl, pw_cons.2 ⟨_, _, rfl, .sc _ (rng_i64.2 (Lib.atoiAll_bounds h)), pw_cons.2 ⟨_, _, rfl, .sc _ rfl, pw_nil.2 rfl⟩⟩⟩⟩
    rcases hw with rfl | ⟨t, rfl⟩
    · exact Below.refl _ _
    · exact Lib.bytesWorld_below _ _ _
  · obtain ⟨te, pe, hc⟩ := glob_syntax hG
    refine (Any.strconv_Atoi_syntax laysAtoi (bA l) (by rw [bA_size]; omega) (by rw [bA_data]; exact h) _ w hc (Or.inr ⟨te, pe, rfl⟩)).mono ?_
    rintro e w' ⟨N, rfl, _, _, hb⟩
    exact ⟨_, rfl, hb, tup_ifc ⟨by decide, by decide⟩ _ _⟩
  · obtain ⟨te, pe, hc⟩ := glob_range hG
    refine (Any.strconv_Atoi_range laysAtoi (bA l) (by rw [bA_size]; omega) (by rw [bA_data]; exact h) _ w hc (Or.inr ⟨te, pe, rfl⟩)).mono ?_
    rintro e w' ⟨N, rfl, _, _, hb⟩
    rw [bA_data]
    exact ⟨_, rfl, hb, tup_ifc (Lib.atoiSat_bounds l) _ _⟩


end Go.Proofs.YtjnfldkcbcfboaaGreatDoor
