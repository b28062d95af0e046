/-
  strings.Index, HasSuffix, LastIndexByte, Cut, strconv.Itoa, Atoi by the library's contracts; Digits and Number of the program.
  No condition but what the arguments' cells hold.
-/
import Derived.Test.YtkompmgleojmlaaDoorENumLaw
import Derived.Test.YtkompmgleojmlaaDoorEBlStr
import Derived.Shelf.Strings.Prefix
import Derived.Shelf.Strings.LastIndex
import Derived.Shelf.Strings.Cut
import Derived.Shelf.Strconv.Itoa3
import Derived.Shelf.Strconv.AtoiAll
import Derived.Lib.AppendIntMem
set_option linter.unusedSimpArgs false
set_option linter.unusedVariables false
namespace Go.Proofs.YtkompmgleojmlaaDoor
open Go.ChangeShapes Go.WideShapes Go.ChangeAt Go.RowKit Go.Joins Go.Deep
open GoRep (rep bulk)
theorem wf64 {x : Int} (h1 : -9223372036854775808 ≤ x) (h2 : x ≤ 9223372036854775807) : (Lit.int .i64 x).wf = true := by
  rw [lit_wf]
  have hmm : IntKind.i64.min = -9223372036854775808 ∧ IntKind.i64.max = 9223372036854775807 := by decide
  omega
theorem i64_b {x : Int} (h : (Lit.int .i64 x).wf = true) : -9223372036854775808 ≤ x ∧ x ≤ 9223372036854775807 := by
  rw [lit_wf] at h
  have hmm : IntKind.i64.min = -9223372036854775808 ∧ IntKind.i64.max = 9223372036854775807 := by decide
  omega
theorem itoa_len {n : Int} (h : -9223372036854775808 ≤ n ∧ n ≤ 9223372036854775807) : (Lib.itoa n).length ≤ 20 := by
  have e : (10 : Nat) ^ 19 = 10000000000000000000 := by decide
  unfold Lib.itoa
  split
  · have := dec_len (u := n.natAbs) (k := 19) (by omega) (by decide)
    rw [List.length_cons]
    omega
  · have := dec_len (u := n.toNat) (k := 19) (by omega) (by decide)
    omega
theorem itoa_size (n : Int) (h : -9223372036854775808 ≤ n ∧ n ≤ 9223372036854775807) : (⟨(Lib.itoa n).toArray⟩ : ByteArray).size ≤ maxLen := by
  have h1 := itoa_len h
  show (Lib.itoa n).toArray.size ≤ _
  rw [List.size_toArray]
  unfold maxLen
  omega
theorem Grow.of_below {W W' : World} (h : Below W.heap.size W W') : Grow W [] W' [] :=
  ⟨h.os, h.tape, h.output, h.size, fun b hb _ => h.block b hb, fun b hb => by simp [foots] at hb, fun i e he => by simp at he⟩
def ren_num_143 : Go.Shelf.Ren := ⟨fun | 143 => 14 | 219 => 23 | 217 => 30 | 225 => 31 | 224 => 32 | 267 => 33 | 266 => 39 | 314 => 40 | n => n,
  fun | 9 => 9 | 3 => 3 | 4 => 4 | 5 => 5 | 46 => 48 | 146 => 55 | 51 => 54 | n => n,
  fun | 1 => 0 | n => n⟩
open Go.Shelf in
theorem lay_num_143 : Lays.n143 Tryd.prog ren_num_143 where
  mixed := by kernel_rfl
  f143 := Tryd.func14.trans (congrArg some (by kernel_rfl))
  f217 := Tryd.func30.trans (congrArg some (by kernel_rfl))
  f219 := Tryd.func23.trans (congrArg some (by kernel_rfl))
  f224 := Tryd.func32.trans (congrArg some (by kernel_rfl))
  f225 := Tryd.func31.trans (congrArg some (by kernel_rfl))
  f266 := Tryd.func39.trans (congrArg some (by kernel_rfl))
  f267 := Tryd.func33.trans (congrArg some (by kernel_rfl))
  f314 := Tryd.func40.trans (congrArg some (by kernel_rfl))
  t3 := Tryd.underlying3
  a3 := Tryd.isAgg3
  z3 := Tryd.sizeOf3
  v3 := Tryd.zeroValue3
  t4 := Tryd.underlying4
  a4 := Tryd.isAgg4
  z4 := Tryd.sizeOf4
  v4 := Tryd.zeroValue4
  t5 := Tryd.underlying5
  a5 := Tryd.isAgg5
  z5 := Tryd.sizeOf5
  v5 := Tryd.zeroValue5
  t9 := Tryd.underlying9
  a9 := Tryd.isAgg9
  z9 := Tryd.sizeOf9
  v9 := Tryd.zeroValue9
  t46 := Tryd.underlying48
  a46 := Tryd.isAgg48
  z46 := Tryd.sizeOf48
  v46 := Tryd.zeroValue48
  t51 := Tryd.underlying54
  a51 := Tryd.isAgg54
  z51 := Tryd.sizeOf54
  v51 := Tryd.zeroValue54
  t146 := Tryd.underlying55
  a146 := Tryd.isAgg55
  z146 := Tryd.sizeOf55
  v146 := Tryd.zeroValue55
  g1 := by kernel_rfl
def ren_num_100 : Go.Shelf.Ren := ⟨fun | 100 => 24 | 207 => 34 | n => n,
  fun | 9 => 9 | 4 => 4 | 3 => 3 | n => n,
  fun | n => n⟩
open Go.Shelf in
theorem lay_num_100 : Lays.n100 Tryd.prog ren_num_100 where
  mixed := by kernel_rfl
  f100 := Tryd.func24.trans (congrArg some (by kernel_rfl))
  f207 := Tryd.func34.trans (congrArg some (by kernel_rfl))
  t3 := Tryd.underlying3
  a3 := Tryd.isAgg3
  z3 := Tryd.sizeOf3
  v3 := Tryd.zeroValue3
  t4 := Tryd.underlying4
  a4 := Tryd.isAgg4
  z4 := Tryd.sizeOf4
  v4 := Tryd.zeroValue4
  t9 := Tryd.underlying9
  a9 := Tryd.isAgg9
  z9 := Tryd.sizeOf9
  v9 := Tryd.zeroValue9
def ren_num_149 : Go.Shelf.Ren := ⟨fun | 149 => 26 | 222 => 37 | n => n,
  fun | 9 => 9 | 5 => 5 | 3 => 3 | 4 => 4 | n => n,
  fun | n => n⟩
open Go.Shelf in
theorem lay_num_149 : Lays.n149 Tryd.prog ren_num_149 where
  mixed := by kernel_rfl
  f149 := Tryd.func26.trans (congrArg some (by kernel_rfl))
  f222 := Tryd.func37.trans (congrArg some (by kernel_rfl))
  t3 := Tryd.underlying3
  a3 := Tryd.isAgg3
  z3 := Tryd.sizeOf3
  v3 := Tryd.zeroValue3
  t4 := Tryd.underlying4
  a4 := Tryd.isAgg4
  z4 := Tryd.sizeOf4
  v4 := Tryd.zeroValue4
  t5 := Tryd.underlying5
  a5 := Tryd.isAgg5
  z5 := Tryd.sizeOf5
  v5 := Tryd.zeroValue5
  t9 := Tryd.underlying9
  a9 := Tryd.isAgg9
  z9 := Tryd.sizeOf9
  v9 := Tryd.zeroValue9
def ren_num_145 : Go.Shelf.Ren := ⟨fun | 145 => 28 | 220 => 38 | 219 => 23 | 217 => 30 | 225 => 31 | 224 => 32 | 267 => 33 | 266 => 39 | 314 => 40 | n => n,
  fun | 9 => 9 | 4 => 4 | 59 => 44 | 3 => 3 | 5 => 5 | 46 => 48 | 146 => 55 | 51 => 54 | n => n,
  fun | 1 => 0 | n => n⟩
open Go.Shelf in
theorem lay_num_145 : Lays.n145 Tryd.prog ren_num_145 where
  mixed := by kernel_rfl
  f145 := Tryd.func28.trans (congrArg some (by kernel_rfl))
  f217 := Tryd.func30.trans (congrArg some (by kernel_rfl))
  f219 := Tryd.func23.trans (congrArg some (by kernel_rfl))
  f220 := Tryd.func38.trans (congrArg some (by kernel_rfl))
  f224 := Tryd.func32.trans (congrArg some (by kernel_rfl))
  f225 := Tryd.func31.trans (congrArg some (by kernel_rfl))
  f266 := Tryd.func39.trans (congrArg some (by kernel_rfl))
  f267 := Tryd.func33.trans (congrArg some (by kernel_rfl))
  f314 := Tryd.func40.trans (congrArg some (by kernel_rfl))
  t3 := Tryd.underlying3
  a3 := Tryd.isAgg3
  z3 := Tryd.sizeOf3
  v3 := Tryd.zeroValue3
  t4 := Tryd.underlying4
  a4 := Tryd.isAgg4
  z4 := Tryd.sizeOf4
  v4 := Tryd.zeroValue4
  t5 := Tryd.underlying5
  a5 := Tryd.isAgg5
  z5 := Tryd.sizeOf5
  v5 := Tryd.zeroValue5
  t9 := Tryd.underlying9
  a9 := Tryd.isAgg9
  z9 := Tryd.sizeOf9
  v9 := Tryd.zeroValue9
  t46 := Tryd.underlying48
  a46 := Tryd.isAgg48
  z46 := Tryd.sizeOf48
  v46 := Tryd.zeroValue48
  t51 := Tryd.underlying54
  a51 := Tryd.isAgg54
  z51 := Tryd.sizeOf54
  v51 := Tryd.zeroValue54
  t59 := Tryd.underlying44
  a59 := Tryd.isAgg44
  z59 := Tryd.sizeOf44
  v59 := Tryd.zeroValue44
  t146 := Tryd.underlying55
  a146 := Tryd.isAgg55
  z146 := Tryd.sizeOf55
  v146 := Tryd.zeroValue55
  g1 := by kernel_rfl
def ren_num_171 : Go.Shelf.Ren := ⟨fun | 171 => 43 | 243 => 49 | 246 => 53 | 283 => 56 | 284 => 57 | 285 => 58 | 286 => 59 | 129 => 61 | 317 => 60 | 318 => 62 | 319 => 63 | 320 => 64 | 337 => 65 | 338 => 66 | n => n,
  fun | 3 => 3 | 9 => 9 | 2 => 2 | 4 => 4 | 171 => 76 | 0 => 0 | 53 => 64 | 37 => 53 | 5 => 5 | 173 => 79 | 212 => 82 | 51 => 54 | 20 => 20 | 213 => 83 | 46 => 48 | 232 => 87 | 233 => 88 | n => n,
  fun | 17 => 3 | 18 => 4 | 19 => 5 | n => n⟩
open Go.Shelf in
theorem lay_num_171 : LaysM.n171 Tryd.prog ren_num_171 where
  mixed := by kernel_rfl
  f129 := Tryd.func61.trans (congrArg some (by kernel_rfl))
  f171 := Tryd.func43.trans (congrArg some (by kernel_rfl))
  f243 := Tryd.func49.trans (congrArg some (by kernel_rfl))
  f246 := Tryd.func53.trans (congrArg some (by kernel_rfl))
  f283 := Tryd.func56.trans (congrArg some (by kernel_rfl))
  f284 := Tryd.func57.trans (congrArg some (by kernel_rfl))
  f285 := Tryd.func58.trans (congrArg some (by kernel_rfl))
  f286 := Tryd.func59.trans (congrArg some (by kernel_rfl))
  f317 := Tryd.func60.trans (congrArg some (by kernel_rfl))
  f318 := Tryd.func62.trans (congrArg some (by kernel_rfl))
  f319 := Tryd.func63.trans (congrArg some (by kernel_rfl))
  f320 := Tryd.func64.trans (congrArg some (by kernel_rfl))
  f337 := Tryd.func65.trans (congrArg some (by kernel_rfl))
  f338 := Tryd.func66.trans (congrArg some (by kernel_rfl))
  t0 := Tryd.underlying0
  a0 := Tryd.isAgg0
  z0 := Tryd.sizeOf0
  v0 := Tryd.zeroValue0
  t2 := Tryd.underlying2
  a2 := Tryd.isAgg2
  z2 := Tryd.sizeOf2
  v2 := Tryd.zeroValue2
  t3 := Tryd.underlying3
  a3 := Tryd.isAgg3
  z3 := Tryd.sizeOf3
  v3 := Tryd.zeroValue3
  t4 := Tryd.underlying4
  a4 := Tryd.isAgg4
  z4 := Tryd.sizeOf4
  v4 := Tryd.zeroValue4
  t5 := Tryd.underlying5
  a5 := Tryd.isAgg5
  z5 := Tryd.sizeOf5
  v5 := Tryd.zeroValue5
  t9 := Tryd.underlying9
  a9 := Tryd.isAgg9
  z9 := Tryd.sizeOf9
  v9 := Tryd.zeroValue9
  t20 := Tryd.underlying20
  a20 := Tryd.isAgg20
  z20 := Tryd.sizeOf20
  v20 := Tryd.zeroValue20
  t37 := Tryd.underlying53
  a37 := Tryd.isAgg53
  z37 := Tryd.sizeOf53
  v37 := Tryd.zeroValue53
  t46 := Tryd.underlying48
  a46 := Tryd.isAgg48
  z46 := Tryd.sizeOf48
  v46 := Tryd.zeroValue48
  t51 := Tryd.underlying54
  a51 := Tryd.isAgg54
  z51 := Tryd.sizeOf54
  v51 := Tryd.zeroValue54
  t53 := Tryd.underlying64
  a53 := Tryd.isAgg64
  z53 := Tryd.sizeOf64
  v53 := Tryd.zeroValue64
  t171 := Tryd.underlying76
  a171 := Tryd.isAgg76
  z171 := Tryd.sizeOf76
  v171 := Tryd.zeroValue76
  t173 := Tryd.underlying79
  a173 := Tryd.isAgg79
  z173 := Tryd.sizeOf79
  v173 := Tryd.zeroValue79
  t212 := Tryd.underlying82
  a212 := Tryd.isAgg82
  z212 := Tryd.sizeOf82
  v212 := Tryd.zeroValue82
  t213 := Tryd.underlying83
  a213 := Tryd.isAgg83
  z213 := Tryd.sizeOf83
  t232 := Tryd.underlying87
  a232 := Tryd.isAgg87
  z232 := Tryd.sizeOf87
  v232 := Tryd.zeroValue87
  t233 := Tryd.underlying88
  a233 := Tryd.isAgg88
  z233 := Tryd.sizeOf88
  v233 := Tryd.zeroValue88
  g17 := by kernel_rfl
  g18 := by kernel_rfl
  g19 := by kernel_rfl
  i0 := by kernel_rfl
  i2 := by kernel_rfl
  i3 := by kernel_rfl
  i4 := by kernel_rfl
  i5 := by kernel_rfl
  i9 := by kernel_rfl
  i20 := by kernel_rfl
  i37 := by kernel_rfl
  i46 := by kernel_rfl
  i51 := by kernel_rfl
  i53 := by kernel_rfl
  i171 := by kernel_rfl
  i173 := by kernel_rfl
  i212 := by kernel_rfl
  i232 := by kernel_rfl
  i233 := by kernel_rfl
  m17 := by kernel_rfl
  m18 := by kernel_rfl
  m19 := by kernel_rfl
def ren_num_172 : Go.Shelf.Ren := ⟨fun | 172 => 35 | 244 => 41 | 245 => 42 | 247 => 44 | 279 => 45 | 280 => 46 | 281 => 47 | 282 => 48 | 287 => 50 | 316 => 51 | 171 => 43 | 205 => 52 | 321 => 54 | 322 => 55 | 243 => 49 | 246 => 53 | 283 => 56 | 284 => 57 | 285 => 58 | 286 => 59 | 129 => 61 | 317 => 60 | 318 => 62 | 319 => 63 | 320 => 64 | 337 => 65 | 338 => 66 | n => n,
  fun | 9 => 9 | 3 => 3 | 75 => 50 | 76 => 51 | 4 => 4 | 5 => 5 | 167 => 58 | 37 => 53 | 0 => 0 | 85 => 59 | 2 => 2 | 168 => 61 | 53 => 64 | 175 => 65 | 46 => 48 | 210 => 68 | 127 => 72 | 145 => 75 | 143 => 73 | 21 => 21 | 171 => 76 | 173 => 79 | 212 => 82 | 51 => 54 | 20 => 20 | 213 => 83 | 232 => 87 | 233 => 88 | 80 => 91 | n => n,
  fun | 15 => 1 | 16 => 2 | 17 => 3 | 18 => 4 | 19 => 5 | n => n⟩
open Go.Shelf in
theorem lay_num_172 : LaysC.n172 Tryd.prog ren_num_172 where
  mixed := by kernel_rfl
  f129 := Tryd.func61.trans (congrArg some (by kernel_rfl))
  f171 := Tryd.func43.trans (congrArg some (by kernel_rfl))
  f172 := Tryd.func35.trans (congrArg some (by kernel_rfl))
  f205 := Tryd.func52.trans (congrArg some (by kernel_rfl))
  f243 := Tryd.func49.trans (congrArg some (by kernel_rfl))
  f244 := Tryd.func41.trans (congrArg some (by kernel_rfl))
  f245 := Tryd.func42.trans (congrArg some (by kernel_rfl))
  f246 := Tryd.func53.trans (congrArg some (by kernel_rfl))
  f247 := Tryd.func44.trans (congrArg some (by kernel_rfl))
  f279 := Tryd.func45.trans (congrArg some (by kernel_rfl))
  f280 := Tryd.func46.trans (congrArg some (by kernel_rfl))
  f281 := Tryd.func47.trans (congrArg some (by kernel_rfl))
  f282 := Tryd.func48.trans (congrArg some (by kernel_rfl))
  f283 := Tryd.func56.trans (congrArg some (by kernel_rfl))
  f284 := Tryd.func57.trans (congrArg some (by kernel_rfl))
  f285 := Tryd.func58.trans (congrArg some (by kernel_rfl))
  f286 := Tryd.func59.trans (congrArg some (by kernel_rfl))
  f287 := Tryd.func50.trans (congrArg some (by kernel_rfl))
  f316 := Tryd.func51.trans (congrArg some (by kernel_rfl))
  f317 := Tryd.func60.trans (congrArg some (by kernel_rfl))
  f318 := Tryd.func62.trans (congrArg some (by kernel_rfl))
  f319 := Tryd.func63.trans (congrArg some (by kernel_rfl))
  f320 := Tryd.func64.trans (congrArg some (by kernel_rfl))
  f321 := Tryd.func54.trans (congrArg some (by kernel_rfl))
  f322 := Tryd.func55.trans (congrArg some (by kernel_rfl))
  f337 := Tryd.func65.trans (congrArg some (by kernel_rfl))
  f338 := Tryd.func66.trans (congrArg some (by kernel_rfl))
  t0 := Tryd.underlying0
  a0 := Tryd.isAgg0
  z0 := Tryd.sizeOf0
  v0 := Tryd.zeroValue0
  t2 := Tryd.underlying2
  a2 := Tryd.isAgg2
  z2 := Tryd.sizeOf2
  v2 := Tryd.zeroValue2
  t3 := Tryd.underlying3
  a3 := Tryd.isAgg3
  z3 := Tryd.sizeOf3
  v3 := Tryd.zeroValue3
  t4 := Tryd.underlying4
  a4 := Tryd.isAgg4
  z4 := Tryd.sizeOf4
  v4 := Tryd.zeroValue4
  t5 := Tryd.underlying5
  a5 := Tryd.isAgg5
  z5 := Tryd.sizeOf5
  v5 := Tryd.zeroValue5
  t9 := Tryd.underlying9
  a9 := Tryd.isAgg9
  z9 := Tryd.sizeOf9
  v9 := Tryd.zeroValue9
  t20 := Tryd.underlying20
  a20 := Tryd.isAgg20
  z20 := Tryd.sizeOf20
  v20 := Tryd.zeroValue20
  t21 := Tryd.underlying21
  a21 := Tryd.isAgg21
  z21 := Tryd.sizeOf21
  v21 := Tryd.zeroValue21
  t37 := Tryd.underlying53
  a37 := Tryd.isAgg53
  z37 := Tryd.sizeOf53
  v37 := Tryd.zeroValue53
  t46 := Tryd.underlying48
  a46 := Tryd.isAgg48
  z46 := Tryd.sizeOf48
  v46 := Tryd.zeroValue48
  t51 := Tryd.underlying54
  a51 := Tryd.isAgg54
  z51 := Tryd.sizeOf54
  v51 := Tryd.zeroValue54
  t53 := Tryd.underlying64
  a53 := Tryd.isAgg64
  z53 := Tryd.sizeOf64
  v53 := Tryd.zeroValue64
  t75 := Tryd.underlying50
  a75 := Tryd.isAgg50
  z75 := Tryd.sizeOf50
  v75 := Tryd.zeroValue50
  t76 := Tryd.underlying51
  a76 := Tryd.isAgg51
  z76 := Tryd.sizeOf51
  v76 := Tryd.zeroValue51
  t85 := Tryd.underlying59
  a85 := Tryd.isAgg59
  z85 := Tryd.sizeOf59
  v85 := Tryd.zeroValue59
  t127 := Tryd.underlying72
  a127 := Tryd.isAgg72
  z127 := Tryd.sizeOf72
  v127 := Tryd.zeroValue72
  t143 := Tryd.underlying73
  a143 := Tryd.isAgg73
  z143 := Tryd.sizeOf73
  v143 := Tryd.zeroValue73
  t145 := Tryd.underlying75
  a145 := Tryd.isAgg75
  z145 := Tryd.sizeOf75
  v145 := Tryd.zeroValue75
  t167 := Tryd.underlying58
  a167 := Tryd.isAgg58
  z167 := Tryd.sizeOf58
  v167 := Tryd.zeroValue58
  t168 := Tryd.underlying61
  a168 := Tryd.isAgg61
  z168 := Tryd.sizeOf61
  v168 := Tryd.zeroValue61
  t171 := Tryd.underlying76
  a171 := Tryd.isAgg76
  z171 := Tryd.sizeOf76
  v171 := Tryd.zeroValue76
  t173 := Tryd.underlying79
  a173 := Tryd.isAgg79
  z173 := Tryd.sizeOf79
  v173 := Tryd.zeroValue79
  t175 := Tryd.underlying65
  a175 := Tryd.isAgg65
  z175 := Tryd.sizeOf65
  v175 := Tryd.zeroValue65
  t210 := Tryd.underlying68
  a210 := Tryd.isAgg68
  z210 := Tryd.sizeOf68
  v210 := Tryd.zeroValue68
  t212 := Tryd.underlying82
  a212 := Tryd.isAgg82
  z212 := Tryd.sizeOf82
  v212 := Tryd.zeroValue82
  t213 := Tryd.underlying83
  a213 := Tryd.isAgg83
  z213 := Tryd.sizeOf83
  t232 := Tryd.underlying87
  a232 := Tryd.isAgg87
  z232 := Tryd.sizeOf87
  v232 := Tryd.zeroValue87
  t233 := Tryd.underlying88
  a233 := Tryd.isAgg88
  z233 := Tryd.sizeOf88
  v233 := Tryd.zeroValue88
  g15 := by kernel_rfl
  g16 := by kernel_rfl
  g17 := by kernel_rfl
  g18 := by kernel_rfl
  g19 := by kernel_rfl
  t80 := Tryd.underlying91
  a80 := Tryd.isAgg91
  z80 := Tryd.sizeOf91
  v80 := Tryd.zeroValue91
  i0 := by kernel_rfl
  i2 := by kernel_rfl
  i3 := by kernel_rfl
  i4 := by kernel_rfl
  i5 := by kernel_rfl
  i9 := by kernel_rfl
  i20 := by kernel_rfl
  i21 := by kernel_rfl
  i37 := by kernel_rfl
  i46 := by kernel_rfl
  i51 := by kernel_rfl
  i53 := by kernel_rfl
  i75 := by kernel_rfl
  i76 := by kernel_rfl
  i80 := by kernel_rfl
  i85 := by kernel_rfl
  i127 := by kernel_rfl
  i143 := by kernel_rfl
  i145 := by kernel_rfl
  i167 := by kernel_rfl
  i168 := by kernel_rfl
  i171 := by kernel_rfl
  i173 := by kernel_rfl
  i175 := by kernel_rfl
  i210 := by kernel_rfl
  i212 := by kernel_rfl
  i232 := by kernel_rfl
  i233 := by kernel_rfl
  m15 := by kernel_rfl
  m16 := by kernel_rfl
  m17 := by kernel_rfl
  m18 := by kernel_rfl
  m19 := by kernel_rfl
  c0 := by kernel_rfl
  c2 := by kernel_rfl
  c3 := by kernel_rfl
  c4 := by kernel_rfl
  c5 := by kernel_rfl
  c9 := by kernel_rfl
  c20 := by kernel_rfl
  c21 := by kernel_rfl
  c37 := by kernel_rfl
  c46 := by kernel_rfl
  c51 := by kernel_rfl
  c53 := by kernel_rfl
  c75 := by kernel_rfl
  c76 := by kernel_rfl
  c80 := by kernel_rfl
  c85 := by kernel_rfl
  c127 := by kernel_rfl
  c143 := by kernel_rfl
  c145 := by kernel_rfl
  c167 := by kernel_rfl
  c168 := by kernel_rfl
  c171 := by kernel_rfl
  c173 := by kernel_rfl
  c175 := by kernel_rfl
  c210 := by kernel_rfl
  c212 := by kernel_rfl
  c213 := by kernel_rfl
  c232 := by kernel_rfl
  c233 := by kernel_rfl
theorem b_strings_Index (s t : ByteArray) (h : s.size < 4294967281) : BCalls Tryd.prog 14 [.c (.str s), .c (.str t)] (.c (.int .i64 (Lib.index s.data.toList t.data.toList))) [] := by
  intro X W vs hX hgl hr
  obtain ⟨v, r, rfl, ⟨rfl, hw⟩, u, r2, rfl, ⟨rfl, hu⟩, hn⟩ := hr
  obtain rfl : r2 = [] := hn
  obtain ⟨m, hm⟩ := hgl.int (g := 0) (by simp [globs])
  refine (Any.strings_Index lay_num_143 s t m W h hm).mono fun e W' he => ?_
  obtain ⟨rfl, rfl⟩ := he
  have h1 := Lib.index_ge s.data.toList t.data.toList
  have h2 : Lib.index s.data.toList t.data.toList ≤ s.size := by
    rcases Lib.index_spec s.data.toList t.data.toList with ⟨q, _⟩ | ⟨i, q, q2, _⟩
    · omega
    · have := toList_size s
      omega
  exact ⟨_, [], rfl, Grow.refl W' [], nilM hX, rfl, wf64 (by omega) (by omega)⟩
def e_strings_Index : Entry Tryd.prog := ⟨14, [.v tyStr, .v tyStr], fun x => ByteArray.size x.1 < 4294967281, fun x => .c (.int .i64 (Lib.index x.1.data.toList x.2.1.data.toList)), fun _ => [], fun x hx => b_strings_Index x.1 x.2.1 hx, Tryd.call14⟩
theorem b_strings_HasSuffix (s t : ByteArray) : BCalls Tryd.prog 24 [.c (.str s), .c (.str t)] (.c (.bool (Lib.hasSuffix s.data.toList t.data.toList))) [] := by
  intro X W vs hX hgl hr
  obtain ⟨v, r, rfl, ⟨rfl, hw⟩, u, r2, rfl, ⟨rfl, hu⟩, hn⟩ := hr
  obtain rfl : r2 = [] := hn
  have hs : s.size ≤ maxLen := hw
  unfold maxLen at hs
  refine (Any.strings_HasSuffix lay_num_100 s t W (by omega)).mono fun e W' he => ?_
  obtain ⟨rfl, rfl⟩ := he
  exact ⟨_, [], rfl, Grow.refl W' [], nilM hX, rfl⟩
def e_strings_HasSuffix : Entry Tryd.prog := ⟨24, [.v tyStr, .v tyStr], fun x => True, fun x => .c (.bool (Lib.hasSuffix x.1.data.toList x.2.1.data.toList)), fun _ => [], fun x hx => b_strings_HasSuffix x.1 x.2.1, Tryd.call24⟩
theorem b_strings_LastIndexByte (s : ByteArray) (c : Int) (hpre : s.size ≤ 1048576) : BCalls Tryd.prog 26 [.c (.str s), .c (.int .u8 c)] (.c (.int .i64 (Lib.lastIndexByte s c))) [] := by
  intro X W vs hX hgl hr
  obtain ⟨v, r, rfl, ⟨rfl, hw⟩, u, r2, rfl, ⟨rfl, hu⟩, hn⟩ := hr
  obtain rfl : r2 = [] := hn
  refine (Any.strings_LastIndexByte lay_num_149 s c (by omega) W).mono fun e W' he => ?_
  obtain ⟨rfl, rfl⟩ := he
  have h1 : -1 ≤ Lib.lastIndexByte s c ∧ Lib.lastIndexByte s c ≤ s.size := by
    rcases Lib.lastIdx_spec s c s.size with ⟨q, _⟩ | ⟨i, q, q2, _⟩
    · have : Lib.lastIndexByte s c = -1 := q
      omega
    · have : Lib.lastIndexByte s c = i := q2
      omega
  exact ⟨_, [], rfl, Grow.refl W' [], nilM hX, rfl, wf64 (by omega) (by omega)⟩
def e_strings_LastIndexByte : Entry Tryd.prog := ⟨26, [.v tyStr, .v (.int .u8)], fun x => ByteArray.size x.1 ≤ 1048576, fun x => .c (.int .i64 (Lib.lastIndexByte x.1 x.2.1)), fun _ => [], fun x hx => b_strings_LastIndexByte x.1 x.2.1 hx, Tryd.call26⟩
theorem pow_of {W : World} (hgl : Glob W []) : Lib.TabIs Tryd.prog W "internal/strconv.uint64pow10" .u64 Lib.pow10Tab := by
  have h : blkCells W.heap[3]? = _ := (hgl (3, gTab .u64 Lib.pow10Tab) (by simp [globs])).1
  show (Program.globalNamed Tryd.prog "internal/strconv.uint64pow10").bind _ = _
  rw [show Program.globalNamed Tryd.prog "internal/strconv.uint64pow10" = some 3 by kernel_rfl]
  exact h
theorem b_strconv_Itoa (n : Int) : BCalls Tryd.prog 43 [.c (.int .i64 n)] (.c (.str ⟨(Lib.itoa n).toArray⟩)) [] := by
  intro X W vs hX hgl hr
  obtain ⟨v, r, rfl, ⟨rfl, hw⟩, hn⟩ := hr
  obtain rfl : r = [] := hn
  have hb := i64_b hw
  refine (Any.strconv_Itoa lay_num_171 n (by omega) (by omega) W (pow_of hgl)).mono fun e W' he => ?_
  obtain ⟨rfl, k, os, rfl⟩ := he
  exact ⟨_, [], rfl, Grow.of_below (Lib.below_grow _ W (Nat.le_refl _) k os), nilM (fun b hb => Nat.lt_of_lt_of_le (hX b hb) (Lib.below_grow _ W (Nat.le_refl _) k os).size), rfl, itoa_size n hb⟩
def e_strconv_Itoa : Entry Tryd.prog := ⟨43, [.v tyInt], fun x => True, fun x => .c (.str ⟨(Lib.itoa x.1).toArray⟩), fun _ => [], fun x hx => b_strconv_Itoa x.1, Tryd.call43⟩
def cutB (s t : ByteArray) : ByteArray × ByteArray × Bool := (⟨(Lib.cut s.data.toList t.data.toList).1.toArray⟩, ⟨(Lib.cut s.data.toList t.data.toList).2.1.toArray⟩, (Lib.cut s.data.toList t.data.toList).2.2)
theorem cut_sizes (s t : ByteArray) : (cutB s t).1.size ≤ s.size ∧ (cutB s t).2.1.size ≤ s.size := by
  have h1 : (cutB s t).1.size = (Lib.cut s.data.toList t.data.toList).1.length := by show (List.toArray _).size = _; rw [List.size_toArray]
  have h2 : (cutB s t).2.1.size = (Lib.cut s.data.toList t.data.toList).2.1.length := by show (List.toArray _).size = _; rw [List.size_toArray]
  have h3 := toList_size s
  rw [h1, h2]
  unfold Lib.cut
  split
  · simp only [List.length_take, List.length_drop]
    omega
  · simp only [List.length_nil]
    omega
theorem b_strings_Cut (s t : ByteArray) (h : s.size < 4294967281) : BCalls Tryd.prog 28 [.c (.str s), .c (.str t)] (.tp [.c (.str (cutB s t).1), .c (.str (cutB s t).2.1), .c (.bool (cutB s t).2.2)]) [] := by
  intro X W vs hX hgl hr
  obtain ⟨v, r, rfl, ⟨rfl, hw⟩, u, r2, rfl, ⟨rfl, hu⟩, hn⟩ := hr
  obtain rfl : r2 = [] := hn
  have hs : s.size ≤ maxLen := hw
  obtain ⟨m, hm⟩ := hgl.int (g := 0) (by simp [globs])
  refine (Any.strings_Cut lay_num_145 s t m W h hm).mono fun e W' he => ?_
  obtain ⟨rfl, n, rfl⟩ := he
  have hc := cut_sizes s t
  exact ⟨_, [], rfl, Grow.of_below ⟨rfl, rfl, rfl, Nat.le_refl _, fun _ _ => rfl⟩, nilM hX, _, rfl, _, _, rfl, ⟨rfl, Nat.le_trans hc.1 hs⟩, _, _, rfl, ⟨rfl, Nat.le_trans hc.2 hs⟩, _, _, rfl, rfl, rfl⟩
def e_strings_Cut : Entry Tryd.prog := ⟨28, [.v tyStr, .v tyStr], fun x => ByteArray.size x.1 < 4294967281, fun x => .tp [.c (.str (cutB x.1 x.2.1).1), .c (.str (cutB x.1 x.2.1).2.1), .c (.bool (cutB x.1 x.2.1).2.2)], fun _ => [], fun x hx => b_strings_Cut x.1 x.2.1 hx, Tryd.call28⟩
/-- a line's last byte 13 stays -/
def crF (s : ByteArray) : ByteArray := if endsB s 13 = true then ⟨#[13]⟩ else ⟨#[]⟩
def restF (s : ByteArray) : ByteArray := if twoI s 0 < 0 then crF s else ByteArray.extract s (Int.toNat (twoI s 0 + 2)) s.size
theorem list0 (s : ByteArray) : (ByteArray.extract s 0 s.size).data.toList = s.data.toList := by
  rw [ext_list, List.drop_zero, Nat.sub_zero, List.take_of_length_le (by rw [toList_size]; exact Nat.le_refl _)]
theorem cut_none {s : ByteArray} (h : twoI s 0 < 0) : (cutB s ⟨#[13, 10]⟩).2.2 = false := by
  have h1 := index_twoI s 0
  rw [if_pos h, list0] at h1
  show (Lib.cut s.data.toList [13, 10]).2.2 = false
  unfold Lib.cut
  rw [h1]
  rfl
theorem cut_some {s : ByteArray} (h : ¬ twoI s 0 < 0) : (cutB s ⟨#[13, 10]⟩).2.2 = true ∧ (cutB s ⟨#[13, 10]⟩).2.1 = ByteArray.extract s (Int.toNat (twoI s 0 + 2)) s.size := by
  have h1 := index_twoI s 0
  rw [if_neg h, list0] at h1
  have e : Lib.cut s.data.toList [13, 10] = (s.data.toList.take (twoI s 0 - (0 : Nat)).toNat, s.data.toList.drop ((twoI s 0 - (0 : Nat)).toNat + 2), true) := by
    have h2 : 0 ≤ Lib.index s.data.toList [13, 10] := by rw [h1]; omega
    unfold Lib.cut
    rw [if_pos h2, h1]
    rfl
  constructor
  · show (Lib.cut s.data.toList [13, 10]).2.2 = true
    rw [e]
  · apply ByteArray.ext
    show (Lib.cut s.data.toList [13, 10]).2.1.toArray = _
    rw [e]
    show (List.drop ((twoI s 0 - ((0 : Nat) : Int)).toNat + 2) s.data.toList).toArray = _
    have h3 : (twoI s 0 - ((0 : Nat) : Int)).toNat + 2 = Int.toNat (twoI s 0 + 2) := by omega
    apply Array.toList_inj.1
    rw [ext_list, List.toList_toArray, h3, List.take_of_length_le (by rw [List.length_drop, toList_size]; exact Nat.le_refl _)]
/-- Atoi: a number, or an error -/
theorem atoi_calls (s : ByteArray) (hs : s.size ≤ 1048576) (W : World) (hgl : Glob W []) : Calls Tryd.prog 35 #[.string s] W fun e W' => Grow W [] W' [] ∧
    ((∃ n, Lib.atoiAll s.data.toList = .ok n ∧ e = .returned (.tuple #[.int .i64 n, .nilIface])) ∨ ((∀ n, Lib.atoiAll s.data.toList ≠ .ok n) ∧ ∃ n t u, e = .returned (.tuple #[.int .i64 n, .iface t u]))) := by
  have ev : ∀ g, (g, gErr) ∈ globs → ∃ tp p, W.cell? ⟨g, 0, none⟩ = some (.iface tp p) := fun g hg => by
    obtain ⟨⟨tp, p, h⟩, _⟩ := hgl _ hg
    exact ⟨tp, p, (cell_blk h).trans rfl⟩
  cases h : Lib.atoiAll s.data.toList with
  | ok n =>
    refine (Any.strconv_Atoi_ok lay_num_172 s (by omega) n h W).mono fun e W' he => ?_
    obtain ⟨rfl, hw⟩ := he
    refine ⟨Grow.of_below ?_, .inl ⟨n, rfl, rfl⟩⟩
    rcases hw with rfl | ⟨t, rfl⟩
    · exact Below.refl _ _
    · exact Lib.bytesWorld_below _ _ _
  | «syntax» =>
    obtain ⟨tp, p, hv⟩ := ev 1 (by simp [globs])
    refine (Any.strconv_Atoi_syntax lay_num_172 s (by omega) h (.iface tp p) W hv (.inr ⟨tp, p, rfl⟩)).mono fun e W' he => ?_
    obtain ⟨N, rfl, _, _, hb⟩ := he
    exact ⟨Grow.of_below hb, .inr ⟨fun n h => by (simp at h), _, _, _, rfl⟩⟩
  | range =>
    obtain ⟨tp, p, hv⟩ := ev 2 (by simp [globs])
    refine (Any.strconv_Atoi_range lay_num_172 s (by omega) h (.iface tp p) W hv (.inr ⟨tp, p, rfl⟩)).mono fun e W' he => ?_
    obtain ⟨N, rfl, _, _, hb⟩ := he
    exact ⟨Grow.of_below hb, .inr ⟨fun n h => by (simp at h), _, _, _, rfl⟩⟩
end Go.Proofs.YtkompmgleojmlaaDoor
