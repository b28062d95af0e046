/-
  strings.Index, HasSuffix, LastIndexByte, Cut, strconv.Itoa, Atoi by the library's contracts; Digits and Number of the program.
  No condition but what the arguments' cells hold.
-/
import Derived.Test.YtbpapaponnfagaaGreatDoorLNumLaw
import Derived.Test.YtbpapaponnfagaaGreatDoorLBlOk
import Derived.Shelf.Strings.Prefix
import Derived.Shelf.Strings.LastIndex
import Derived.Shelf.Strings.Cut
import Derived.Shelf.Strconv.Itoa3
import Derived.Shelf.Strconv.AtoiAll
import Derived.Lib.AppendIntMem
set_option linter.unusedSimpArgs false
set_option linter.unusedVariables false
namespace Go.Proofs.YtbpapaponnfagaaGreatDoor
open Go.ChangeShapes Go.WideShapes Go.ChangeAt Go.RowKit Go.Joins Go.Deep
open GoRep (rep bulk)
theorem Grow.of_below {W W' : World} (h : Below W.heap.size W W') : Grow W [] W' [] :=
  ⟨h.os, h.tape, h.output, h.size, fun b hb _ => h.block b hb, fun b hb => by simp [foots] at hb, fun i e he => by simp at he⟩
def ren_num_143 : Go.Shelf.Ren := ⟨fun | 143 => 121 | 219 => 183 | 217 => 226 | 225 => 227 | 224 => 228 | 267 => 229 | 266 => 242 | 314 => 243 | n => n,
  fun | 9 => 9 | 3 => 3 | 4 => 4 | 5 => 5 | 46 => 164 | 146 => 187 | 51 => 186 | n => n,
  fun | 1 => 0 | n => n⟩
open Go.Shelf in
theorem lay_num_143 : Lays.n143 Tryz.prog ren_num_143 where
  mixed := by kernel_rfl
  f143 := Tryz.func121.trans (congrArg some (by kernel_rfl))
  f217 := Tryz.func226.trans (congrArg some (by kernel_rfl))
  f219 := Tryz.func183.trans (congrArg some (by kernel_rfl))
  f224 := Tryz.func228.trans (congrArg some (by kernel_rfl))
  f225 := Tryz.func227.trans (congrArg some (by kernel_rfl))
  f266 := Tryz.func242.trans (congrArg some (by kernel_rfl))
  f267 := Tryz.func229.trans (congrArg some (by kernel_rfl))
  f314 := Tryz.func243.trans (congrArg some (by kernel_rfl))
  t3 := Tryz.underlying3
  a3 := Tryz.isAgg3
  z3 := Tryz.sizeOf3
  v3 := Tryz.zeroValue3
  t4 := Tryz.underlying4
  a4 := Tryz.isAgg4
  z4 := Tryz.sizeOf4
  v4 := Tryz.zeroValue4
  t5 := Tryz.underlying5
  a5 := Tryz.isAgg5
  z5 := Tryz.sizeOf5
  v5 := Tryz.zeroValue5
  t9 := Tryz.underlying9
  a9 := Tryz.isAgg9
  z9 := Tryz.sizeOf9
  v9 := Tryz.zeroValue9
  t46 := Tryz.underlying164
  a46 := Tryz.isAgg164
  z46 := Tryz.sizeOf164
  v46 := Tryz.zeroValue164
  t51 := Tryz.underlying186
  a51 := Tryz.isAgg186
  z51 := Tryz.sizeOf186
  v51 := Tryz.zeroValue186
  t146 := Tryz.underlying187
  a146 := Tryz.isAgg187
  z146 := Tryz.sizeOf187
  v146 := Tryz.zeroValue187
  g1 := by kernel_rfl
def ren_num_100 : Go.Shelf.Ren := ⟨fun | 100 => 120 | 207 => 182 | n => n,
  fun | 9 => 9 | 4 => 4 | 3 => 3 | n => n,
  fun | n => n⟩
open Go.Shelf in
theorem lay_num_100 : Lays.n100 Tryz.prog ren_num_100 where
  mixed := by kernel_rfl
  f100 := Tryz.func120.trans (congrArg some (by kernel_rfl))
  f207 := Tryz.func182.trans (congrArg some (by kernel_rfl))
  t3 := Tryz.underlying3
  a3 := Tryz.isAgg3
  z3 := Tryz.sizeOf3
  v3 := Tryz.zeroValue3
  t4 := Tryz.underlying4
  a4 := Tryz.isAgg4
  z4 := Tryz.sizeOf4
  v4 := Tryz.zeroValue4
  t9 := Tryz.underlying9
  a9 := Tryz.isAgg9
  z9 := Tryz.sizeOf9
  v9 := Tryz.zeroValue9
def ren_num_149 : Go.Shelf.Ren := ⟨fun | 149 => 185 | 222 => 231 | n => n,
  fun | 9 => 9 | 5 => 5 | 3 => 3 | 4 => 4 | n => n,
  fun | n => n⟩
open Go.Shelf in
theorem lay_num_149 : Lays.n149 Tryz.prog ren_num_149 where
  mixed := by kernel_rfl
  f149 := Tryz.func185.trans (congrArg some (by kernel_rfl))
  f222 := Tryz.func231.trans (congrArg some (by kernel_rfl))
  t3 := Tryz.underlying3
  a3 := Tryz.isAgg3
  z3 := Tryz.sizeOf3
  v3 := Tryz.zeroValue3
  t4 := Tryz.underlying4
  a4 := Tryz.isAgg4
  z4 := Tryz.sizeOf4
  v4 := Tryz.zeroValue4
  t5 := Tryz.underlying5
  a5 := Tryz.isAgg5
  z5 := Tryz.sizeOf5
  v5 := Tryz.zeroValue5
  t9 := Tryz.underlying9
  a9 := Tryz.isAgg9
  z9 := Tryz.sizeOf9
  v9 := Tryz.zeroValue9
def ren_num_145 : Go.Shelf.Ren := ⟨fun | 145 => 113 | 220 => 180 | 219 => 183 | 217 => 226 | 225 => 227 | 224 => 228 | 267 => 229 | 266 => 242 | 314 => 243 | n => n,
  fun | 9 => 9 | 4 => 4 | 59 => 111 | 3 => 3 | 5 => 5 | 46 => 164 | 146 => 187 | 51 => 186 | n => n,
  fun | 1 => 0 | n => n⟩
open Go.Shelf in
theorem lay_num_145 : Lays.n145 Tryz.prog ren_num_145 where
  mixed := by kernel_rfl
  f145 := Tryz.func113.trans (congrArg some (by kernel_rfl))
  f217 := Tryz.func226.trans (congrArg some (by kernel_rfl))
  f219 := Tryz.func183.trans (congrArg some (by kernel_rfl))
  f220 := Tryz.func180.trans (congrArg some (by kernel_rfl))
  f224 := Tryz.func228.trans (congrArg some (by kernel_rfl))
  f225 := Tryz.func227.trans (congrArg some (by kernel_rfl))
  f266 := Tryz.func242.trans (congrArg some (by kernel_rfl))
  f267 := Tryz.func229.trans (congrArg some (by kernel_rfl))
  f314 := Tryz.func243.trans (congrArg some (by kernel_rfl))
  t3 := Tryz.underlying3
  a3 := Tryz.isAgg3
  z3 := Tryz.sizeOf3
  v3 := Tryz.zeroValue3
  t4 := Tryz.underlying4
  a4 := Tryz.isAgg4
  z4 := Tryz.sizeOf4
  v4 := Tryz.zeroValue4
  t5 := Tryz.underlying5
  a5 := Tryz.isAgg5
  z5 := Tryz.sizeOf5
  v5 := Tryz.zeroValue5
  t9 := Tryz.underlying9
  a9 := Tryz.isAgg9
  z9 := Tryz.sizeOf9
  v9 := Tryz.zeroValue9
  t46 := Tryz.underlying164
  a46 := Tryz.isAgg164
  z46 := Tryz.sizeOf164
  v46 := Tryz.zeroValue164
  t51 := Tryz.underlying186
  a51 := Tryz.isAgg186
  z51 := Tryz.sizeOf186
  v51 := Tryz.zeroValue186
  t59 := Tryz.underlying111
  a59 := Tryz.isAgg111
  z59 := Tryz.sizeOf111
  v59 := Tryz.zeroValue111
  t146 := Tryz.underlying187
  a146 := Tryz.isAgg187
  z146 := Tryz.sizeOf187
  v146 := Tryz.zeroValue187
  g1 := by kernel_rfl
def ren_num_171 : Go.Shelf.Ren := ⟨fun | 171 => 235 | 243 => 246 | 246 => 254 | 283 => 261 | 284 => 262 | 285 => 263 | 286 => 264 | 129 => 271 | 317 => 270 | 318 => 272 | 319 => 273 | 320 => 274 | 337 => 275 | 338 => 276 | n => n,
  fun | 3 => 3 | 9 => 9 | 2 => 2 | 4 => 4 | 171 => 207 | 0 => 0 | 53 => 201 | 37 => 22 | 5 => 5 | 173 => 210 | 212 => 217 | 51 => 186 | 20 => 20 | 213 => 218 | 46 => 164 | 232 => 225 | 233 => 226 | n => n,
  fun | 17 => 3 | 18 => 6 | 19 => 7 | n => n⟩
open Go.Shelf in
theorem lay_num_171 : LaysM.n171 Tryz.prog ren_num_171 where
  mixed := by kernel_rfl
  f129 := Tryz.func271.trans (congrArg some (by kernel_rfl))
  f171 := Tryz.func235.trans (congrArg some (by kernel_rfl))
  f243 := Tryz.func246.trans (congrArg some (by kernel_rfl))
  f246 := Tryz.func254.trans (congrArg some (by kernel_rfl))
  f283 := Tryz.func261.trans (congrArg some (by kernel_rfl))
  f284 := Tryz.func262.trans (congrArg some (by kernel_rfl))
  f285 := Tryz.func263.trans (congrArg some (by kernel_rfl))
  f286 := Tryz.func264.trans (congrArg some (by kernel_rfl))
  f317 := Tryz.func270.trans (congrArg some (by kernel_rfl))
  f318 := Tryz.func272.trans (congrArg some (by kernel_rfl))
  f319 := Tryz.func273.trans (congrArg some (by kernel_rfl))
  f320 := Tryz.func274.trans (congrArg some (by kernel_rfl))
  f337 := Tryz.func275.trans (congrArg some (by kernel_rfl))
  f338 := Tryz.func276.trans (congrArg some (by kernel_rfl))
  t0 := Tryz.underlying0
  a0 := Tryz.isAgg0
  z0 := Tryz.sizeOf0
  v0 := Tryz.zeroValue0
  t2 := Tryz.underlying2
  a2 := Tryz.isAgg2
  z2 := Tryz.sizeOf2
  v2 := Tryz.zeroValue2
  t3 := Tryz.underlying3
  a3 := Tryz.isAgg3
  z3 := Tryz.sizeOf3
  v3 := Tryz.zeroValue3
  t4 := Tryz.underlying4
  a4 := Tryz.isAgg4
  z4 := Tryz.sizeOf4
  v4 := Tryz.zeroValue4
  t5 := Tryz.underlying5
  a5 := Tryz.isAgg5
  z5 := Tryz.sizeOf5
  v5 := Tryz.zeroValue5
  t9 := Tryz.underlying9
  a9 := Tryz.isAgg9
  z9 := Tryz.sizeOf9
  v9 := Tryz.zeroValue9
  t20 := Tryz.underlying20
  a20 := Tryz.isAgg20
  z20 := Tryz.sizeOf20
  v20 := Tryz.zeroValue20
  t37 := Tryz.underlying22
  a37 := Tryz.isAgg22
  z37 := Tryz.sizeOf22
  v37 := Tryz.zeroValue22
  t46 := Tryz.underlying164
  a46 := Tryz.isAgg164
  z46 := Tryz.sizeOf164
  v46 := Tryz.zeroValue164
  t51 := Tryz.underlying186
  a51 := Tryz.isAgg186
  z51 := Tryz.sizeOf186
  v51 := Tryz.zeroValue186
  t53 := Tryz.underlying201
  a53 := Tryz.isAgg201
  z53 := Tryz.sizeOf201
  v53 := Tryz.zeroValue201
  t171 := Tryz.underlying207
  a171 := Tryz.isAgg207
  z171 := Tryz.sizeOf207
  v171 := Tryz.zeroValue207
  t173 := Tryz.underlying210
  a173 := Tryz.isAgg210
  z173 := Tryz.sizeOf210
  v173 := Tryz.zeroValue210
  t212 := Tryz.underlying217
  a212 := Tryz.isAgg217
  z212 := Tryz.sizeOf217
  v212 := Tryz.zeroValue217
  t213 := Tryz.underlying218
  a213 := Tryz.isAgg218
  z213 := Tryz.sizeOf218
  t232 := Tryz.underlying225
  a232 := Tryz.isAgg225
  z232 := Tryz.sizeOf225
  v232 := Tryz.zeroValue225
  t233 := Tryz.underlying226
  a233 := Tryz.isAgg226
  z233 := Tryz.sizeOf226
  v233 := Tryz.zeroValue226
  g17 := by kernel_rfl
  g18 := by kernel_rfl
  g19 := by kernel_rfl
  i0 := by kernel_rfl
  i2 := by kernel_rfl
  i3 := by kernel_rfl
  i4 := by kernel_rfl
  i5 := by kernel_rfl
  i9 := by kernel_rfl
  i20 := by kernel_rfl
  i37 := by kernel_rfl
  i46 := by kernel_rfl
  i51 := by kernel_rfl
  i53 := by kernel_rfl
  i171 := by kernel_rfl
  i173 := by kernel_rfl
  i212 := by kernel_rfl
  i232 := by kernel_rfl
  i233 := by kernel_rfl
  m17 := by kernel_rfl
  m18 := by kernel_rfl
  m19 := by kernel_rfl
def ren_num_172 : Go.Shelf.Ren := ⟨fun | 172 => 230 | 244 => 244 | 245 => 245 | 247 => 249 | 279 => 250 | 280 => 251 | 281 => 252 | 282 => 253 | 287 => 258 | 316 => 259 | 171 => 235 | 205 => 260 | 321 => 268 | 322 => 269 | 243 => 246 | 246 => 254 | 283 => 261 | 284 => 262 | 285 => 263 | 286 => 264 | 129 => 271 | 317 => 270 | 318 => 272 | 319 => 273 | 320 => 274 | 337 => 275 | 338 => 276 | n => n,
  fun | 9 => 9 | 3 => 3 | 75 => 151 | 76 => 152 | 4 => 4 | 5 => 5 | 167 => 191 | 37 => 22 | 0 => 0 | 85 => 192 | 2 => 2 | 168 => 194 | 53 => 201 | 175 => 202 | 46 => 164 | 210 => 205 | 127 => 174 | 145 => 215 | 143 => 213 | 21 => 21 | 171 => 207 | 173 => 210 | 212 => 217 | 51 => 186 | 20 => 20 | 213 => 218 | 232 => 225 | 233 => 226 | 80 => 154 | n => n,
  fun | 15 => 1 | 16 => 2 | 17 => 3 | 18 => 6 | 19 => 7 | n => n⟩
open Go.Shelf in
theorem lay_num_172 : LaysC.n172 Tryz.prog ren_num_172 where
  mixed := by kernel_rfl
  f129 := Tryz.func271.trans (congrArg some (by kernel_rfl))
  f171 := Tryz.func235.trans (congrArg some (by kernel_rfl))
  f172 := Tryz.func230.trans (congrArg some (by kernel_rfl))
  f205 := Tryz.func260.trans (congrArg some (by kernel_rfl))
  f243 := Tryz.func246.trans (congrArg some (by kernel_rfl))
  f244 := Tryz.func244.trans (congrArg some (by kernel_rfl))
  f245 := Tryz.func245.trans (congrArg some (by kernel_rfl))
  f246 := Tryz.func254.trans (congrArg some (by kernel_rfl))
  f247 := Tryz.func249.trans (congrArg some (by kernel_rfl))
  f279 := Tryz.func250.trans (congrArg some (by kernel_rfl))
  f280 := Tryz.func251.trans (congrArg some (by kernel_rfl))
  f281 := Tryz.func252.trans (congrArg some (by kernel_rfl))
  f282 := Tryz.func253.trans (congrArg some (by kernel_rfl))
  f283 := Tryz.func261.trans (congrArg some (by kernel_rfl))
  f284 := Tryz.func262.trans (congrArg some (by kernel_rfl))
  f285 := Tryz.func263.trans (congrArg some (by kernel_rfl))
  f286 := Tryz.func264.trans (congrArg some (by kernel_rfl))
  f287 := Tryz.func258.trans (congrArg some (by kernel_rfl))
  f316 := Tryz.func259.trans (congrArg some (by kernel_rfl))
  f317 := Tryz.func270.trans (congrArg some (by kernel_rfl))
  f318 := Tryz.func272.trans (congrArg some (by kernel_rfl))
  f319 := Tryz.func273.trans (congrArg some (by kernel_rfl))
  f320 := Tryz.func274.trans (congrArg some (by kernel_rfl))
  f321 := Tryz.func268.trans (congrArg some (by kernel_rfl))
  f322 := Tryz.func269.trans (congrArg some (by kernel_rfl))
  f337 := Tryz.func275.trans (congrArg some (by kernel_rfl))
  f338 := Tryz.func276.trans (congrArg some (by kernel_rfl))
  t0 := Tryz.underlying0
  a0 := Tryz.isAgg0
  z0 := Tryz.sizeOf0
  v0 := Tryz.zeroValue0
  t2 := Tryz.underlying2
  a2 := Tryz.isAgg2
  z2 := Tryz.sizeOf2
  v2 := Tryz.zeroValue2
  t3 := Tryz.underlying3
  a3 := Tryz.isAgg3
  z3 := Tryz.sizeOf3
  v3 := Tryz.zeroValue3
  t4 := Tryz.underlying4
  a4 := Tryz.isAgg4
  z4 := Tryz.sizeOf4
  v4 := Tryz.zeroValue4
  t5 := Tryz.underlying5
  a5 := Tryz.isAgg5
  z5 := Tryz.sizeOf5
  v5 := Tryz.zeroValue5
  t9 := Tryz.underlying9
  a9 := Tryz.isAgg9
  z9 := Tryz.sizeOf9
  v9 := Tryz.zeroValue9
  t20 := Tryz.underlying20
  a20 := Tryz.isAgg20
  z20 := Tryz.sizeOf20
  v20 := Tryz.zeroValue20
  t21 := Tryz.underlying21
  a21 := Tryz.isAgg21
  z21 := Tryz.sizeOf21
  v21 := Tryz.zeroValue21
  t37 := Tryz.underlying22
  a37 := Tryz.isAgg22
  z37 := Tryz.sizeOf22
  v37 := Tryz.zeroValue22
  t46 := Tryz.underlying164
  a46 := Tryz.isAgg164
  z46 := Tryz.sizeOf164
  v46 := Tryz.zeroValue164
  t51 := Tryz.underlying186
  a51 := Tryz.isAgg186
  z51 := Tryz.sizeOf186
  v51 := Tryz.zeroValue186
  t53 := Tryz.underlying201
  a53 := Tryz.isAgg201
  z53 := Tryz.sizeOf201
  v53 := Tryz.zeroValue201
  t75 := Tryz.underlying151
  a75 := Tryz.isAgg151
  z75 := Tryz.sizeOf151
  v75 := Tryz.zeroValue151
  t76 := Tryz.underlying152
  a76 := Tryz.isAgg152
  z76 := Tryz.sizeOf152
  v76 := Tryz.zeroValue152
  t85 := Tryz.underlying192
  a85 := Tryz.isAgg192
  z85 := Tryz.sizeOf192
  v85 := Tryz.zeroValue192
  t127 := Tryz.underlying174
  a127 := Tryz.isAgg174
  z127 := Tryz.sizeOf174
  v127 := Tryz.zeroValue174
  t143 := Tryz.underlying213
  a143 := Tryz.isAgg213
  z143 := Tryz.sizeOf213
  v143 := Tryz.zeroValue213
  t145 := Tryz.underlying215
  a145 := Tryz.isAgg215
  z145 := Tryz.sizeOf215
  v145 := Tryz.zeroValue215
  t167 := Tryz.underlying191
  a167 := Tryz.isAgg191
  z167 := Tryz.sizeOf191
  v167 := Tryz.zeroValue191
  t168 := Tryz.underlying194
  a168 := Tryz.isAgg194
  z168 := Tryz.sizeOf194
  v168 := Tryz.zeroValue194
  t171 := Tryz.underlying207
  a171 := Tryz.isAgg207
  z171 := Tryz.sizeOf207
  v171 := Tryz.zeroValue207
  t173 := Tryz.underlying210
  a173 := Tryz.isAgg210
  z173 := Tryz.sizeOf210
  v173 := Tryz.zeroValue210
  t175 := Tryz.underlying202
  a175 := Tryz.isAgg202
  z175 := Tryz.sizeOf202
  v175 := Tryz.zeroValue202
  t210 := Tryz.underlying205
  a210 := Tryz.isAgg205
  z210 := Tryz.sizeOf205
  v210 := Tryz.zeroValue205
  t212 := Tryz.underlying217
  a212 := Tryz.isAgg217
  z212 := Tryz.sizeOf217
  v212 := Tryz.zeroValue217
  t213 := Tryz.underlying218
  a213 := Tryz.isAgg218
  z213 := Tryz.sizeOf218
  t232 := Tryz.underlying225
  a232 := Tryz.isAgg225
  z232 := Tryz.sizeOf225
  v232 := Tryz.zeroValue225
  t233 := Tryz.underlying226
  a233 := Tryz.isAgg226
  z233 := Tryz.sizeOf226
  v233 := Tryz.zeroValue226
  g15 := by kernel_rfl
  g16 := by kernel_rfl
  g17 := by kernel_rfl
  g18 := by kernel_rfl
  g19 := by kernel_rfl
  t80 := Tryz.underlying154
  a80 := Tryz.isAgg154
  z80 := Tryz.sizeOf154
  v80 := Tryz.zeroValue154
  i0 := by kernel_rfl
  i2 := by kernel_rfl
  i3 := by kernel_rfl
  i4 := by kernel_rfl
  i5 := by kernel_rfl
  i9 := by kernel_rfl
  i20 := by kernel_rfl
  i21 := by kernel_rfl
  i37 := by kernel_rfl
  i46 := by kernel_rfl
  i51 := by kernel_rfl
  i53 := by kernel_rfl
  i75 := by kernel_rfl
  i76 := by kernel_rfl
  i80 := by kernel_rfl
  i85 := by kernel_rfl
  i127 := by kernel_rfl
  i143 := by kernel_rfl
  i145 := by kernel_rfl
  i167 := by kernel_rfl
  i168 := by kernel_rfl
  i171 := by kernel_rfl
  i173 := by kernel_rfl
  i175 := by kernel_rfl
  i210 := by kernel_rfl
  i212 := by kernel_rfl
  i232 := by kernel_rfl
  i233 := by kernel_rfl
  m15 := by kernel_rfl
  m16 := by kernel_rfl
  m17 := by kernel_rfl
  m18 := by kernel_rfl
  m19 := by kernel_rfl
  c0 := by kernel_rfl
  c2 := by kernel_rfl
  c3 := by kernel_rfl
  c4 := by kernel_rfl
  c5 := by kernel_rfl
  c9 := by kernel_rfl
  c20 := by kernel_rfl
  c21 := by kernel_rfl
  c37 := by kernel_rfl
  c46 := by kernel_rfl
  c51 := by kernel_rfl
  c53 := by kernel_rfl
  c75 := by kernel_rfl
  c76 := by kernel_rfl
  c80 := by kernel_rfl
  c85 := by kernel_rfl
  c127 := by kernel_rfl
  c143 := by kernel_rfl
  c145 := by kernel_rfl
  c167 := by kernel_rfl
  c168 := by kernel_rfl
  c171 := by kernel_rfl
  c173 := by kernel_rfl
  c175 := by kernel_rfl
  c210 := by kernel_rfl
  c212 := by kernel_rfl
  c213 := by kernel_rfl
  c232 := by kernel_rfl
  c233 := by kernel_rfl
theorem b_strings_Index (s t : ByteArray) (h : s.size < 4294967281) : BCalls Tryz.prog 121 [.c (.str s), .c (.str t)] (.c (.int .i64 (Lib.index s.data.toList t.data.toList))) [] := by
  intro X W vs hX hgl hr
  obtain ⟨v, r, rfl, ⟨rfl, hw⟩, u, r2, rfl, ⟨rfl, hu⟩, hn⟩ := hr
  obtain rfl : r2 = [] := hn
  obtain ⟨m, hm⟩ := hgl.int (g := 0) (by simp [globs])
  refine (Any.strings_Index lay_num_143 s t m W h hm).mono fun e W' he => ?_
  obtain ⟨rfl, rfl⟩ := he
  have h1 := Lib.index_ge s.data.toList t.data.toList
  have h2 : Lib.index s.data.toList t.data.toList ≤ s.size := by
    rcases Lib.index_spec s.data.toList t.data.toList with ⟨q, _⟩ | ⟨i, q, q2, _⟩
    · omega
    · have := toList_size s
      omega
  exact ⟨_, [], rfl, Grow.refl W' [], nilM hX, rfl, wf64 (by omega) (by omega)⟩
def e_strings_Index : Entry Tryz.prog := ⟨121, [.v tyStr, .v tyStr], fun x => ByteArray.size x.1 < 4294967281, fun x => .c (.int .i64 (Lib.index x.1.data.toList x.2.1.data.toList)), fun _ => [], fun x hx => b_strings_Index x.1 x.2.1 hx, Tryz.call121⟩
theorem b_strings_HasSuffix (s t : ByteArray) : BCalls Tryz.prog 120 [.c (.str s), .c (.str t)] (.c (.bool (Lib.hasSuffix s.data.toList t.data.toList))) [] := by
  intro X W vs hX hgl hr
  obtain ⟨v, r, rfl, ⟨rfl, hw⟩, u, r2, rfl, ⟨rfl, hu⟩, hn⟩ := hr
  obtain rfl : r2 = [] := hn
  have hs : s.size ≤ maxLen := hw
  unfold maxLen at hs
  refine (Any.strings_HasSuffix lay_num_100 s t W (by omega)).mono fun e W' he => ?_
  obtain ⟨rfl, rfl⟩ := he
  exact ⟨_, [], rfl, Grow.refl W' [], nilM hX, rfl⟩
def e_strings_HasSuffix : Entry Tryz.prog := ⟨120, [.v tyStr, .v tyStr], fun x => True, fun x => .c (.bool (Lib.hasSuffix x.1.data.toList x.2.1.data.toList)), fun _ => [], fun x hx => b_strings_HasSuffix x.1 x.2.1, Tryz.call120⟩
theorem b_strings_LastIndexByte (s : ByteArray) (c : Int) (hpre : s.size ≤ 1048576) : BCalls Tryz.prog 185 [.c (.str s), .c (.int .u8 c)] (.c (.int .i64 (Lib.lastIndexByte s c))) [] := by
  intro X W vs hX hgl hr
  obtain ⟨v, r, rfl, ⟨rfl, hw⟩, u, r2, rfl, ⟨rfl, hu⟩, hn⟩ := hr
  obtain rfl : r2 = [] := hn
  refine (Any.strings_LastIndexByte lay_num_149 s c (by omega) W).mono fun e W' he => ?_
  obtain ⟨rfl, rfl⟩ := he
  have h1 : -1 ≤ Lib.lastIndexByte s c ∧ Lib.lastIndexByte s c ≤ s.size := by
    rcases Lib.lastIdx_spec s c s.size with ⟨q, _⟩ | ⟨i, q, q2, _⟩
    · have : Lib.lastIndexByte s c = -1 := q
      omega
    · have : Lib.lastIndexByte s c = i := q2
      omega
  exact ⟨_, [], rfl, Grow.refl W' [], nilM hX, rfl, wf64 (by omega) (by omega)⟩
def e_strings_LastIndexByte : Entry Tryz.prog := ⟨185, [.v tyStr, .v (.int .u8)], fun x => ByteArray.size x.1 ≤ 1048576, fun x => .c (.int .i64 (Lib.lastIndexByte x.1 x.2.1)), fun _ => [], fun x hx => b_strings_LastIndexByte x.1 x.2.1 hx, Tryz.call185⟩
theorem pow_of {W : World} (hgl : Glob W []) : Lib.TabIs Tryz.prog W "internal/strconv.uint64pow10" .u64 Lib.pow10Tab := by
  have h : blkCells W.heap[3]? = _ := (hgl (3, gTab .u64 Lib.pow10Tab) (by simp [globs])).1
  show (Program.globalNamed Tryz.prog "internal/strconv.uint64pow10").bind _ = _
  rw [show Program.globalNamed Tryz.prog "internal/strconv.uint64pow10" = some 3 by kernel_rfl]
  exact h
theorem b_strconv_Itoa (n : Int) : BCalls Tryz.prog 235 [.c (.int .i64 n)] (.c (.str ⟨(Lib.itoa n).toArray⟩)) [] := by
  intro X W vs hX hgl hr
  obtain ⟨v, r, rfl, ⟨rfl, hw⟩, hn⟩ := hr
  obtain rfl : r = [] := hn
  have hb := i64_b hw
  refine (Any.strconv_Itoa lay_num_171 n (by omega) (by omega) W (pow_of hgl)).mono fun e W' he => ?_
  obtain ⟨rfl, k, os, rfl⟩ := he
  exact ⟨_, [], rfl, Grow.of_below (Lib.below_grow _ W (Nat.le_refl _) k os), nilM (fun b hb => Nat.lt_of_lt_of_le (hX b hb) (Lib.below_grow _ W (Nat.le_refl _) k os).size), rfl, itoa_size n hb⟩
def e_strconv_Itoa : Entry Tryz.prog := ⟨235, [.v tyInt], fun x => True, fun x => .c (.str ⟨(Lib.itoa x.1).toArray⟩), fun _ => [], fun x hx => b_strconv_Itoa x.1, Tryz.call235⟩
def cutB (s t : ByteArray) : ByteArray × ByteArray × Bool := (⟨(Lib.cut s.data.toList t.data.toList).1.toArray⟩, ⟨(Lib.cut s.data.toList t.data.toList).2.1.toArray⟩, (Lib.cut s.data.toList t.data.toList).2.2)
theorem cut_sizes (s t : ByteArray) : (cutB s t).1.size ≤ s.size ∧ (cutB s t).2.1.size ≤ s.size := by
  have h1 : (cutB s t).1.size = (Lib.cut s.data.toList t.data.toList).1.length := by show (List.toArray _).size = _; rw [List.size_toArray]
  have h2 : (cutB s t).2.1.size = (Lib.cut s.data.toList t.data.toList).2.1.length := by show (List.toArray _).size = _; rw [List.size_toArray]
  have h3 := toList_size s
  rw [h1, h2]
  unfold Lib.cut
  split
  · simp only [List.length_take, List.length_drop]
    omega
  · simp only [List.length_nil]
    omega
theorem b_strings_Cut (s t : ByteArray) (h : s.size < 4294967281) : BCalls Tryz.prog 113 [.c (.str s), .c (.str t)] (.tp [.c (.str (cutB s t).1), .c (.str (cutB s t).2.1), .c (.bool (cutB s t).2.2)]) [] := by
  intro X W vs hX hgl hr
  obtain ⟨v, r, rfl, ⟨rfl, hw⟩, u, r2, rfl, ⟨rfl, hu⟩, hn⟩ := hr
  obtain rfl : r2 = [] := hn
  have hs : s.size ≤ maxLen := hw
  obtain ⟨m, hm⟩ := hgl.int (g := 0) (by simp [globs])
  refine (Any.strings_Cut lay_num_145 s t m W h hm).mono fun e W' he => ?_
  obtain ⟨rfl, n, rfl⟩ := he
  have hc := cut_sizes s t
  exact ⟨_, [], rfl, Grow.of_below ⟨rfl, rfl, rfl, Nat.le_refl _, fun _ _ => rfl⟩, nilM hX, _, rfl, _, _, rfl, ⟨rfl, Nat.le_trans hc.1 hs⟩, _, _, rfl, ⟨rfl, Nat.le_trans hc.2 hs⟩, _, _, rfl, rfl, rfl⟩
def e_strings_Cut : Entry Tryz.prog := ⟨113, [.v tyStr, .v tyStr], fun x => ByteArray.size x.1 < 4294967281, fun x => .tp [.c (.str (cutB x.1 x.2.1).1), .c (.str (cutB x.1 x.2.1).2.1), .c (.bool (cutB x.1 x.2.1).2.2)], fun _ => [], fun x hx => b_strings_Cut x.1 x.2.1 hx, Tryz.call113⟩
/-- a line's last byte 13 stays -/
def crF (s : ByteArray) : ByteArray := if endsB s 13 = true then ⟨#[13]⟩ else ⟨#[]⟩
def restF (s : ByteArray) : ByteArray := if twoI s 0 < 0 then crF s else ByteArray.extract s (Int.toNat (twoI s 0 + 2)) s.size
theorem list0 (s : ByteArray) : (ByteArray.extract s 0 s.size).data.toList = s.data.toList := by
  rw [ext_list, List.drop_zero, Nat.sub_zero, List.take_of_length_le (by rw [toList_size]; exact Nat.le_refl _)]
theorem cut_none {s : ByteArray} (h : twoI s 0 < 0) : (cutB s ⟨#[13, 10]⟩).2.2 = false := by
  have h1 := index_twoI s 0
  rw [if_pos h, list0] at h1
  show (Lib.cut s.data.toList [13, 10]).2.2 = false
  unfold Lib.cut
  rw [h1]
  rfl
theorem cut_some {s : ByteArray} (h : ¬ twoI s 0 < 0) : (cutB s ⟨#[13, 10]⟩).2.2 = true ∧ (cutB s ⟨#[13, 10]⟩).2.1 = ByteArray.extract s (Int.toNat (twoI s 0 + 2)) s.size := by
  have h1 := index_twoI s 0
  rw [if_neg h, list0] at h1
  have e : Lib.cut s.data.toList [13, 10] = (s.data.toList.take (twoI s 0 - (0 : Nat)).toNat, s.data.toList.drop ((twoI s 0 - (0 : Nat)).toNat + 2), true) := by
    have h2 : 0 ≤ Lib.index s.data.toList [13, 10] := by rw [h1]; omega
    unfold Lib.cut
    rw [if_pos h2, h1]
    rfl
  constructor
  · show (Lib.cut s.data.toList [13, 10]).2.2 = true
    rw [e]
  · apply ByteArray.ext
    show (Lib.cut s.data.toList [13, 10]).2.1.toArray = _
    rw [e]
    show (List.drop ((twoI s 0 - ((0 : Nat) : Int)).toNat + 2) s.data.toList).toArray = _
    have h3 : (twoI s 0 - ((0 : Nat) : Int)).toNat + 2 = Int.toNat (twoI s 0 + 2) := by omega
    apply Array.toList_inj.1
    rw [ext_list, List.toList_toArray, h3, List.take_of_length_le (by rw [List.length_drop, toList_size]; exact Nat.le_refl _)]
/-- Atoi: a number, or an error -/
theorem atoi_calls (s : ByteArray) (hs : s.size ≤ 1048576) (W : World) (hgl : Glob W []) : Calls Tryz.prog 230 #[.string s] W fun e W' => Grow W [] W' [] ∧
    ((∃ n, Lib.atoiAll s.data.toList = .ok n ∧ e = .returned (.tuple #[.int .i64 n, .nilIface])) ∨ ((∀ n, Lib.atoiAll s.data.toList ≠ .ok n) ∧ ∃ n t u, e = .returned (.tuple #[.int .i64 n, .iface t u]))) := by
  have ev : ∀ g, (g, gErr) ∈ globs → ∃ tp p, W.cell? ⟨g, 0, none⟩ = some (.iface tp p) := fun g hg => by
    obtain ⟨⟨tp, p, h⟩, _⟩ := hgl _ hg
    exact ⟨tp, p, (cell_blk h).trans rfl⟩
  cases h : Lib.atoiAll s.data.toList with
  | ok n =>
    refine (Any.strconv_Atoi_ok lay_num_172 s (by omega) n h W).mono fun e W' he => ?_
    obtain ⟨rfl, hw⟩ := he
    refine ⟨Grow.of_below ?_, .inl ⟨n, rfl, rfl⟩⟩
    rcases hw with rfl | ⟨t, rfl⟩
    · exact Below.refl _ _
    · exact Lib.bytesWorld_below _ _ _
  | «syntax» =>
    obtain ⟨tp, p, hv⟩ := ev 1 (by simp [globs])
    refine (Any.strconv_Atoi_syntax lay_num_172 s (by omega) h (.iface tp p) W hv (.inr ⟨tp, p, rfl⟩)).mono fun e W' he => ?_
    obtain ⟨N, rfl, _, _, hb⟩ := he
    exact ⟨Grow.of_below hb, .inr ⟨fun n h => by (simp at h), _, _, _, rfl⟩⟩
  | range =>
    obtain ⟨tp, p, hv⟩ := ev 2 (by simp [globs])
    refine (Any.strconv_Atoi_range lay_num_172 s (by omega) h (.iface tp p) W hv (.inr ⟨tp, p, rfl⟩)).mono fun e W' he => ?_
    obtain ⟨N, rfl, _, _, hb⟩ := he
    exact ⟨Grow.of_below hb, .inr ⟨fun n h => by (simp at h), _, _, _, rfl⟩⟩
end Go.Proofs.YtbpapaponnfagaaGreatDoor
