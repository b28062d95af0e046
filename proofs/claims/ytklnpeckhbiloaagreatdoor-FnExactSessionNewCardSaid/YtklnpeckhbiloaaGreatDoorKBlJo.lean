/-
  strings.Join, and what the builder of strings asks.
  No condition but the sizes.
-/
import Derived.Test.YtklnpeckhbiloaaGreatDoorKBlRk
import Derived.Shelf.Strings.OnBuilder
import Derived.Shelf.Strings.BuilderK
set_option linter.unusedSimpArgs false
set_option linter.unusedVariables false
set_option maxRecDepth 100000
namespace Go.Proofs.YtklnpeckhbiloaaGreatDoor
open Go.Deep
open GoRep (rep)
def ren_join_156 : Go.Shelf.Ren := ⟨fun | 156 => 112 | 165 => 123 | 166 => 37 | 169 => 39 | 240 => 68 | 241 => 145 | 276 => 100 | 277 => 156 | n => n,
  fun | 31 => 99 | 9 => 9 | 3 => 3 | 4 => 4 | 0 => 0 | 20 => 20 | 72 => 69 | 76 => 72 | 70 => 67 | 37 => 41 | 75 => 71 | 127 => 94 | 164 => 118 | 5 => 5 | 80 => 74 | n => n,
  fun  | n => n⟩
open Go.Shelf in
theorem lay_join_156 : Lays.n156 Tryz.prog ren_join_156 where
  mixed := by kernel_rfl
  f156 := Tryz.func112.trans (congrArg some (by kernel_rfl))
  f165 := Tryz.func123.trans (congrArg some (by kernel_rfl))
  f166 := Tryz.func37.trans (congrArg some (by kernel_rfl))
  f169 := Tryz.func39.trans (congrArg some (by kernel_rfl))
  f240 := Tryz.func68.trans (congrArg some (by kernel_rfl))
  f241 := Tryz.func145.trans (congrArg some (by kernel_rfl))
  f276 := Tryz.func100.trans (congrArg some (by kernel_rfl))
  f277 := Tryz.func156.trans (congrArg some (by kernel_rfl))
  t0 := Tryz.underlying0
  a0 := Tryz.isAgg0
  z0 := Tryz.sizeOf0
  v0 := Tryz.zeroValue0
  t3 := Tryz.underlying3
  a3 := Tryz.isAgg3
  z3 := Tryz.sizeOf3
  v3 := Tryz.zeroValue3
  t4 := Tryz.underlying4
  a4 := Tryz.isAgg4
  z4 := Tryz.sizeOf4
  v4 := Tryz.zeroValue4
  t9 := Tryz.underlying9
  a9 := Tryz.isAgg9
  z9 := Tryz.sizeOf9
  v9 := Tryz.zeroValue9
  t20 := Tryz.underlying20
  a20 := Tryz.isAgg20
  z20 := Tryz.sizeOf20
  v20 := Tryz.zeroValue20
  t31 := Tryz.underlying99
  a31 := Tryz.isAgg99
  z31 := Tryz.sizeOf99
  v31 := Tryz.zeroValue99
  t37 := Tryz.underlying41
  a37 := Tryz.isAgg41
  z37 := Tryz.sizeOf41
  v37 := Tryz.zeroValue41
  t70 := Tryz.underlying67
  a70 := Tryz.isAgg67
  z70 := Tryz.sizeOf67
  v70 := Tryz.zeroValue67
  t72 := Tryz.underlying69
  a72 := Tryz.isAgg69
  z72 := Tryz.sizeOf69
  v72 := Tryz.zeroValue69
  t75 := Tryz.underlying71
  a75 := Tryz.isAgg71
  z75 := Tryz.sizeOf71
  v75 := Tryz.zeroValue71
  t76 := Tryz.underlying72
  a76 := Tryz.isAgg72
  z76 := Tryz.sizeOf72
  v76 := Tryz.zeroValue72
  t127 := Tryz.underlying94
  a127 := Tryz.isAgg94
  z127 := Tryz.sizeOf94
  v127 := Tryz.zeroValue94
  t164 := Tryz.underlying118
  a164 := Tryz.isAgg118
  z164 := Tryz.sizeOf118
  v164 := Tryz.zeroValue118
theorem joinExtra : Builder.Extra Tryz.prog ren_join_156 where
  sizeBuilder := by kernel_rfl
  liesBuilder := by kernel_rfl
  t5 := Tryz.underlying5
  a5 := Tryz.isAgg5
  z5 := Tryz.sizeOf5
  v5 := Tryz.zeroValue5
  infoByte := by kernel_rfl
  cellsByte := by kernel_rfl
  sizeByte := by kernel_rfl
  neB5 := by decide
open Go.Shelf in
theorem lay_join_166 : Lays.n166 Tryz.prog ren_join_156 where
  mixed := by kernel_rfl
  f166 := Tryz.func37.trans (congrArg some (by kernel_rfl))
  f240 := Tryz.func68.trans (congrArg some (by kernel_rfl))
  f276 := Tryz.func100.trans (congrArg some (by kernel_rfl))
  t0 := Tryz.underlying0
  a0 := Tryz.isAgg0
  z0 := Tryz.sizeOf0
  v0 := Tryz.zeroValue0
  t3 := Tryz.underlying3
  a3 := Tryz.isAgg3
  z3 := Tryz.sizeOf3
  v3 := Tryz.zeroValue3
  t4 := Tryz.underlying4
  a4 := Tryz.isAgg4
  z4 := Tryz.sizeOf4
  v4 := Tryz.zeroValue4
  t9 := Tryz.underlying9
  a9 := Tryz.isAgg9
  z9 := Tryz.sizeOf9
  v9 := Tryz.zeroValue9
  t20 := Tryz.underlying20
  a20 := Tryz.isAgg20
  z20 := Tryz.sizeOf20
  v20 := Tryz.zeroValue20
  t37 := Tryz.underlying41
  a37 := Tryz.isAgg41
  z37 := Tryz.sizeOf41
  v37 := Tryz.zeroValue41
  t70 := Tryz.underlying67
  a70 := Tryz.isAgg67
  z70 := Tryz.sizeOf67
  v70 := Tryz.zeroValue67
  t72 := Tryz.underlying69
  a72 := Tryz.isAgg69
  z72 := Tryz.sizeOf69
  v72 := Tryz.zeroValue69
  t75 := Tryz.underlying71
  a75 := Tryz.isAgg71
  z75 := Tryz.sizeOf71
  v75 := Tryz.zeroValue71
  t164 := Tryz.underlying118
  a164 := Tryz.isAgg118
  z164 := Tryz.sizeOf118
  v164 := Tryz.zeroValue118
open Go.Shelf in
theorem lay_join_169 : Lays.n169 Tryz.prog ren_join_156 where
  mixed := by kernel_rfl
  f169 := Tryz.func39.trans (congrArg some (by kernel_rfl))
  t0 := Tryz.underlying0
  a0 := Tryz.isAgg0
  z0 := Tryz.sizeOf0
  v0 := Tryz.zeroValue0
  t3 := Tryz.underlying3
  a3 := Tryz.isAgg3
  z3 := Tryz.sizeOf3
  v3 := Tryz.zeroValue3
  t9 := Tryz.underlying9
  a9 := Tryz.isAgg9
  z9 := Tryz.sizeOf9
  v9 := Tryz.zeroValue9
  t37 := Tryz.underlying41
  a37 := Tryz.isAgg41
  z37 := Tryz.sizeOf41
  v37 := Tryz.zeroValue41
  t70 := Tryz.underlying67
  a70 := Tryz.isAgg67
  z70 := Tryz.sizeOf67
  v70 := Tryz.zeroValue67
  t72 := Tryz.underlying69
  a72 := Tryz.isAgg69
  z72 := Tryz.sizeOf69
  v72 := Tryz.zeroValue69
  t127 := Tryz.underlying94
  a127 := Tryz.isAgg94
  z127 := Tryz.sizeOf94
  v127 := Tryz.zeroValue94
theorem unbyte (s : ByteArray) : (byteL s).map (fun n => UInt8.ofNat n.toNat) = s.data.toList := by
  unfold byteL
  rw [List.map_map]
  conv => rhs; rw [← List.map_id s.data.toList]
  apply List.map_congr_left
  intro x _
  simp
theorem join_snoc (ys : List (List UInt8)) (y sep : List UInt8) : Lib.join (ys ++ [y]) sep = (if 0 < ys.length then Lib.join ys sep ++ sep else []) ++ y := by
  cases ys with
  | nil => exact Lib.join_one y sep
  | cons x r =>
    have hl : 0 < (x :: r).length := Nat.succ_pos _
    rw [List.cons_append, Lib.join_cons, Lib.join_cons, if_pos hl]
    simp [Lib.joinTail]
theorem joN_join (l : List ByteArray) (b : ByteArray) : ∀ k, k ≤ l.length → (joN l b k).map (fun n => UInt8.ofNat n.toNat) = Lib.join ((l.take k).map (·.data.toList)) b.data.toList
  | 0, _ => rfl
  | k + 1, h => by
    have ih := joN_join l b k (by omega)
    have e : l.take (k + 1) = l.take k ++ [nth_String l k] := by rw [List.take_add_one, nthS_get (by omega)]; rfl
    have hl : ((l.take k).map (·.data.toList)).length = k := by rw [List.length_map, List.length_take]; omega
    rw [e, List.map_append, List.map_cons, List.map_nil, join_snoc, hl]
    unfold joN
    rw [List.map_append, unbyte]
    by_cases hk : 0 < k
    · rw [if_pos hk, if_pos hk, List.map_append, unbyte, ih]
    · rw [if_neg hk, if_neg hk]
      obtain rfl : k = 0 := by omega
      rfl
theorem joS_join (l : List ByteArray) (b : ByteArray) : joS l b = ⟨(Lib.join (l.map (·.data.toList)) b.data.toList).toArray⟩ := by
  unfold joS bytesOf
  rw [joN_join l b _ (Nat.le_refl _), List.take_length]
theorem b_strings_Join (l : List ByteArray) (b : ByteArray) (hpre : joPre l b) : BCalls Tryz.prog 112 [.c (.hs .no tyStr l), .c (.str b)] (.c (.str (joS l b))) [] := by
  intro X W vs hX hgl hr
  obtain ⟨v, r, rfl, hv, u, r2, rfl, ⟨rfl, hu⟩, hn⟩ := hr
  obtain rfl : r2 = [] := hn
  obtain ⟨h1, F, ⟨A, c, e, hc, hm, hs⟩, hF⟩ := hv
  obtain rfl : v = _ := (List.cons.inj e).1
  have hz := joS_size hpre
  have hp := hpre.1
  have hj : (Lib.join (l.map (·.data.toList)) b.data.toList).length = (joS l b).size := by rw [joS_join]; rfl
  have hw : (joS l b).size ≤ maxLen := by unfold maxLen; omega
  rcases hs with ⟨rfl, rfl⟩ | ⟨hx, bk, off, G, rfl, rfl, hR⟩
  · refine (Any.strings_Join_none lay_join_156 joinExtra A c b W).mono fun e W' he => ?_
    obtain ⟨rfl, rfl⟩ := he
    exact ⟨_, [], rfl, Grow.refl W' [], nilM hX, rfl, hw⟩
  · refine (Any.strings_Join lay_join_156 joinExtra bk off c l b W (fun j x hj => ?_) (hF bk (by simp)).2 (by omega) hc (by rw [hj]; omega)).mono fun e W' he => ?_
    · obtain ⟨cs, Gk, r1, _, r3⟩ := hR.get j x hj
      obtain ⟨rfl, _, _⟩ := r1
      have q : W.cell? ⟨bk, off + j * 1 + 0, none⟩ = some (.string x) := (r3 0 _ rfl).1
      rwa [Nat.mul_one, Nat.add_zero] at q
    · obtain ⟨rfl, hb⟩ := he
      rw [← joS_join]
      exact ⟨_, [], rfl, Grow.of_below hb, nilM (fun b hb' => Nat.lt_of_lt_of_le (hX b hb') hb.size), rfl, hw⟩
def e_strings_Join : Entry Tryz.prog := ⟨112, [.v (.list tyStr), .v tyStr], fun x => joPre x.1 x.2.1, fun x => .c (.str (joS x.1 x.2.1)), fun _ => [], fun x hx => b_strings_Join x.1 x.2.1 hx, Tryz.call112⟩
end Go.Proofs.YtklnpeckhbiloaaGreatDoor
