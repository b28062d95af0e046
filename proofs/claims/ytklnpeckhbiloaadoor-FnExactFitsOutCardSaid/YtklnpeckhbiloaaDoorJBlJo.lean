/-
  strings.Join, and what the builder of strings asks.
  No condition but the sizes.
-/
import Derived.Test.YtklnpeckhbiloaaDoorJBlRk
import Derived.Shelf.Strings.OnBuilder
import Derived.Shelf.Strings.BuilderK
set_option linter.unusedSimpArgs false
set_option linter.unusedVariables false
set_option maxRecDepth 100000
namespace Go.Proofs.YtklnpeckhbiloaaDoor
open Go.Deep
open GoRep (rep)
def ren_join_156 : Go.Shelf.Ren := ⟨fun | 156 => 66 | 165 => 73 | 166 => 34 | 169 => 36 | 240 => 50 | 241 => 82 | 276 => 58 | 277 => 88 | n => n,
  fun | 31 => 66 | 9 => 9 | 3 => 3 | 4 => 4 | 0 => 0 | 20 => 20 | 72 => 56 | 76 => 59 | 70 => 54 | 37 => 48 | 75 => 58 | 127 => 65 | 164 => 72 | 5 => 5 | 80 => 61 | n => n,
  fun  | n => n⟩
open Go.Shelf in
theorem lay_join_156 : Lays.n156 Tryd.prog ren_join_156 where
  mixed := by kernel_rfl
  f156 := Tryd.func66.trans (congrArg some (by kernel_rfl))
  f165 := Tryd.func73.trans (congrArg some (by kernel_rfl))
  f166 := Tryd.func34.trans (congrArg some (by kernel_rfl))
  f169 := Tryd.func36.trans (congrArg some (by kernel_rfl))
  f240 := Tryd.func50.trans (congrArg some (by kernel_rfl))
  f241 := Tryd.func82.trans (congrArg some (by kernel_rfl))
  f276 := Tryd.func58.trans (congrArg some (by kernel_rfl))
  f277 := Tryd.func88.trans (congrArg some (by kernel_rfl))
  t0 := Tryd.underlying0
  a0 := Tryd.isAgg0
  z0 := Tryd.sizeOf0
  v0 := Tryd.zeroValue0
  t3 := Tryd.underlying3
  a3 := Tryd.isAgg3
  z3 := Tryd.sizeOf3
  v3 := Tryd.zeroValue3
  t4 := Tryd.underlying4
  a4 := Tryd.isAgg4
  z4 := Tryd.sizeOf4
  v4 := Tryd.zeroValue4
  t9 := Tryd.underlying9
  a9 := Tryd.isAgg9
  z9 := Tryd.sizeOf9
  v9 := Tryd.zeroValue9
  t20 := Tryd.underlying20
  a20 := Tryd.isAgg20
  z20 := Tryd.sizeOf20
  v20 := Tryd.zeroValue20
  t31 := Tryd.underlying66
  a31 := Tryd.isAgg66
  z31 := Tryd.sizeOf66
  v31 := Tryd.zeroValue66
  t37 := Tryd.underlying48
  a37 := Tryd.isAgg48
  z37 := Tryd.sizeOf48
  v37 := Tryd.zeroValue48
  t70 := Tryd.underlying54
  a70 := Tryd.isAgg54
  z70 := Tryd.sizeOf54
  v70 := Tryd.zeroValue54
  t72 := Tryd.underlying56
  a72 := Tryd.isAgg56
  z72 := Tryd.sizeOf56
  v72 := Tryd.zeroValue56
  t75 := Tryd.underlying58
  a75 := Tryd.isAgg58
  z75 := Tryd.sizeOf58
  v75 := Tryd.zeroValue58
  t76 := Tryd.underlying59
  a76 := Tryd.isAgg59
  z76 := Tryd.sizeOf59
  v76 := Tryd.zeroValue59
  t127 := Tryd.underlying65
  a127 := Tryd.isAgg65
  z127 := Tryd.sizeOf65
  v127 := Tryd.zeroValue65
  t164 := Tryd.underlying72
  a164 := Tryd.isAgg72
  z164 := Tryd.sizeOf72
  v164 := Tryd.zeroValue72
theorem joinExtra : Builder.Extra Tryd.prog ren_join_156 where
  sizeBuilder := by kernel_rfl
  liesBuilder := by kernel_rfl
  t5 := Tryd.underlying5
  a5 := Tryd.isAgg5
  z5 := Tryd.sizeOf5
  v5 := Tryd.zeroValue5
  infoByte := by kernel_rfl
  cellsByte := by kernel_rfl
  sizeByte := by kernel_rfl
  neB5 := by decide
open Go.Shelf in
theorem lay_join_166 : Lays.n166 Tryd.prog ren_join_156 where
  mixed := by kernel_rfl
  f166 := Tryd.func34.trans (congrArg some (by kernel_rfl))
  f240 := Tryd.func50.trans (congrArg some (by kernel_rfl))
  f276 := Tryd.func58.trans (congrArg some (by kernel_rfl))
  t0 := Tryd.underlying0
  a0 := Tryd.isAgg0
  z0 := Tryd.sizeOf0
  v0 := Tryd.zeroValue0
  t3 := Tryd.underlying3
  a3 := Tryd.isAgg3
  z3 := Tryd.sizeOf3
  v3 := Tryd.zeroValue3
  t4 := Tryd.underlying4
  a4 := Tryd.isAgg4
  z4 := Tryd.sizeOf4
  v4 := Tryd.zeroValue4
  t9 := Tryd.underlying9
  a9 := Tryd.isAgg9
  z9 := Tryd.sizeOf9
  v9 := Tryd.zeroValue9
  t20 := Tryd.underlying20
  a20 := Tryd.isAgg20
  z20 := Tryd.sizeOf20
  v20 := Tryd.zeroValue20
  t37 := Tryd.underlying48
  a37 := Tryd.isAgg48
  z37 := Tryd.sizeOf48
  v37 := Tryd.zeroValue48
  t70 := Tryd.underlying54
  a70 := Tryd.isAgg54
  z70 := Tryd.sizeOf54
  v70 := Tryd.zeroValue54
  t72 := Tryd.underlying56
  a72 := Tryd.isAgg56
  z72 := Tryd.sizeOf56
  v72 := Tryd.zeroValue56
  t75 := Tryd.underlying58
  a75 := Tryd.isAgg58
  z75 := Tryd.sizeOf58
  v75 := Tryd.zeroValue58
  t164 := Tryd.underlying72
  a164 := Tryd.isAgg72
  z164 := Tryd.sizeOf72
  v164 := Tryd.zeroValue72
open Go.Shelf in
theorem lay_join_169 : Lays.n169 Tryd.prog ren_join_156 where
  mixed := by kernel_rfl
  f169 := Tryd.func36.trans (congrArg some (by kernel_rfl))
  t0 := Tryd.underlying0
  a0 := Tryd.isAgg0
  z0 := Tryd.sizeOf0
  v0 := Tryd.zeroValue0
  t3 := Tryd.underlying3
  a3 := Tryd.isAgg3
  z3 := Tryd.sizeOf3
  v3 := Tryd.zeroValue3
  t9 := Tryd.underlying9
  a9 := Tryd.isAgg9
  z9 := Tryd.sizeOf9
  v9 := Tryd.zeroValue9
  t37 := Tryd.underlying48
  a37 := Tryd.isAgg48
  z37 := Tryd.sizeOf48
  v37 := Tryd.zeroValue48
  t70 := Tryd.underlying54
  a70 := Tryd.isAgg54
  z70 := Tryd.sizeOf54
  v70 := Tryd.zeroValue54
  t72 := Tryd.underlying56
  a72 := Tryd.isAgg56
  z72 := Tryd.sizeOf56
  v72 := Tryd.zeroValue56
  t127 := Tryd.underlying65
  a127 := Tryd.isAgg65
  z127 := Tryd.sizeOf65
  v127 := Tryd.zeroValue65
theorem unbyte (s : ByteArray) : (byteL s).map (fun n => UInt8.ofNat n.toNat) = s.data.toList := by
  unfold byteL
  rw [List.map_map]
  conv => rhs; rw [← List.map_id s.data.toList]
  apply List.map_congr_left
  intro x _
  simp
theorem join_snoc (ys : List (List UInt8)) (y sep : List UInt8) : Lib.join (ys ++ [y]) sep = (if 0 < ys.length then Lib.join ys sep ++ sep else []) ++ y := by
  cases ys with
  | nil => exact Lib.join_one y sep
  | cons x r =>
    have hl : 0 < (x :: r).length := Nat.succ_pos _
    rw [List.cons_append, Lib.join_cons, Lib.join_cons, if_pos hl]
    simp [Lib.joinTail]
theorem joN_join (l : List ByteArray) (b : ByteArray) : ∀ k, k ≤ l.length → (joN l b k).map (fun n => UInt8.ofNat n.toNat) = Lib.join ((l.take k).map (·.data.toList)) b.data.toList
  | 0, _ => rfl
  | k + 1, h => by
    have ih := joN_join l b k (by omega)
    have e : l.take (k + 1) = l.take k ++ [nth_String l k] := by rw [List.take_add_one, nthS_get (by omega)]; rfl
    have hl : ((l.take k).map (·.data.toList)).length = k := by rw [List.length_map, List.length_take]; omega
    rw [e, List.map_append, List.map_cons, List.map_nil, join_snoc, hl]
    unfold joN
    rw [List.map_append, unbyte]
    by_cases hk : 0 < k
    · rw [if_pos hk, if_pos hk, List.map_append, unbyte, ih]
    · rw [if_neg hk, if_neg hk]
      obtain rfl : k = 0 := by omega
      rfl
theorem joS_join (l : List ByteArray) (b : ByteArray) : joS l b = ⟨(Lib.join (l.map (·.data.toList)) b.data.toList).toArray⟩ := by
  unfold joS bytesOf
  rw [joN_join l b _ (Nat.le_refl _), List.take_length]
theorem b_strings_Join (l : List ByteArray) (b : ByteArray) (hpre : joPre l b) : BCalls Tryd.prog 66 [.c (.hs .no tyStr l), .c (.str b)] (.c (.str (joS l b))) [] := by
  intro X W vs hX hgl hr
  obtain ⟨v, r, rfl, hv, u, r2, rfl, ⟨rfl, hu⟩, hn⟩ := hr
  obtain rfl : r2 = [] := hn
  obtain ⟨h1, F, ⟨A, c, e, hc, hm, hs⟩, hF⟩ := hv
  obtain rfl : v = _ := (List.cons.inj e).1
  have hz := joS_size hpre
  have hp := hpre.1
  have hj : (Lib.join (l.map (·.data.toList)) b.data.toList).length = (joS l b).size := by rw [joS_join]; rfl
  have hw : (joS l b).size ≤ maxLen := by unfold maxLen; omega
  rcases hs with ⟨rfl, rfl⟩ | ⟨hx, bk, off, G, rfl, rfl, hR⟩
  · refine (Any.strings_Join_none lay_join_156 joinExtra A c b W).mono fun e W' he => ?_
    obtain ⟨rfl, rfl⟩ := he
    exact ⟨_, [], rfl, Grow.refl W' [], nilM hX, rfl, hw⟩
  · refine (Any.strings_Join lay_join_156 joinExtra bk off c l b W (fun j x hj => ?_) (hF bk (by simp)).2 (by omega) hc (by rw [hj]; omega)).mono fun e W' he => ?_
    · obtain ⟨cs, Gk, r1, _, r3⟩ := hR.get j x hj
      obtain ⟨rfl, _, _⟩ := r1
      have q : W.cell? ⟨bk, off + j * 1 + 0, none⟩ = some (.string x) := (r3 0 _ rfl).1
      rwa [Nat.mul_one, Nat.add_zero] at q
    · obtain ⟨rfl, hb⟩ := he
      rw [← joS_join]
      exact ⟨_, [], rfl, Grow.of_below hb, nilM (fun b hb' => Nat.lt_of_lt_of_le (hX b hb') hb.size), rfl, hw⟩
def e_strings_Join : Entry Tryd.prog := ⟨66, [.v (.list tyStr), .v tyStr], fun x => joPre x.1 x.2.1, fun x => .c (.str (joS x.1 x.2.1)), fun _ => [], fun x hx => b_strings_Join x.1 x.2.1 hx, Tryd.call66⟩
end Go.Proofs.YtklnpeckhbiloaaDoor
