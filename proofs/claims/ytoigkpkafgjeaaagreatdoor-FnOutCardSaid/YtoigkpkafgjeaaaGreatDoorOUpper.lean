/-
  The program's Upper: capital letters of a text.
  No condition but that the text is no longer than a text may be. Walked by hand.
-/
import Derived.Test.YtoigkpkafgjeaaaGreatDoorOBlOk
import Derived.Test.YtoigkpkafgjeaaaGreatDoorORep
import Derived.Laws.IdiomStrings
import Derived.Test.YtoigkpkafgjeaaaGreatDoorOBmTy
set_option linter.unusedSimpArgs false
set_option linter.unusedVariables false
namespace Go.Proofs.YtoigkpkafgjeaaaGreatDoor
open Go.ChangeShapes Go.WideShapes Go.ChangeAt Go.RowKit Go.Joins Go.Deep
open GoRep (rep bulk)
/-- the row when the first k are done -/
def upRow (s : ByteArray) (arr : Array Value) (k : Nat) : Prop := s.size ≤ arr.size ∧ ∀ j, j < s.size → arr[j]? = some (.int .u8 (if j < k then upI (byteAt s j) else byteAt s j))
theorem upRow_start (s : ByteArray) (cap : Nat) : upRow s (bytesRow s cap) 0 := by
  refine ⟨by unfold bytesRow; rw [Array.size_append, Array.size_map]; show s.data.size ≤ _; omega, fun j hj => ?_⟩
  rw [bytesRow_at s cap j hj, if_neg (Nat.not_lt_zero j)]
  unfold byteAt
  rw [List.getD_eq_getElem?_getD, List.getElem?_eq_getElem (by simpa using hj)]
  simp
theorem upRow_keep {s : ByteArray} {arr : Array Value} {k : Nat} (h : upRow s arr k) (hk : k < s.size) (hu : upI (byteAt s k) = byteAt s k) : upRow s arr (k + 1) := by
  refine ⟨h.1, fun j hj => ?_⟩
  rw [h.2 j hj]
  by_cases h1 : j < k
  · rw [if_pos h1, if_pos (by omega)]
  · by_cases h2 : j = k
    · subst h2
      rw [if_neg h1, if_pos (by omega), hu]
    · rw [if_neg h1, if_neg (by omega)]
theorem upRow_set {s : ByteArray} {arr : Array Value} {k : Nat} (h : upRow s arr k) (hk : k < s.size) : upRow s (arr.setIfInBounds k (.int .u8 (upI (byteAt s k)))) (k + 1) := by
  refine ⟨by rw [Array.size_setIfInBounds]; exact h.1, fun j hj => ?_⟩
  rw [Array.getElem?_setIfInBounds]
  by_cases h2 : k = j
  · subst h2
    rw [if_pos rfl, if_pos (by have := h.1; omega), if_pos (by omega)]
  · rw [if_neg h2, h.2 j hj]
    by_cases h1 : j < k
    · rw [if_pos h1, if_pos (by omega)]
    · rw [if_neg h1, if_neg (by omega)]
theorem setCell_new (w : World) (c : Array Value) (T : TypeId) (f : Nat × Nat) (k : Nat) (v : Value) : (w.alloc (.cells c T f)).setCell ⟨w.heap.size, k, none⟩ v = w.alloc (.cells (c.setIfInBounds k v) T f) := by
  have h : ∀ (a : Array Obj) (o o' : Obj) (g : Obj → Obj), g o = o' → (a.push o).modify a.size g = a.push o' := fun a o o' g h => by
    apply Array.ext_getElem?
    intro i
    rw [Array.getElem?_modify]
    by_cases hi : a.size = i
    · subst hi
      simp [h]
    · rw [if_neg hi, Array.getElem?_push, Array.getElem?_push, if_neg (Ne.symm hi), if_neg (Ne.symm hi)]
  exact congrArg (fun h => ({ w with heap := h } : World)) (h w.heap _ _ _ rfl)
set_option maxRecDepth 100000 in
set_option maxHeartbeats 4000000 in
theorem upper_walk (s : ByteArray) (w : World) (hs : s.size ≤ maxLen) : Calls Tryz.prog 60 #[.string s] w (fun e w' => e = .returned (.string (upT s)) ∧ Below w.heap.size w w') := by
  have hz : s.size ≤ 9223372036854775807 := hs
  have hcv : ∀ W : World, (convert 9 22 (.string s)).run Tryz.prog W = .ok (.slice (some ⟨W.heap.size, 0, none⟩) s.size (grownCap W s.size 0 5)) (W.drew.alloc (.cells (bytesRow s (grownCap W s.size 0 5)) 5 ((bytesRow s (grownCap W s.size 0 5)).size, (bytesRow s (grownCap W s.size 0 5)).size + 1))) :=
    fun W => run_bytes_of_string W _ _ _ s Tryz.underlying9 Tryz.underlying22 Tryz.underlying5
  go_enter Tryz.func60, Tryz.ntmps60
  go_wp2
  clear hcv
  obtain ⟨cap, hcap⟩ : ∃ cap, grownCap w s.size 0 5 = cap := ⟨_, rfl⟩
  simp only [hcap]
  go_loopw [10] (fun i wr => ∃ (k : Nat) (arr : Array Value) (d : Nat), k ≤ s.size ∧ i = .int .i64 k ∧ wr = ext (w.alloc (.cells arr 5 (arr.size, arr.size + 1))) #[] d ∧ upRow s arr k) (fun i _ => s.size - (intOf i).toNat)
  case atStart => exact ⟨0, _, w.drawn + 1, Nat.zero_le _, rfl, by simp [ext]; rfl, upRow_start s cap⟩
  case round =>
    obtain ⟨k, arr, d, hk, rfl, rfl, hu⟩ := hrel
    have HU := Lib.hid hu
    by_cases hlt : k < s.size
    · have hb := byteAt_b s k
      obtain ⟨x, hx⟩ : ∃ x, byteAt s k = x := ⟨_, rfl⟩
      have HX := Lib.hid hx
      rw [hx] at hb
      have a0 : arr[k]? = some (.int .u8 x) := by rw [hu.2 k hlt, if_neg (Nat.lt_irrefl k), hx]
      have hsz : k < arr.size := by have := hu.1; omega
      have g0 : (ext (w.alloc (.cells arr 5 (arr.size, arr.size + 1))) #[] d).heap[w.heap.size]? = some (.cells arr 5 (arr.size, arr.size + 1)) := by
        show (w.heap.push _ ++ #[])[w.heap.size]? = _
        simp
      have c0 : (ext (w.alloc (.cells arr 5 (arr.size, arr.size + 1))) #[] d).cell? ⟨w.heap.size, k, none⟩ = some (.int .u8 x) := by
        unfold World.cell?
        rw [g0]
        exact a0
      have f0 : (ext (w.alloc (.cells arr 5 (arr.size, arr.size + 1))) #[] d).frozen? ⟨w.heap.size, k, none⟩ = false := by
        unfold World.frozen?
        rw [g0]
        simp
        omega
      clear g0
      clear hu hx
      go_wp2
      · refine ⟨⟨k + 1, arr.setIfInBounds k (.int .u8 (x - 97 + 65)), d, by omega, by simp, ?_, ?_⟩, by simp [intOf]; omega⟩
        · rw [setCell_new, Array.size_setIfInBounds]
        · have h := upRow_set HU.out hlt
          rw [HX.out, show upI x = x - 97 + 65 by unfold upI; rw [if_pos (by omega)]; omega] at h
          exact h
      all_goals exact ⟨⟨k + 1, arr, d, by omega, by simp, rfl, upRow_keep HU.out hlt (by rw [HX.out]; unfold upI; rw [if_neg (by omega)])⟩, by simp [intOf]; omega⟩
    · have hkk : k = s.size := by omega
      subst hkk
      have g0 : (ext (w.alloc (.cells arr 5 (arr.size, arr.size + 1))) #[] d).heap[w.heap.size]? = some (.cells arr 5 (arr.size, arr.size + 1)) := by
        show (w.heap.push _ ++ #[])[w.heap.size]? = _
        simp
      have hlen : (upT s).data.toList.length = s.size := upT_size s
      have hcv : (convert 22 9 (.slice (some ⟨w.heap.size, 0, none⟩) s.size cap)).run Tryz.prog (ext (w.alloc (.cells arr 5 (arr.size, arr.size + 1))) #[] d) = .ok (.string (upT s)) (ext (w.alloc (.cells arr 5 (arr.size, arr.size + 1))) #[] d) := by
        have h := run_convert_bytes_back (P := Tryz.prog) (ext (w.alloc (.cells arr 5 (arr.size, arr.size + 1))) #[] d) 22 9 5 ⟨w.heap.size, 0, none⟩ cap (upT s).data.toList Tryz.underlying22 Tryz.underlying5 Tryz.underlying9 (fun j hj => by
          rw [addr_add]
          unfold World.cell?
          simp only [Nat.zero_add]
          rw [g0]
          have hj' : j < s.size := by rw [hlen] at hj; exact hj
          show arr[j]? = _
          rw [hu.2 j hj', if_pos hj', ← upT_at hj']
          unfold byteAt
          rw [List.getD_eq_getElem?_getD, List.getElem?_eq_getElem hj]
          rfl)
        rw [hlen] at h
        exact h
      clear hu g0
      go_wp2
      go_ret
      exact ⟨rfl, (by repeat (first | exact Below.refl _ _ | refine bl_al ?_ _ | refine bl_ext ?_ _ _ | refine Below.drew ?_ | assumption | refine bl_tr ?_ (by assumption)))⟩
theorem b_i_Upper (s : ByteArray) : BCalls Tryz.prog 60 [.c (.str s)] (.c (.str (upT s))) [] := by
  intro X W vs hX hgl hr
  obtain ⟨v, r, rfl, ⟨rfl, hw⟩, hn⟩ := hr
  obtain rfl : r = [] := hn
  refine (upper_walk s W hw).mono fun e W' he => ?_
  obtain ⟨rfl, hb⟩ := he
  obtain ⟨h1, h2, h3, h4, h5⟩ := hb
  exact ⟨_, [], rfl, ⟨by assumption, by assumption, by assumption, h4, fun b hb _ => h5 b hb, fun b hb => by simp [foots] at hb, fun i e h => by simp at h⟩, nilM (fun b hb' => Nat.lt_of_lt_of_le (hX b hb') h4), rfl, by rw [upT_size]; exact hw⟩
def e_i_Upper : Entry Tryz.prog := ⟨60, [.v tyStr], fun x => True, fun x => .c (.str (upT x.1)), fun _ => [], fun x _ => b_i_Upper x.1, Tryz.call60⟩
end Go.Proofs.YtoigkpkafgjeaaaGreatDoor
