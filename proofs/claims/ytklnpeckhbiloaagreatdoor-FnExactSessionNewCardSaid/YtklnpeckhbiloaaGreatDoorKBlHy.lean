/-
  The program's Hex: encoding/hex over the bytes of a text.
  No condition but the size. By hand.
-/
import Derived.Test.YtklnpeckhbiloaaGreatDoorKBlHx
import Derived.Test.YtklnpeckhbiloaaGreatDoorKRep
import Derived.Laws.IdiomStrings
import Derived.Shelf.Hex.More
set_option linter.unusedSimpArgs false
set_option linter.unusedVariables false
set_option maxRecDepth 100000
namespace Go.Proofs.YtklnpeckhbiloaaGreatDoor
open Go.ChangeShapes Go.WideShapes Go.ChangeAt Go.RowKit Go.Joins Go.Deep
open GoRep (rep)
def ren_hex_39 : Go.Shelf.Ren := ⟨fun | 39 => 113 | 41 => 124 | 40 => 125 | n => n,
  fun | 30 => 41 | 9 => 9 | 3 => 3 | 0 => 0 | 5 => 5 | 46 => 114 | n => n,
  fun  | n => n⟩
open Go.Shelf in
theorem lay_hex_39 : Lays.ph39 Tryz.prog ren_hex_39 where
  mixed := by kernel_rfl
  f39 := Tryz.func113.trans (congrArg some (by kernel_rfl))
  f40 := Tryz.func125.trans (congrArg some (by kernel_rfl))
  f41 := Tryz.func124.trans (congrArg some (by kernel_rfl))
  t0 := Tryz.underlying0
  a0 := Tryz.isAgg0
  z0 := Tryz.sizeOf0
  v0 := Tryz.zeroValue0
  t3 := Tryz.underlying3
  a3 := Tryz.isAgg3
  z3 := Tryz.sizeOf3
  v3 := Tryz.zeroValue3
  t5 := Tryz.underlying5
  a5 := Tryz.isAgg5
  z5 := Tryz.sizeOf5
  v5 := Tryz.zeroValue5
  t9 := Tryz.underlying9
  a9 := Tryz.isAgg9
  z9 := Tryz.sizeOf9
  v9 := Tryz.zeroValue9
  t30 := Tryz.underlying41
  a30 := Tryz.isAgg41
  z30 := Tryz.sizeOf41
  v30 := Tryz.zeroValue41
  t46 := Tryz.underlying114
  a46 := Tryz.isAgg114
  z46 := Tryz.sizeOf114
  v46 := Tryz.zeroValue114
  info5 := by kernel_rfl
theorem hexD : ∀ d : Nat, d < 16 → UInt8.ofNat (hexI ((d : Nat) : Int)).toNat = Lib.Hx.digit d := by decide
theorem enc_snoc (l : List UInt8) (b : UInt8) : Lib.Hx.encode (l ++ [b]) = Lib.Hx.encode l ++ [Lib.Hx.digit (b.toNat / 16), Lib.Hx.digit (b.toNat % 16)] := by
  unfold Lib.Hx.encode
  rw [List.flatMap_append]
  simp
theorem hexN_enc (s : ByteArray) : ∀ k, k ≤ s.data.toList.length → (hexN s k).map (fun n => UInt8.ofNat n.toNat) = Lib.Hx.encode (s.data.toList.take k)
  | 0, _ => rfl
  | k + 1, h => by
    have ih := hexN_enc s k (by omega)
    obtain ⟨b, hb⟩ : ∃ b, s.data.toList[k]? = some b := ⟨_, List.getElem?_eq_getElem (by omega)⟩
    have e : byteAt s k = ((b.toNat : Nat) : Int) := by unfold byteAt; rw [List.getD_eq_getElem?_getD, hb]; rfl
    have hl := b.toNat_lt
    have e1 : Int.tdiv ((b.toNat : Nat) : Int) 16 = ((b.toNat / 16 : Nat) : Int) := rfl
    have e2 : Int.tmod ((b.toNat : Nat) : Int) 16 = ((b.toNat % 16 : Nat) : Int) := rfl
    rw [List.take_add_one, hb]
    show _ = Lib.Hx.encode (_ ++ [b])
    rw [enc_snoc]
    unfold hexN
    rw [List.map_append, ih, e, e1, e2, List.map_cons, List.map_cons, List.map_nil, hexD _ (by omega), hexD _ (by omega)]
theorem hexS_enc (s : ByteArray) : hexS s = ⟨(Lib.Hx.encode s.data.toList).toArray⟩ := by
  have h := hexN_enc s s.size (Nat.le_of_eq Array.length_toList.symm)
  unfold hexS bytesOf
  rw [h, List.take_of_length_le (show s.data.toList.length ≤ s.size from Nat.le_of_eq Array.length_toList)]
theorem hexS_size (s : ByteArray) : (hexS s).size = 2 * s.size := by
  unfold hexS
  rw [bytesOf_size, hexN_len]
set_option maxHeartbeats 4000000 in
theorem hex_walk (s : ByteArray) (w : World) (hs : s.size ≤ 1048576) : Calls Tryz.prog 105 #[.string s] w (fun e w' => e = .returned (.string (hexS s)) ∧ Below w.heap.size w w') := by
  have hcv : ∀ W : World, (convert 9 41 (.string s)).run Tryz.prog W = .ok (.slice (some ⟨W.heap.size, 0, none⟩) s.size (grownCap W s.size 0 5)) (W.drew.alloc (.cells (bytesRow s (grownCap W s.size 0 5)) 5 ((bytesRow s (grownCap W s.size 0 5)).size, (bytesRow s (grownCap W s.size 0 5)).size + 1))) :=
    fun W => run_bytes_of_string W _ _ _ s Tryz.underlying9 Tryz.underlying41 Tryz.underlying5
  go_enter Tryz.func105, Tryz.ntmps105
  go_wp2_with fail
  clear hcv
  obtain ⟨cap, hcap⟩ : ∃ cap, grownCap w s.size 0 5 = cap := ⟨_, rfl⟩
  simp only [hcap]
  have hl : s.data.toList.length = s.size := Array.length_toList
  obtain ⟨C, hC⟩ : ∃ C : Obj, C = .cells (bytesRow s cap) 5 ((bytesRow s cap).size, (bytesRow s cap).size + 1) := ⟨_, rfl⟩
  obtain ⟨W1, hW1⟩ : ∃ W1, W1 = (w.alloc C).drew := ⟨_, rfl⟩
  have g0 : W1.heap[w.heap.size]? = some C := by
    rw [hW1]
    show (w.heap.push C)[w.heap.size]? = _
    rw [Array.getElem?_push, if_pos rfl]
  have hb1 : Below w.heap.size w W1 := by
    rw [hW1]
    exact ((Below.refl w.heap.size w).alloc (Nat.le_refl _) C).trans ⟨rfl, rfl, rfl, Nat.le_refl _, fun _ _ => rfl⟩
  rw [← hC, ← hW1]
  rw [show s.size = s.data.toList.length from hl.symm]
  refine (Any.hex_EncodeToString_bytes lay_hex_39 w.heap.size 0 cap s.data.toList W1 (fun i hi => ?_) ?_ (by omega)).mono fun e W' he => ?_
  · have hi' : i < s.data.size := by rwa [Array.length_toList] at hi
    show W1.cell? ⟨w.heap.size, 0 + i, none⟩ = _
    unfold World.cell?
    rw [g0, hC, Nat.zero_add]
    show (bytesRow s cap)[i]? = _
    rw [bytesRow_at s cap i hi']
    simp
  · exact (Array.getElem?_eq_some_iff.1 g0).1
  · obtain ⟨rfl, hb⟩ := he
    have hz := hb1.trans (hb.mono (hb1.size))
    rw [← hexS_enc]
    go_wp2_with fail
    refine ⟨rfl, .string (hexS s), ?_, And.intro rfl hz⟩
    exact (by simp [results, Tryz.results105, go_sem])
theorem b_i_Hex (s : ByteArray) (hpre : s.size ≤ 1048576) : BCalls Tryz.prog 105 [.c (.str s)] (.c (.str (hexS s))) [] := by
  intro X W vs hX hgl hr
  obtain ⟨v, r, rfl, ⟨rfl, hw⟩, hn⟩ := hr
  obtain rfl : r = [] := hn
  refine (hex_walk s W hpre).mono fun e W' he => ?_
  obtain ⟨rfl, hb⟩ := he
  exact ⟨_, [], rfl, Grow.of_below hb, nilM (fun b hb' => Nat.lt_of_lt_of_le (hX b hb') hb.size), rfl, by rw [hexS_size]; unfold maxLen; omega⟩
def e_i_Hex : Entry Tryz.prog := ⟨105, [.v tyStr], fun x => ByteArray.size x.1 ≤ 1048576, fun x => .c (.str (hexS x.1)), fun _ => [], fun x hx => b_i_Hex x.1 hx, Tryz.call105⟩
end Go.Proofs.YtklnpeckhbiloaaGreatDoor
