/-
  How many line's ends a drawn text holds at most.
  Plain: no program. No condition.
-/
import Derived.Test.YtbpapaponnfagaaGreatDoorLLineDr
import Derived.Test.YtbpapaponnfagaaGreatDoorLBlDraw6
set_option linter.unusedSimpArgs false
set_option linter.unusedVariables false
set_option maxRecDepth 100000
namespace Go.Proofs.YtbpapaponnfagaaGreatDoor
open Go.ChangeShapes Go.WideShapes Go.ChangeAt Go.RowKit Go.Joins Go.Deep
def crI (xs : List Int) : Nat := xs.countP (fun n => UInt8.ofNat n.toNat == 13)
theorem crI_app (xs ys : List Int) : crI (xs ++ ys) = crI xs + crI ys := List.countP_append
theorem crN_of (xs : List Int) : crN (bytesOf xs) = crI xs := by
  unfold crN bytesOf crI
  rw [List.toList_toArray, List.count_eq_countP, List.countP_map]
  rfl
theorem crI_byteL (s : ByteArray) : crI (byteL s) = crN s := by
  unfold crI byteL crN
  rw [List.countP_map, List.count_eq_countP]
  refine List.countP_congr fun b _ => ?_
  show (UInt8.ofNat b.toNat == 13) = true ↔ (b == 13) = true
  rw [UInt8.ofNat_toNat]
theorem crN_none {s : ByteArray} (h : ∀ i, i < s.size → byteAt s i ≠ 13) : crN s = 0 := by
  unfold crN
  rw [List.count_eq_zero]
  intro hm
  obtain ⟨i, hi, e⟩ := List.getElem_of_mem hm
  have hs : s.data.toList.length = s.size := Array.length_toList
  exact h i (by omega) ((byteAt_iff (c := (13 : UInt8)) (by omega)).2 (by rw [List.getElem?_eq_getElem hi, e]))
theorem crN_ext (s : ByteArray) (a b : Nat) : crN (ByteArray.extract s a b) ≤ crN s := by
  unfold crN
  rw [ByteArray.data_extract, Array.toList_extract, List.extract_eq_take_drop]
  exact ((List.take_sublist _ _).trans (List.drop_sublist _ _)).count_le 13
theorem crN_cut (s : ByteArray) (a : Nat) : crN (ByteArray.extract s 0 a) + crN (ByteArray.extract s a s.size) = crN s := by
  have hs : s.data.toList.length = s.size := Array.length_toList
  unfold crN
  rw [ext_drop, ByteArray.data_extract, Array.toList_extract, List.extract_eq_take_drop, List.drop_zero, Nat.sub_zero, ← List.count_append, List.take_append_drop]
theorem qu_byte : ∀ n : Nat, n < 127 → 32 ≤ n → (UInt8.ofNat n == 13) = false := by decide
theorem crI_qu {x : Int} (h : quCh x) : crI [x] = 0 := by
  unfold quCh at h
  have := qu_byte x.toNat (by omega) (by omega)
  unfold crI
  rw [List.countP_cons, this]
  rfl
theorem crI_quN (s : ByteArray) : ∀ k, (∀ i, i < k → quCh (byteAt s i)) → crI (quN s k) = 0
  | 0, _ => by show crI [34] = 0; decide
  | k + 1, h => by
    have h1 := crI_quN s k (fun i hi => h i (by omega))
    have h2 := crI_qu (h k (by omega))
    unfold quN
    rw [crI_app, h2]
    split
    · rw [crI_app, h1]; rfl
    · rw [h1]
theorem crN_quote (s : ByteArray) : crN (quoteS s) = 0 := by
  unfold quoteS
  split
  · rename_i h
    rw [crN_of, crI_app, crI_quN s _ h.2]
    rfl
  · rfl
theorem crN_itoa : ∀ n : Nat, n < 60 → crN (⟨(Lib.itoa (n : Int)).toArray⟩ : ByteArray) = 0 := by decide +kernel
theorem crN_size (s : ByteArray) : crN s ≤ s.size := by
  have hs : s.data.toList.length = s.size := Array.length_toList
  unfold crN
  have := List.count_le_length (a := (13 : UInt8)) (l := s.data.toList)
  omega
theorem crN_lit (s : ByteArray) : crN (lit3 s) ≤ 41 := by
  unfold lit3
  cases h : gtI ((ByteArray.size s : Nat) : Int) 40 with
  | true => exact Nat.zero_le _
  | false =>
    have h' := gtI_false.1 h
    have h1 := crN_itoa s.size (by omega)
    have h2 := crN_size s
    simp only [cond_false, crN_app, h1]
    show 0 + 0 + 1 + _ ≤ 41
    omega
theorem crN_atom {s : ByteArray} (h : atomOk s = true) : crN s = 0 := by
  unfold atomOk at h
  rw [Bool.and_eq_true] at h
  refine crN_none fun i hi e => ?_
  have := of_decide_eq_true h.1 i hi
  unfold atCh at this
  omega
def isTx (t : GToken) : Bool := decide (t.1 = 2)
theorem crN_tok (t : GToken) : crN (tokT t) ≤ 41 * (if isTx t = true then 1 else 0) := by
  unfold tokT
  simp only [bif_if]
  split
  · split
    · rename_i h; rw [crN_atom h]; exact Nat.zero_le _
    · exact Nat.zero_le _
  · split
    · rename_i h
      rw [if_pos (show isTx t = true from decide_eq_true (eqI_true.1 h))]
      split
      · exact crN_lit _
      · rw [crN_quote]; exact Nat.zero_le _
    · repeat' split
      all_goals exact Nat.zero_le _
theorem crI_ln (l : List GToken) : ∀ k, k ≤ l.length → crI (lnN l k) ≤ 41 * (l.take k).countP isTx
  | 0, _ => Nat.le_refl _
  | k + 1, h => by
    have h1 := crI_ln l k (by omega)
    have h2 := crN_tok (nth_Token l k)
    have h3 : l[k]? = some (nth_Token l k) := nth_getElem? (t := tyToken) h
    rw [List.take_add_one, h3, List.countP_append]
    have h4 : ([nth_Token l k].countP isTx) = if isTx (nth_Token l k) = true then 1 else 0 := by
      rw [List.countP_cons]; simp
    show _ ≤ 41 * (_ + [nth_Token l k].countP isTx)
    rw [h4]
    have h5 : crI (lnN l k ++ [32]) = crI (lnN l k) := by rw [crI_app]; rfl
    unfold lnN
    rw [crI_app, crI_byteL]
    split
    · rw [h5]; omega
    · omega
theorem crN_line (l : List GToken) : crN (lineOf l) ≤ 41 * l.countP isTx := by
  unfold lineOf
  split
  · have := crI_ln l l.length (Nat.le_refl _)
    rw [crN_of]
    rwa [List.take_of_length_le (Nat.le_refl _)] at this
  · exact Nat.zero_le _
theorem tx_atoms (ws : List ByteArray) : ∀ k, (atomsN ws k).countP isTx = 0
  | 0 => rfl
  | k + 1 => by unfold atomsN; rw [List.countP_append, tx_atoms ws k]; rfl
theorem tx_ev (b : Int) : ∀ k, (evN b k).countP isTx = 0
  | 0 => rfl
  | k + 1 => by
    have := tx_ev b k
    unfold evN
    split
    · rw [List.countP_append, this]; rfl
    · exact this
theorem tx_sc (z : GScope) : (scTok z).countP isTx = 0 := by
  unfold scTok nmTok
  simp only [List.countP_append, tx_ev]
  split
  · simp only [List.countP_append, tx_atoms]; rfl
  · rfl
theorem tx_scs (l : List GScope) : ∀ k, (scsN l k).countP isTx = 0
  | 0 => rfl
  | k + 1 => by unfold scsN; rw [List.countP_append, tx_scs l k, tx_sc]
theorem tx_fil (f : GFilter) : (filTok f).countP isTx = 0 := by
  unfold filTok
  repeat' split
  · rfl
  · rfl
  · exact tx_scs _ _
theorem tx_cmd (c : GCommand) : (cmdTok c).countP isTx ≤ 1 := by
  have h1 : (uidK c).countP isTx = 0 := by unfold uidK; split <;> rfl
  have h2 : (setK c).countP isTx = 0 := by unfold setK; split <;> rfl
  have h3 : (opK c).countP isTx = 0 := by unfold opK; split <;> rfl
  have h4 : (boxK c).countP isTx = 0 := by unfold boxK; split <;> rfl
  have h5 : (toK c).countP isTx = 0 := by unfold toK; split <;> rfl
  have h6 : (flK c).countP isTx = 0 := by
    unfold flK wdK
    split
    · rw [List.countP_append, List.countP_append]
      split
      · rw [tx_atoms]; rfl
      · rfl
    · rfl
  have h7 : (txK c).countP isTx ≤ 1 := by
    unfold txK
    split
    · exact Nat.le_refl 1
    · exact Nat.zero_le _
  have h8 : (fiK c).countP isTx = 0 := by
    unfold fiK
    split
    · exact tx_fil _
    · rfl
  have h9 : ∀ s, ([atomK s]).countP isTx = 0 := fun _ => rfl
  unfold cmdTok
  split
  · exact Nat.zero_le _
  · simp only [List.countP_append, h1, h2, h3, h4, h5, h6, h8, h9]
    omega
theorem crN_cmd (c : GCommand) : crN (lineOf (cmdTok c)) ≤ 41 := by
  have h1 := crN_line (cmdTok c)
  have h2 := tx_cmd c
  omega
theorem upB_cr0 : ∀ n : Nat, n < 256 → (upB (UInt8.ofNat n) == 13) = (UInt8.ofNat n == 13) := by decide +kernel
theorem upB_cr (x : UInt8) : (upB x == 13) = (x == 13) := by
  have := upB_cr0 x.toNat x.toNat_lt
  rwa [UInt8.ofNat_toNat] at this
theorem crN_up (s : ByteArray) : crN (upT s) = crN s := by
  unfold crN upT
  rw [Array.toList_map, List.count_eq_countP, List.countP_map, List.count_eq_countP]
  refine List.countP_congr fun b _ => ?_
  show (upB b == 13) = true ↔ (b == 13) = true
  rw [upB_cr]
theorem pick_cr {c : GCur} {l : List ByteArray} {n : Nat} (h0 : 0 < l.length) (h : ∀ x ∈ l, crN x ≤ n) : crN (pick c l).1 ≤ n := by
  have hb := below_b (c := c) (n := ((l.length : Nat) : Int)) (by omega)
  unfold pick
  exact h _ (List.mem_of_getElem? (nthS_get (by omega)))
theorem turned_cr {c : GCur} {s : ByteArray} {l : List ByteArray} {n : Nat} (h0 : 0 < l.length) (h : ∀ x ∈ l, crN x ≤ n) : crN (turned c s l).1 ≤ crN s + n := by
  unfold turned
  simp only [bif_if]
  have hp := fun c' => pick_cr (c := c') (n := n) h0 h
  repeat' split
  · have h1 := hp (below (below c (IntKind.wrap .i64 (((ByteArray.size s : Nat) : Int) + 1))).2 6).2
    have h2 := crN_cut s (Int.toNat (below c (IntKind.wrap .i64 (((ByteArray.size s : Nat) : Int) + 1))).1)
    simp only [crN_app, Int.toNat_natCast]
    rw [show Int.toNat 0 = 0 from rfl]
    omega
  · exact Nat.le_trans (crN_ext _ _ _) (Nat.le_add_right _ _)
  · exact Nat.le_add_right _ _
theorem line8_cr (c : GCur) : crN (line8 c).1 ≤ 42 := by
  unfold line8
  simp only [bif_if]
  split
  · show crN (upT _) ≤ _
    rw [crN_up]
    exact Nat.le_trans (crN_cmd _) (by decide)
  · refine Nat.le_trans (turned_cr (n := 1) (by decide) (by decide +kernel)) ?_
    have := crN_cmd (right7 c).1
    omega
theorem txt18_cr (c : GCur) : ∀ k, crN (txt18 c k).1 ≤ 43 * k
  | 0 => Nat.le_refl _
  | k + 1 => by
    have h1 := txt18_cr c k
    have h2 := line8_cr (txt18 c k).2
    unfold txt18
    simp only [crN_app]
    show _ + _ + 1 ≤ _
    omega
theorem crN_long (n : Nat) : crN (longS n) = 0 := by
  unfold longS longB
  rw [crN_of, crI_app]
  have : ∀ k : Nat, crI (List.replicate k 120) = 0 := fun k => by
    unfold crI
    rw [List.countP_replicate]
    rfl
  rw [this, Nat.sub_self]
  rfl
theorem text18_cr (c : GCur) : crN (text18 c).1 ≤ 131 := by
  have hb := below_b (c := c) (n := 4) (by decide)
  have hs := txt18_cr (below c 4).2 (Int.toNat (below c 4).1)
  unfold text18
  generalize (below (txt18 (below c 4).2 (Int.toNat (below c 4).1)).2 10).2 = d
  have h60 := below_b (c := d) (n := 60) (by decide)
  obtain ⟨m, hm⟩ : ∃ m : Nat, (below d 60).1 = (m : Int) := ⟨(below d 60).1.toNat, by omega⟩
  have hit := crN_itoa m (by omega)
  rw [← hm] at hit
  simp only [bif_if]
  repeat' split
  · have hp := pick_cr (c := (below d 60).2) (l := [(⟨#[]⟩ : ByteArray), (⟨#[120]⟩ : ByteArray), (⟨#[120, 121, 122, 13, 10]⟩ : ByteArray)]) (n := 1) (by decide) (by decide +kernel)
    simp only [crN_app, hit]
    show _ + 0 + 0 + 1 + _ ≤ _
    omega
  · have hp := pick_cr (c := (below d 12).2) (l := [(⟨#[]⟩ : ByteArray), (⟨#[13]⟩ : ByteArray), (⟨#[13, 10]⟩ : ByteArray), (⟨#[13, 10, 98, 32, 110, 111, 111, 112, 13, 10]⟩ : ByteArray)]) (n := 2) (by decide) (by decide +kernel)
    simp only [crN_app, crN_long]
    omega
  · have hp := pick_cr (c := d) (l := [(⟨#[13]⟩ : ByteArray), (⟨#[10]⟩ : ByteArray), (⟨#[13, 13, 10]⟩ : ByteArray), (⟨#[123, 57, 57, 57, 57, 57, 57, 57, 57, 57, 125, 13, 10]⟩ : ByteArray)]) (n := 2) (by decide) (by decide +kernel)
    simp only [crN_app]
    omega
  · show crN (txt18 _ _).1 ≤ _
    omega
theorem in18_cr (c : GCur) : crN (in18 c).1.1 ≤ 132 := by
  unfold in18
  simp only [bif_if]
  split
  · show crN (longS _) ≤ _
    rw [crN_long]
    exact Nat.zero_le _
  · refine Nat.le_trans (turned_cr (n := 1) (by decide) (by decide +kernel)) ?_
    have := text18_cr c
    omega
end Go.Proofs.YtbpapaponnfagaaGreatDoor
