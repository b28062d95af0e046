/-
  Several texts in one.
-/
import Derived.Test.YtoigkpkafgjeaaaGreatDoorOBlOk
import Derived.Test.YtoigkpkafgjeaaaGreatDoorOBlFetch
set_option linter.unusedSimpArgs false
set_option linter.unusedVariables false
namespace Go.Proofs.YtoigkpkafgjeaaaGreatDoor
open Go.ChangeShapes Go.WideShapes Go.ChangeAt Go.RowKit Go.Joins Go.Deep
open GoRep (rep bulk)

abbrev nmLt (a b : ByteArray) : Bool := Op.bytesLess a.toList b.toList
theorem nmLt_tot (a b : ByteArray) : (nmLt a b || decide (a = b)) = !nmLt b a := leS_ge a b
theorem bl_trans : ∀ (x y z : List UInt8), Op.bytesLess x y = true → Op.bytesLess y z = true → Op.bytesLess x z = true
  | [], [], _, h, _ => by simp [Op.bytesLess] at h
  | _ :: _, [], _, h, _ => by simp [Op.bytesLess] at h
  | _, _ :: _, [], _, h => by simp [Op.bytesLess] at h
  | [], _ :: _, _ :: _, _, _ => by simp [Op.bytesLess]
  | a :: x, b :: y, c :: z, h1, h2 => by
    rw [Op.bytesLess] at h1 h2 ⊢
    simp only [Bool.or_eq_true, Bool.and_eq_true, decide_eq_true_eq, beq_iff_eq] at h1 h2 ⊢
    rcases h1 with h1 | ⟨rfl, h1⟩
    · rcases h2 with h2 | ⟨rfl, h2⟩
      · left
        have q1 : a.toNat < b.toNat := h1
        have q2 : b.toNat < c.toNat := h2
        have q3 : a.toNat < c.toNat := by omega
        exact q3
      · exact .inl h1
    · rcases h2 with h2 | ⟨rfl, h2⟩
      · exact .inl h2
      · exact .inr ⟨rfl, bl_trans x y z h1 h2⟩
theorem nmLt_trans {a b c : ByteArray} (h1 : nmLt a b = true) (h2 : nmLt b c = true) : nmLt a c = true := bl_trans _ _ _ h1 h2

theorem nth_none {t : Ty} {xs : List t.den} {k : Nat} (h : xs.length ≤ k) : nth t xs k = t.dflt := by
  unfold nth
  rw [List.getD_eq_getElem?_getD, List.getElem?_eq_none h]
  rfl

/-! ### sorted by name -/
def srt (l : List GBox) : Prop := l.Pairwise (fun a b => nmLt a.1 b.1 = true)
def layB : List GBox → GBox → List GBox
  | [], b => [b]
  | x :: l, b => if nmLt x.1 b.1 = true then x :: layB l b else b :: x :: l
def posN : List GBox → ByteArray → Nat
  | [], _ => 0
  | x :: l, n => if nmLt x.1 n = true then posN l n + 1 else 0
theorem layB_pos : ∀ (l : List GBox) (b : GBox), layB l b = l.take (posN l b.1) ++ b :: l.drop (posN l b.1)
  | [], _ => rfl
  | x :: l, b => by
    unfold layB posN
    split
    · rw [layB_pos l b]; rfl
    · rfl
theorem lay_perm (l : List GBox) (b : GBox) : (layB l b).Perm (b :: l) := by
  rw [layB_pos]
  refine List.perm_middle.trans ?_
  rw [List.take_append_drop]
theorem lay_mem {l : List GBox} {b x : GBox} : x ∈ layB l b ↔ x = b ∨ x ∈ l := by rw [(lay_perm l b).mem_iff, List.mem_cons]
/-! ### right boxes -/
def msgBad (b : GBox) (i : Nat) : Prop := (nth_Msg b.2.2.2 i).1 < 1 ∨ b.2.2.1 - 1 < (nth_Msg b.2.2.2 i).1 ∨ (nth_Msg b.2.2.2 i).2.1 < 0 ∨ 31 < (nth_Msg b.2.2.2 i).2.1 ∨ 40 < (nth_Msg b.2.2.2 i).2.2.size ∨ (0 < i ∧ (nth_Msg b.2.2.2 i).1 ≤ (nth_Msg b.2.2.2 (i - 1)).1)
instance (b : GBox) (i : Nat) : Decidable (msgBad b i) := by unfold msgBad; infer_instance
def boxOk (b : GBox) : Bool := decide ((∀ i, i < b.2.2.2.length → ¬ msgBad b i) ∧ nameOk b.1 = true ∧ (1 ≤ b.2.1 ∧ b.2.1 ≤ 999999999) ∧ (1 ≤ b.2.2.1 ∧ b.2.2.1 ≤ 999999999) ∧ b.2.2.2.length ≤ 6)
theorem boxOk_iff {b : GBox} : boxOk b = true ↔ (∀ i, i < b.2.2.2.length → ¬ msgBad b i) ∧ nameOk b.1 = true ∧ (1 ≤ b.2.1 ∧ b.2.1 ≤ 999999999) ∧ (1 ≤ b.2.2.1 ∧ b.2.2.1 ≤ 999999999) ∧ b.2.2.2.length ≤ 6 := by
  unfold boxOk
  rw [decide_eq_true_eq]
theorem boxOk_no {b : GBox} {i : Nat} (hi : i < b.2.2.2.length) (h : msgBad b i) : boxOk b = false := by
  rw [← Bool.not_eq_true, boxOk_iff]
  exact fun q => q.1 i hi h
theorem boxOk_out {b : GBox} (h : ¬ (nameOk b.1 = true ∧ (1 ≤ b.2.1 ∧ b.2.1 ≤ 999999999) ∧ (1 ≤ b.2.2.1 ∧ b.2.2.1 ≤ 999999999) ∧ b.2.2.2.length ≤ 6)) : boxOk b = false := by
  rw [← Bool.not_eq_true, boxOk_iff]
  exact fun q => h q.2
theorem boxOk_yes {b : GBox} (h : ∀ i, i < b.2.2.2.length → ¬ msgBad b i) (h2 : nameOk b.1 = true ∧ (1 ≤ b.2.1 ∧ b.2.1 ≤ 999999999) ∧ (1 ≤ b.2.2.1 ∧ b.2.2.1 ≤ 999999999) ∧ b.2.2.2.length ≤ 6) : boxOk b = true := boxOk_iff.2 ⟨h, h2⟩
def bxBad (l : List GBox) (i : Nat) : Prop := boxOk (nth_Box l i) = false ∨ (0 < i ∧ nmLt (nth_Box l (i - 1)).1 (nth_Box l i).1 = false) ∨ boxW l (nth_Box l i).2.1 ≠ ((i : Nat) : Int)
instance (l : List GBox) (i : Nat) : Decidable (bxBad l i) := by unfold bxBad; infer_instance
def boxesOk (l : List GBox) : Bool := decide ((∀ i, i < l.length → ¬ bxBad l i) ∧ l.length ≤ 4)
theorem boxesOk_iff {l : List GBox} : boxesOk l = true ↔ (∀ i, i < l.length → ¬ bxBad l i) ∧ l.length ≤ 4 := by
  unfold boxesOk
  rw [decide_eq_true_eq]
theorem boxesOk_no {l : List GBox} {i : Nat} (hi : i < l.length) (h : bxBad l i) : boxesOk l = false := by
  rw [← Bool.not_eq_true, boxesOk_iff]
  exact fun q => q.1 i hi h
theorem boxesOk_all {l : List GBox} (h : ∀ i, i < l.length → ¬ bxBad l i) : boxesOk l = decide (l.length ≤ 4) := by
  rw [Bool.eq_iff_iff, boxesOk_iff, decide_eq_true_eq]
  exact ⟨fun q => q.2, fun q => ⟨h, q⟩⟩
theorem boxesOk_srt {l : List GBox} (h : boxesOk l = true) : srt l := by
  have hb := (boxesOk_iff.1 h).1
  have step : ∀ i, i + 1 < l.length → nmLt (nth_Box l i).1 (nth_Box l (i + 1)).1 = true := fun i hi => by
    have := hb (i + 1) hi
    unfold bxBad at this
    cases hq : nmLt (nth_Box l i).1 (nth_Box l (i + 1)).1 with
    | true => rfl
    | false => exact absurd (Or.inr (Or.inl ⟨by omega, hq⟩)) this
  have far : ∀ d i, i + (d + 1) < l.length → nmLt (nth_Box l i).1 (nth_Box l (i + (d + 1))).1 = true := by
    intro d
    induction d with
    | zero => exact fun i hi => step i hi
    | succ d ih => exact fun i hi => nmLt_trans (ih i (by omega)) (step (i + (d + 1)) (by omega))
  unfold srt
  rw [List.pairwise_iff_getElem]
  intro i j hi hj hij
  have := far (j - i - 1) i (by omega)
  rw [show i + (j - i - 1 + 1) = j by omega] at this
  have e : ∀ q (hq : q < l.length), nth_Box l q = l[q] := fun q hq => nth_of_get (t := tyBox) (List.getElem?_eq_getElem hq)
  rw [e i hi, e j hj] at this
  exact this
/-- the elder half of a list: a validity's first place -/
theorem boxW_at {l : List GBox} {i : Nat} (hi : i < l.length) : boxW l (nth_Box l i).2.1 = ((i : Nat) : Int) ↔ boxW (l.take i) (nth_Box l i).2.1 < 0 := by
  have hg : l[i]? = some (nth_Box l i) := nth_getElem? (t := tyBox) hi
  have hp : eqI (nth_Box l i).2.1 (nth_Box l i).2.1 = true := eqI_true.2 rfl
  unfold boxW
  constructor
  · intro h
    cases ha : (l.take i).any (fun z0 : GBox => eqI z0.2.1 (nth_Box l i).2.1) with
    | false => rw [idxL_none ha]; omega
    | true =>
      exfalso
      obtain ⟨x, hx, hpx⟩ := List.any_eq_true.1 ha
      obtain ⟨j, hj, rfl⟩ := List.mem_iff_getElem.1 hx
      have hjl : j < i := by rw [List.length_take] at hj; omega
      have hlt := idxL_lt (p := fun z0 : GBox => eqI z0.2.1 (nth_Box l i).2.1) (l.take (j + 1))
      have : ∀ k, k ≤ j → (l.take k).any (fun z0 : GBox => eqI z0.2.1 (nth_Box l i).2.1) = false := by
        intro k hk
        cases hq : (l.take k).any (fun z0 : GBox => eqI z0.2.1 (nth_Box l i).2.1) with
        | false => rfl
        | true =>
          exfalso
          have hfi : ∃ q, l.findIdx? (fun z0 : GBox => eqI z0.2.1 (nth_Box l i).2.1) = some q ∧ q < k := by
            obtain ⟨y, hy, hpy⟩ := List.any_eq_true.1 hq
            obtain ⟨q, hq1, rfl⟩ := List.mem_iff_getElem.1 hy
            have hqk : q < k := by rw [List.length_take] at hq1; omega
            have hql : q < l.length := by omega
            rw [List.getElem_take] at hpy
            cases hf : l.findIdx? (fun z0 : GBox => eqI z0.2.1 (nth_Box l i).2.1) with
            | none =>
              have := (List.findIdx?_eq_none_iff.1 hf) _ (List.getElem_mem hql)
              rw [hpy] at this
              cases this
            | some r =>
              refine ⟨r, rfl, ?_⟩
              obtain ⟨h1, h2, h3⟩ := List.findIdx?_eq_some_iff_getElem.1 hf
              rcases Nat.lt_or_ge r k with h4 | h4
              · exact h4
              · exact absurd hpy (by simpa using h3 q (by omega))
          obtain ⟨q, hf, hqk⟩ := hfi
          unfold idxL at h
          rw [hf] at h
          simp at h
          omega
      have hx' : l[j]? = some ((l.take i)[j]) := by
        rw [List.getElem_take]
        exact List.getElem?_eq_getElem (by omega)
      have := idxL_at (this j (Nat.le_refl _)) hx' hpx
      rw [this] at h
      have h : ((j : Nat) : Int) = ((i : Nat) : Int) := h
      omega
  · intro h
    have ha : (l.take i).any (fun z0 : GBox => eqI z0.2.1 (nth_Box l i).2.1) = false := by
      cases hq : (l.take i).any (fun z0 : GBox => eqI z0.2.1 (nth_Box l i).2.1) with
      | false => rfl
      | true =>
        have := (idxL_ge (p := fun z0 : GBox => eqI z0.2.1 (nth_Box l i).2.1) (l.take i)).2 hq
        omega
    exact idxL_at ha hg hp

/-! ### commits -/
def commitOk (m : GCommit) : Bool := decide ((1 ≤ m.2.1 ∧ m.2.1 ≤ 999999999) ∧
  (((m.1 = 1 ∨ m.1 = 3) ∧ nameOk m.2.2.2.2.1 = true ∧ m.2.2.1 = 0 ∧ m.2.2.2.1 = 0 ∧ m.2.2.2.2.2 = (⟨#[]⟩ : ByteArray)) ∨
   (m.1 = 2 ∧ m.2.2.1 = 0 ∧ m.2.2.2.1 = 0 ∧ m.2.2.2.2.1 = (⟨#[]⟩ : ByteArray) ∧ m.2.2.2.2.2 = (⟨#[]⟩ : ByteArray)) ∨
   (m.1 = 4 ∧ (1 ≤ m.2.2.1 ∧ m.2.2.1 ≤ 999999998) ∧ (0 ≤ m.2.2.2.1 ∧ m.2.2.2.1 ≤ 31) ∧ m.2.2.2.2.2.size ≤ 40 ∧ m.2.2.2.2.1 = (⟨#[]⟩ : ByteArray)) ∨
   (m.1 = 5 ∧ (1 ≤ m.2.2.1 ∧ m.2.2.1 ≤ 999999998) ∧ (0 ≤ m.2.2.2.1 ∧ m.2.2.2.1 ≤ 31) ∧ m.2.2.2.2.1 = (⟨#[]⟩ : ByteArray) ∧ m.2.2.2.2.2 = (⟨#[]⟩ : ByteArray)) ∨
   (m.1 = 6 ∧ (1 ≤ m.2.2.1 ∧ m.2.2.1 ≤ 999999998) ∧ m.2.2.2.1 = 0 ∧ m.2.2.2.2.1 = (⟨#[]⟩ : ByteArray) ∧ m.2.2.2.2.2 = (⟨#[]⟩ : ByteArray))))
abbrev bxK (l : List GBox) (m : GCommit) : Nat := (boxW l m.2.1).toNat
abbrev bxB (l : List GBox) (m : GCommit) : GBox := nth_Box l (boxW l m.2.1).toNat
def fitsB (l : List GBox) (m : GCommit) : Bool :=
  if m.1 = 1 then decide (l.length < 4 ∧ boxW l m.2.1 < 0 ∧ boxIx l m.2.2.2.2.1 < 0)
  else if boxW l m.2.1 < 0 then false
  else if m.1 = 3 then decide (boxIx l m.2.2.2.2.1 < 0)
  else if m.1 = 4 then decide (m.2.2.1 = (bxB l m).2.2.1 ∧ (bxB l m).2.2.2.length < 6)
  else if m.1 = 5 ∨ m.1 = 6 then decide (0 ≤ placeO (bxB l m).2.2.2 m.2.2.1)
  else true
def appl (l : List GBox) (m : GCommit) : Bool := boxesOk l && (commitOk m && fitsB l m)
abbrev outB (l : List GBox) (k : Nat) : List GBox := l.take k ++ l.drop (k + 1)
abbrev outM (l : List GMsg) (k : Nat) : List GMsg := l.take k ++ l.drop (k + 1)
def perfB (l : List GBox) (m : GCommit) : List GBox :=
  if m.1 = 1 then layB l (m.2.2.2.2.1, m.2.1, 1, [])
  else if m.1 = 2 then outB l (bxK l m)
  else if m.1 = 3 then layB (outB l (bxK l m)) (m.2.2.2.2.1, (bxB l m).2.1, (bxB l m).2.2.1, (bxB l m).2.2.2)
  else if m.1 = 4 then l.set (bxK l m) ((bxB l m).1, (bxB l m).2.1, (bxB l m).2.2.1 + 1, (bxB l m).2.2.2 ++ [(m.2.2.1, m.2.2.2.1, m.2.2.2.2.2)])
  else if m.1 = 5 then l.set (bxK l m) ((bxB l m).1, (bxB l m).2.1, (bxB l m).2.2.1, (bxB l m).2.2.2.set (placeO (bxB l m).2.2.2 m.2.2.1).toNat ((nth_Msg (bxB l m).2.2.2 (placeO (bxB l m).2.2.2 m.2.2.1).toNat).1, m.2.2.2.1, (nth_Msg (bxB l m).2.2.2 (placeO (bxB l m).2.2.2 m.2.2.1).toNat).2.2))
  else l.set (bxK l m) ((bxB l m).1, (bxB l m).2.1, (bxB l m).2.2.1, outM (bxB l m).2.2.2 (placeO (bxB l m).2.2.2 m.2.2.1).toNat)
def smallB (l : List GBox) : Prop := l.length ≤ 1048576 ∧ ∀ x ∈ l, x.2.2.2.length ≤ 1048576
theorem smallB_nth {l : List GBox} (h : smallB l) (k : Nat) : (nth_Box l k).2.2.2.length ≤ 1048576 := by
  by_cases hk : k < l.length
  · exact h.2 _ (List.mem_of_getElem? (nth_getElem? (t := tyBox) hk))
  · have : nth_Box l k = z_Box := nth_none (t := tyBox) (Nat.le_of_not_lt hk)
    rw [this]
    exact Nat.zero_le _
theorem appl_small {l : List GBox} {m : GCommit} (h : appl l m = true) : l.length ≤ 4 ∧ ∀ k, (nth_Box l k).2.2.2.length ≤ 6 := by
  unfold appl at h
  rw [Bool.and_eq_true] at h
  have hb := boxesOk_iff.1 h.1
  refine ⟨hb.2, fun k => ?_⟩
  by_cases hk : k < l.length
  · have := hb.1 k hk
    unfold bxBad at this
    cases hq : boxOk (nth_Box l k) with
    | false => exact absurd (Or.inl hq) this
    | true => exact (boxOk_iff.1 hq).2.2.2.2
  · have : nth_Box l k = z_Box := nth_none (t := tyBox) (Nat.le_of_not_lt hk)
    rw [this]
    exact Nat.zero_le _
end Go.Proofs.YtoigkpkafgjeaaaGreatDoor
set_option linter.unusedSimpArgs false
set_option linter.unusedVariables false
namespace Go.Proofs.YtoigkpkafgjeaaaGreatDoor
theorem outB_erase (l : List GBox) (k : Nat) : outB l k = l.eraseIdx k := by
  rw [List.eraseIdx_eq_take_drop_succ]
theorem outB_sub (l : List GBox) (k : Nat) : (outB l k).Sublist l := by
  rw [outB_erase]
  exact List.eraseIdx_sublist _ _
theorem boxW_lt (l : List GBox) (u : Int) : -1 ≤ boxW l u ∧ boxW l u < l.length := idxL_lt l
theorem boxIx_lt (l : List GBox) (n : ByteArray) : -1 ≤ boxIx l n ∧ boxIx l n < l.length := idxL_lt l
theorem placeO_lt (l : List GMsg) (u : Int) : -1 ≤ placeO l u ∧ placeO l u < l.length := idxL_lt l
theorem geN (a b : Int) : (!geI a b) = ltI a b := by
  rw [Bool.eq_iff_iff]
  simp [geI, ltI]
theorem fitsB_iff {l : List GBox} {m : GCommit} : fitsB l m = true ↔ (m.1 = 1 ∧ l.length < 4 ∧ boxW l m.2.1 < 0 ∧ boxIx l m.2.2.2.2.1 < 0) ∨
    (m.1 ≠ 1 ∧ 0 ≤ boxW l m.2.1 ∧ ((m.1 = 3 ∧ boxIx l m.2.2.2.2.1 < 0) ∨ (m.1 = 4 ∧ m.2.2.1 = (bxB l m).2.2.1 ∧ (bxB l m).2.2.2.length < 6) ∨ ((m.1 = 5 ∨ m.1 = 6) ∧ 0 ≤ placeO (bxB l m).2.2.2 m.2.2.1) ∨ (m.1 ≠ 3 ∧ m.1 ≠ 4 ∧ m.1 ≠ 5 ∧ m.1 ≠ 6))) := by
  unfold fitsB
  split
  · rw [decide_eq_true_eq]
    omega
  · split
    · simp only [Bool.false_eq_true, false_iff]
      omega
    · split
      · rw [decide_eq_true_eq]
        omega
      · split
        · rw [decide_eq_true_eq]
          omega
        · split
          · rw [decide_eq_true_eq]
            omega
          · simp only [true_iff]
            omega
/-- what a commit that applies tells -/
theorem appl_facts {l : List GBox} {m : GCommit} (h : appl l m = true) : srt l ∧ l.length ≤ 4 ∧ (∀ k, k < l.length → boxOk (nth_Box l k) = true) ∧ commitOk m = true ∧ fitsB l m = true := by
  unfold appl at h
  rw [Bool.and_eq_true, Bool.and_eq_true] at h
  have hb := boxesOk_iff.1 h.1
  refine ⟨boxesOk_srt h.1, hb.2, fun k hk => ?_, h.2.1, h.2.2⟩
  have := hb.1 k hk
  unfold bxBad at this
  cases hq : boxOk (nth_Box l k) with
  | false => exact absurd (Or.inl hq) this
  | true => rfl
end Go.Proofs.YtoigkpkafgjeaaaGreatDoor
