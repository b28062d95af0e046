/-
  ReadFilter: what the program reads is what the reference reads. Plain.
-/
import Derived.Test.YtoigkpkafgjeaaaABlRL3
set_option linter.unusedSimpArgs false
set_option linter.unusedVariables false
set_option maxRecDepth 100000
namespace Go.Proofs.Ytoigkpkafgjeaaa
open Go.ChangeShapes Go.WideShapes Go.ChangeAt Go.RowKit Go.Joins Go.Deep
open GoRep (rep bulk)

theorem st_0 {l : List GToken} (hp : l.length ≤ 1048576) : St6 (l, 0, false) l := ⟨⟨rfl, ok60 hp⟩, rfl⟩
theorem on_at {w : ByteArray} {s : List GToken} (hp : (atomK w :: s).length ≤ 1048576) : w60 (atomK w :: s) = upT w ∧ St6 (r60 (atomK w :: s)) s := by
  obtain ⟨h1, h2⟩ := tk_y (st_0 hp) rfl (.inl rfl)
  exact ⟨congrArg upT h2, h1⟩
theorem rdOn_at {w : ByteArray} {s : List GToken} : rdOn (atomK w :: s) = eqS (upT w) (⟨#[83, 69, 84]⟩ : ByteArray) := rfl
theorem up_set : upT (⟨#[115, 101, 116]⟩ : ByteArray) = (⟨#[83, 69, 84]⟩ : ByteArray) := by decide +kernel
theorem up_none : upT (⟨#[110, 111, 110, 101]⟩ : ByteArray) = (⟨#[78, 79, 78, 69]⟩ : ByteArray) := by decide +kernel
theorem filt_on {zs : List GScope} (h : filterOk (true, zs) = true) : filTok (true, zs) = atomK (⟨#[115, 101, 116]⟩ : ByteArray) :: catK zs := by
  unfold filTok
  rw [if_neg (by rw [h]; decide)]
  show (if true = false then _ else _) = _
  rw [if_neg (by decide)]
  show scsN zs zs.length = _
  rw [scs_cat zs _ (Nat.le_refl _), List.take_length]
theorem filt_off {zs : List GScope} (h : filterOk (false, zs) = true) : filTok (false, zs) = [atomK (⟨#[110, 111, 110, 101]⟩ : ByteArray)] := by
  unfold filTok
  rw [if_neg (by rw [h]; decide), if_pos rfl]
theorem ok_all {zs : List GScope} (h : filterOk (true, zs) = true) : ∀ z ∈ zs, scopeOk z = true := fun z hz => by
  unfold filterOk at h
  rw [if_pos rfl, Bool.and_eq_true] at h
  have h2 : List.any zs (fun z0 : GScope => !scopeOk z0) = false := by simpa using h.2
  simpa using List.any_eq_false.1 h2 z hz
theorem rd_A {l : List GToken} (hp : l.length ≤ 1048576) (h : ok6B l = true) : rdB l = true ∧ rdF l = f6 l := by
  unfold ok6B at h
  rw [Bool.and_eq_true, Bool.and_eq_true, Bool.and_eq_true, Bool.or_eq_true, Bool.not_eq_true', Bool.not_eq_true'] at h
  obtain ⟨h0, h1, h2, h3⟩ := h
  have h2 := ltI_false.1 h2
  have hb : (r60 l).2.2 = false := by
    cases hb : (r60 l).2.2 with
    | false => rfl
    | true =>
      unfold res6 at h1
      rw [bad_no hb] at h1
      split at h1
      · exact hb.symm.trans h1
      · exact hb.symm.trans h1
  obtain ⟨w, s, h4⟩ := tk_a (ok60 hp) hb
  have e : l = atomK w :: s := h4.2
  subst e
  obtain ⟨h5, h6⟩ := on_at hp
  unfold f6 at h3 ⊢
  unfold rdF rdB
  unfold rdF
  rw [rdOn_at]
  cases ho : on6 (atomK w :: s) with
  | true =>
    have hw : upT w = (⟨#[83, 69, 84]⟩ : ByteArray) := h5.symm.trans (eqS_true.1 ho)
    have er : res6 (atomK w :: s) = rs6 (r60 (atomK w :: s)) := if_pos ho
    rw [ho] at h3
    rw [er] at h1 h2 h3
    have e1 : (r60 (atomK w :: s)).1 = atomK w :: s := tk6_fst _ _
    have h7 := a_loop (Nat.le_refl _) h6 h1 (by rw [e1]; exact h2) (ok_all h3)
    have h8 := bl_scs h7
    have e2 : dropT 1 (atomK w :: s) = s := rfl
    rw [er, eqS_true.2 hw, if_pos rfl, e2, h8, filt_on h3]
    refine ⟨?_, rfl⟩
    rw [Bool.and_eq_true]
    exact ⟨neI_true.2 (by rw [List.length_cons]; omega), all_y (fold_a (up_set.trans hw.symm)) (f_loop h7)⟩
  | false =>
    have er : res6 (atomK w :: s) = ([], r60 (atomK w :: s)) := if_neg (by rw [ho]; decide)
    rw [ho] at h0 h3
    rw [er] at h1 h2 h3
    have hw : upT w = (⟨#[78, 79, 78, 69]⟩ : ByteArray) := h5.symm.trans (eqS_true.1 (h0.resolve_left (by decide)))
    have h7 : eqS (upT w) (⟨#[83, 69, 84]⟩ : ByteArray) = false := by
      rw [← h5]
      exact ho
    have e1 : (r60 (atomK w :: s)).1 = atomK w :: s := tk6_fst _ _
    have h8 : s = [] := by
      rw [← h6.2]
      refine List.drop_of_length_le ?_
      rw [e1]
      have := h6.1.2.1
      have h2 : ¬ (r60 (atomK w :: s)).2.1 < (((atomK w :: s).length : Nat) : Int) := h2
      omega
    subst h8
    rw [er, h7, if_neg (by decide), filt_off h3]
    refine ⟨?_, rfl⟩
    rw [Bool.and_eq_true]
    exact ⟨by decide, all_y (fold_a (up_none.trans hw.symm)) rfl⟩
theorem rd_B {l : List GToken} (hp : l.length ≤ 1048576) (h : rdB l = true) : ok6B l = true := by
  unfold rdB at h
  rw [Bool.and_eq_true] at h
  have hf : filterOk (rdF l) = true := by
    cases hf : filterOk (rdF l) with
    | true => rfl
    | false =>
      have e : filTok (rdF l) = [] := if_pos hf
      rw [e] at h
      cases h.1
  have h := h.2
  unfold ok6B f6
  cases ho : rdOn l with
  | true =>
    have e : rdF l = (true, scsI (dropT 1 l)) := by
      unfold rdF
      rw [ho, if_pos rfl]
    rw [e] at h hf
    rw [filt_on hf] at h
    obtain ⟨y, s, e1, h1, h2⟩ := all_cons h
    obtain ⟨w, e2, h3⟩ := fold_a' h1
    subst e2
    subst e1
    have hw : upT w = (⟨#[83, 69, 84]⟩ : ByteArray) := h3.symm.trans up_set
    obtain ⟨h5, h6⟩ := on_at hp
    have hon : on6 (atomK w :: s) = true := eqS_true.2 (h5.trans hw)
    have er : res6 (atomK w :: s) = rs6 (r60 (atomK w :: s)) := if_pos hon
    have e1 : (r60 (atomK w :: s)).1 = atomK w :: s := tk6_fst _ _
    have e2 : dropT 1 (atomK w :: s) = s := rfl
    rw [e2] at h2 hf
    obtain ⟨i1, i2, i3⟩ := b_loop (b_fold h2 rfl (ok_all hf)) h6
    rw [e1] at i3
    rw [er, hon, i1, i2, hf, ltI_false.2 i3]
    rfl
  | false =>
    have e : rdF l = (false, []) := by
      unfold rdF
      rw [ho, if_neg (by decide)]
    rw [e] at h hf
    rw [filt_off hf] at h
    obtain ⟨y, s, e1, h1, h2⟩ := all_cons h
    obtain ⟨w, e2, h3⟩ := fold_a' h1
    subst e2
    subst e1
    cases s with
    | cons y ys => cases h2
    | nil =>
      have hw : upT w = (⟨#[78, 79, 78, 69]⟩ : ByteArray) := h3.symm.trans up_none
      obtain ⟨h5, h6⟩ := on_at hp
      have hon : on6 [atomK w] = false := by
        have : on6 [atomK w] = eqS (w60 [atomK w]) (⟨#[83, 69, 84]⟩ : ByteArray) := rfl
        rw [this, h5]
        exact ho
      have er : res6 [atomK w] = ([], r60 [atomK w]) := if_neg (by rw [hon]; decide)
      have e1 : (r60 [atomK w]).1 = [atomK w] := tk6_fst _ _
      have h7 := congrArg List.length h6.2
      rw [dropT_len, e1] at h7
      have h8 : [atomK w].length = 1 := rfl
      have h9 : ([] : List GToken).length = 0 := rfl
      have h10 : ¬ (r60 [atomK w]).2.1 < (([atomK w].length : Nat) : Int) := by omega
      have hn : eqS (w60 [atomK w]) (⟨#[78, 79, 78, 69]⟩ : ByteArray) = true := eqS_true.2 (h5.trans hw)
      rw [er, hon, hn]
      show (true && (!(r60 [atomK w]).2.2 && (!ltI (r60 [atomK w]).2.1 (([atomK w].length : Nat) : Int) && filterOk (false, [])))) = true
      rw [h6.1.1, ltI_false.2 h10, hf]
      rfl
/-- both readers answer the same -/
theorem rd_same {l : List GToken} (hp : l.length ≤ 1048576) : rdI l = rdS l ∧ rdB l = ok6B l := by
  cases h : ok6B l with
  | true =>
    obtain ⟨h1, h2⟩ := rd_A hp h
    exact ⟨((if_pos h1).trans h2).trans (if_pos h).symm, h1⟩
  | false =>
    have h1 : rdB l = false := by
      cases h1 : rdB l with
      | false => rfl
      | true =>
        rw [rd_B hp h1] at h
        cases h
    exact ⟨(rd_i h1).trans (q_rd h).symm, h1⟩
end Go.Proofs.Ytoigkpkafgjeaaa
