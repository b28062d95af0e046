/-
  A scope's tokens: what both readers make of them. Plain.
-/
import Derived.Test.YtoigkpkafgjeaaaABlRL1
set_option linter.unusedSimpArgs false
set_option linter.unusedVariables false
set_option maxRecDepth 100000
namespace Go.Proofs.Ytoigkpkafgjeaaa
open Go.ChangeShapes Go.WideShapes Go.ChangeAt Go.RowKit Go.Joins Go.Deep
open GoRep (rep bulk)

theorem at1_n : ∀ (ws : List ByteArray) (t : List GToken), atN (at1 ws ++ closeK :: t) = ws.length
  | [], t => rfl
  | w :: ws, t => by
    have h := at1_n ws t
    unfold atN at h ⊢
    show ((atomK w :: (at1 ws ++ closeK :: t)).takeWhile isAt).length = _
    rw [List.takeWhile_cons_of_pos rfl, List.length_cons, h]
    rfl
theorem at1_len (ws : List ByteArray) : (at1 ws).length = ws.length := List.length_map _
theorem at1_t (ws : List ByteArray) (t : List GToken) : txN (at1 ws ++ t) ws.length = ws := by
  unfold txN
  rw [← at1_len ws, List.take_left]
  unfold at1
  rw [List.map_map]
  exact List.map_id _
theorem at1_d (ws : List ByteArray) (t : List GToken) : (at1 ws ++ t).drop ws.length = t := by
  rw [← at1_len ws]
  exact List.drop_left
/-- atoms between parentheses, then t -/
def gpK (ws : List ByteArray) (t : List GToken) : List GToken := openK :: (at1 ws ++ closeK :: t)
theorem grp_t (ws : List ByteArray) (t : List GToken) : grpT (gpK ws t) = ws := by
  show txN (at1 ws ++ closeK :: t) (atN (at1 ws ++ closeK :: t)) = ws
  rw [at1_n, at1_t]
theorem grp_r (ws : List ByteArray) (t : List GToken) : grpR (gpK ws t) = t := by
  show (gpK ws t).drop (1 + atN (at1 ws ++ closeK :: t) + 1) = t
  rw [at1_n, show 1 + ws.length + 1 = (ws.length + 1) + 1 by omega]
  show (at1 ws ++ closeK :: t).drop (ws.length + 1) = t
  rw [← List.drop_drop, at1_d]
  rfl
def rbK (w : ByteArray) (hn : Bool) (nms evs : List ByteArray) (t : List GToken) : List GToken := openK :: atomK w :: (if hn = true then gpK nms (gpK evs (closeK :: t)) else gpK evs (closeK :: t))
theorem scp_rb {w : ByteArray} {hn : Bool} {nms evs : List ByteArray} {t : List GToken} (h : hasNm (wIx scW w) = hn) : scpT (dropT 1 (rbK w hn nms evs t)) = (wIx scW w, if hn = true then nms else [], (boI evW evs 0).1) ∧ scpR (dropT 1 (rbK w hn nms evs t)) = t := by
  cases hn with
  | true =>
    have e : dropT 1 (rbK w true nms evs t) = atomK w :: gpK nms (gpK evs (closeK :: t)) := rfl
    have hk : hasNm (scpK (atomK w :: gpK nms (gpK evs (closeK :: t)))) = true := h
    have e2 : dropT 1 (atomK w :: gpK nms (gpK evs (closeK :: t))) = gpK nms (gpK evs (closeK :: t)) := rfl
    rw [e, scpT_y hk, scpR_y hk, e2, grp_t, grp_r, grp_t, grp_r]
    exact ⟨rfl, rfl⟩
  | false =>
    have e : dropT 1 (rbK w false nms evs t) = atomK w :: gpK evs (closeK :: t) := rfl
    have hk : hasNm (scpK (atomK w :: gpK evs (closeK :: t))) = false := h
    have e2 : dropT 1 (atomK w :: gpK evs (closeK :: t)) = gpK evs (closeK :: t) := rfl
    rw [e, scpT_n hk, scpR_n hk, e2, grp_t, grp_r]
    exact ⟨rfl, rfl⟩
/-- not failed yet, and these tokens are still to read -/
def St6 (r : GL6In) (s : List GToken) : Prop := (r.2.2 = false ∧ ok6 r) ∧ dropT (Int.toNat r.2.1) r.1 = s
theorem dropT_at {l s : List GToken} {n : Nat} {t : GToken} (h : dropT n l = t :: s) : n < l.length ∧ nth_Token l n = t ∧ dropT (n + 1) l = s := by
  unfold dropT at h ⊢
  have h1 : n < l.length := by
    have := congrArg List.length h
    rw [List.length_drop, List.length_cons] at this
    omega
  refine ⟨h1, ?_, ?_⟩
  · rw [← tkT_at h1, h]
    rfl
  · rw [← List.drop_drop, h]
    rfl
theorem tk_y {r : GL6In} {t : GToken} {s : List GToken} {k : Int} (h : St6 r (t :: s)) (h1 : t.1 = k) (h2 : k = 1 ∨ t.2 = (⟨#[]⟩ : ByteArray)) : St6 (tk6R r k) s ∧ tk6T r k = t.2 := by
  obtain ⟨hl, ht, hd⟩ := dropT_at h.2
  have ho := h.1.2.1
  have hy : tk6Y r k = true := t6_y (by omega) (by rw [ht]; exact h1) (by rw [ht]; exact h2)
  refine ⟨⟨⟨?_, tk6_ok k h.1.2⟩, ?_⟩, ?_⟩
  · rw [t6_r hy]
    exact h.1.1
  · rw [t6_r hy]
    show dropT (Int.toNat (r.2.1 + 1)) r.1 = s
    rw [show Int.toNat (r.2.1 + 1) = Int.toNat r.2.1 + 1 by omega]
    exact hd
  · rw [← t6_t hy, ht]
theorem tk_n {r : GL6In} {k : Int} (h : ok6 r) (h1 : (tk6R r k).2.2 = false) : ∃ t s, St6 r (t :: s) ∧ t.1 = k ∧ (k = 1 ∨ t.2 = (⟨#[]⟩ : ByteArray)) := by
  cases hy : tk6Y r k with
  | false =>
    rw [t6_s hy] at h1
    cases h1
  | true =>
    rw [t6_r hy] at h1
    unfold tk6Y at hy
    rw [Bool.and_eq_true, Bool.and_eq_true, Bool.or_eq_true] at hy
    have hl := ltI_true.1 hy.1
    have ho := h.1
    have hn : Int.toNat r.2.1 < r.1.length := by omega
    have h2 : r.1[Int.toNat r.2.1]? = some (nth_Token r.1 (Int.toNat r.2.1)) := nth_getElem? (t := tyToken) hn
    obtain ⟨_, e⟩ := List.getElem?_eq_some_iff.1 h2
    refine ⟨nth_Token r.1 (Int.toNat r.2.1), r.1.drop (Int.toNat r.2.1 + 1), ⟨⟨h1, h⟩, ?_⟩, eqI_true.1 hy.2.1, hy.2.2.imp eqI_true.1 eqS_true.1⟩
    rw [← e]
    exact List.drop_eq_getElem_cons hn
theorem tk_a {r : GL6In} (h : ok6 r) (h1 : (tk6R r 1).2.2 = false) : ∃ w s, St6 r (atomK w :: s) := by
  obtain ⟨t, s, h2, h3, _⟩ := tk_n h h1
  refine ⟨t.2, s, ?_⟩
  have : t = atomK t.2 := Prod.ext h3 rfl
  rw [← this]
  exact h2
theorem tk_3 {r : GL6In} (h : ok6 r) (h1 : (tk6R r 3).2.2 = false) : ∃ s, St6 r (openK :: s) := by
  obtain ⟨t, s, h2, h3, h4⟩ := tk_n h h1
  refine ⟨s, ?_⟩
  have : t = openK := Prod.ext h3 (h4.resolve_left (by decide))
  rw [← this]
  exact h2
theorem tk_4 {r : GL6In} (h : ok6 r) (h1 : (tk6R r 4).2.2 = false) : ∃ s, St6 r (closeK :: s) := by
  obtain ⟨t, s, h2, h3, h4⟩ := tk_n h h1
  refine ⟨s, ?_⟩
  have : t = closeK := Prod.ext h3 (h4.resolve_left (by decide))
  rw [← this]
  exact h2
theorem am_st {r : GL6In} {s : List GToken} {n : Nat} (h : St6 (tk6R r 3) s) (hn : n ≤ s.length) : St6 (am6 r n) (s.drop n) := by
  have h1 := h.1.2.1
  have h2 : s.length = (tk6R r 3).1.length - Int.toNat (tk6R r 3).2.1 := by rw [← h.2, dropT_len]
  refine ⟨⟨h.1.1, ⟨?_, ?_⟩, h.1.2.2⟩, ?_⟩
  · show 0 ≤ (tk6R r 3).2.1 + ((n : Nat) : Int)
    omega
  · show (tk6R r 3).2.1 + ((n : Nat) : Int) ≤ (((tk6R r 3).1.length : Nat) : Int)
    omega
  · show (tk6R r 3).1.drop (Int.toNat ((tk6R r 3).2.1 + ((n : Nat) : Int))) = _
    rw [show Int.toNat ((tk6R r 3).2.1 + ((n : Nat) : Int)) = Int.toNat (tk6R r 3).2.1 + n by omega, ← List.drop_drop]
    exact congrArg (List.drop n) h.2
theorem at_y {r : GL6In} {ws : List ByteArray} {t : List GToken} (h : St6 r (gpK ws t)) : St6 (at6R r) t ∧ at6T r = ws := by
  have h1 := (tk_y h rfl (.inr rfl)).1
  have e : ag6 r = at1 ws ++ closeK :: t := h1.2
  have h2 := am_st (n := ws.length) h1 (by rw [List.length_append, at1_len]; omega)
  rw [at1_d] at h2
  have h3 := (tk_y h2 rfl (.inr rfl)).1
  unfold at6R at6T
  rw [e, at1_n, at1_t]
  exact ⟨h3, rfl⟩
theorem take_at : ∀ (l : List GToken), l = at1 (txN l (atN l)) ++ l.drop (atN l)
  | [] => rfl
  | t :: l => by
    by_cases h : t.1 = 1
    · have e : atN (t :: l) = atN l + 1 := by
        unfold atN
        rw [List.takeWhile_cons_of_pos (by unfold isAt; rw [decide_eq_true_eq]; exact h), List.length_cons]
      rw [e]
      show t :: l = (1, t.2) :: (at1 (txN l (atN l)) ++ l.drop (atN l))
      rw [← take_at l, ← h]
    · have e : atN (t :: l) = 0 := by
        unfold atN
        rw [List.takeWhile_cons_of_neg (by unfold isAt; rw [decide_eq_true_eq]; exact h)]
        rfl
      rw [e]
      rfl
theorem tk6_bad {r : GL6In} {k : Int} (h : (tk6R r k).2.2 = false) : r.2.2 = false := by
  cases hb : r.2.2 with
  | false => rfl
  | true =>
    have := (tk6_ms r k).2.2.2 hb
    rw [h] at this
    cases this
theorem at_n {r : GL6In} (h : ok6 r) (h1 : (at6R r).2.2 = false) : ∃ ws t, St6 r (gpK ws t) := by
  have h0 : (am6 r (atN (ag6 r))).2.2 = false := tk6_bad h1
  obtain ⟨s, h2⟩ := tk_3 h h0
  have h3 := (tk_y h2 rfl (.inr rfl)).1
  have e : ag6 r = s := h3.2
  have h4 := am_st (n := atN s) h3 (atN_le s)
  unfold at6R at h1
  rw [e] at h1
  obtain ⟨t, h5⟩ := tk_4 h4.1.2 h1
  have h6 : closeK :: t = s.drop (atN s) := h5.2.symm.trans h4.2
  refine ⟨txN s (atN s), t, ?_⟩
  unfold gpK
  rw [h6, ← take_at s]
  exact h2
end Go.Proofs.Ytoigkpkafgjeaaa
