/-
  ReadFilter: what the program reads is what the reference reads. Plain.
-/
import Derived.Test.YtoigkpkafgjeaaaABlRL2
set_option linter.unusedSimpArgs false
set_option linter.unusedVariables false
set_option maxRecDepth 100000
namespace Go.Proofs.Ytoigkpkafgjeaaa
open Go.ChangeShapes Go.WideShapes Go.ChangeAt Go.RowKit Go.Joins Go.Deep
open GoRep (rep bulk)

theorem st_c {r : GL6In} {evs : List ByteArray} {t : List GToken} (h : St6 (rc6 r) (gpK evs (closeK :: t))) (hb : (bt6 evs (-1) 0).2 = true) : bi6 r = bt6 evs (-1) 0 ∧ St6 (sr6 r) t := by
  obtain ⟨h6, h7⟩ := at_y h
  have h8 : St6 (re6 r) t := (tk_y h6 rfl (.inr rfl)).1
  have e : bi6 r = bt6 evs (-1) 0 := by
    unfold bi6
    rw [h7]
  refine ⟨e, ⟨?_, h8.1.2⟩, h8.2⟩
  show ((re6 r).2.2 || !(bi6 r).2) = false
  rw [h8.1.1, e, hb]
  rfl
theorem st_y {r : GL6In} {w : ByteArray} {nms evs : List ByteArray} {t : List GToken} (h : St6 r (rbK w (decide (3 ≤ kd6 (upT w) 4)) nms evs t)) (hb : (bt6 evs (-1) 0).2 = true) : sc6 r = (kd6 (upT w) 4, (if decide (3 ≤ kd6 (upT w) 4) = true then nms else []), (bt6 evs (-1) 0).1) ∧ St6 (sr6 r) t := by
  have h1 := (tk_y h rfl (.inr rfl)).1
  obtain ⟨h2, h3⟩ := tk_y h1 rfl (.inl rfl)
  have hw : wd6 r = upT w := congrArg upT h3
  by_cases h4 : 3 ≤ kd6 (upT w) 4
  · rw [if_pos (decide_eq_true h4)] at h2 ⊢
    have e1 : rc6 r = at6R (rb6 r) := if_pos (by rw [hw]; exact h4)
    have e2 : nm6 r = at6T (rb6 r) := if_pos (by rw [hw]; exact h4)
    obtain ⟨h5, h6⟩ := at_y h2
    obtain ⟨h7, h8⟩ := st_c (r := r) (by rw [e1]; exact h5) hb
    refine ⟨?_, h8⟩
    unfold sc6
    rw [hw, e2, h7]
    exact congrArg (fun z => (kd6 (upT w) 4, z, (bt6 evs (-1) 0).1)) h6
  · have hd : ¬ decide (3 ≤ kd6 (upT w) 4) = true := by rw [decide_eq_true_eq]; exact h4
    rw [if_neg hd] at h2 ⊢
    have e1 : rc6 r = rb6 r := if_neg (by rw [hw]; exact h4)
    have e2 : nm6 r = [] := if_neg (by rw [hw]; exact h4)
    obtain ⟨h7, h8⟩ := st_c (r := r) (by rw [e1]; exact h2) hb
    refine ⟨?_, h8⟩
    unfold sc6
    rw [hw, e2, h7]
theorem st_n {r : GL6In} (h : ok6 r) (h1 : (sr6 r).2.2 = false) : ∃ w nms evs t, St6 r (rbK w (decide (3 ≤ kd6 (upT w) 4)) nms evs t) ∧ (bt6 evs (-1) 0).2 = true := by
  have hb : (re6 r).2.2 = false ∧ (!(bi6 r).2) = false := Bool.or_eq_false_iff.1 h1
  have hb2 : (bi6 r).2 = true := by simpa using hb.2
  obtain ⟨evs, t1, h2⟩ := at_n (rc6_ok h) (tk6_bad hb.1)
  obtain ⟨h3, h4⟩ := at_y h2
  obtain ⟨t, h5⟩ := tk_4 h3.1.2 hb.1
  have e : t1 = closeK :: t := h3.2.symm.trans h5.2
  subst e
  unfold bi6 at hb2
  rw [h4] at hb2
  have h6 : ∃ nms, St6 (rb6 r) (if decide (3 ≤ kd6 (wd6 r) 4) = true then gpK nms (gpK evs (closeK :: t)) else gpK evs (closeK :: t)) := by
    by_cases h7 : 3 ≤ kd6 (wd6 r) 4
    · have e1 : rc6 r = at6R (rb6 r) := if_pos h7
      rw [e1] at h2
      obtain ⟨nms, t2, h8⟩ := at_n (rb6_ok h) h2.1.1
      have h9 : t2 = gpK evs (closeK :: t) := (at_y h8).1.2.symm.trans h2.2
      refine ⟨nms, ?_⟩
      rw [if_pos (decide_eq_true h7), ← h9]
      exact h8
    · have e1 : rc6 r = rb6 r := if_neg h7
      rw [e1] at h2
      refine ⟨[], ?_⟩
      rw [if_neg (by rw [decide_eq_true_eq]; exact h7)]
      exact h2
  obtain ⟨nms, h7⟩ := h6
  obtain ⟨w, s, h8⟩ := tk_a (tk6_ok 3 h) h7.1.1
  obtain ⟨h9, h10⟩ := tk_y h8 rfl (.inl rfl)
  obtain ⟨s0, h11⟩ := tk_3 h h8.1.1
  have e0 : s0 = atomK w :: s := (tk_y h11 rfl (.inr rfl)).1.2.symm.trans h8.2
  have e1 : wd6 r = upT w := congrArg upT h10
  have e2 := h9.2.symm.trans h7.2
  rw [e1] at e2
  refine ⟨w, nms, evs, t, ?_, hb2⟩
  unfold rbK
  rw [← e2, ← e0]
  exact h11
/-- the tokens of this scope stand first in s, then t -/
def BlK (z : GScope) (s t : List GToken) : Prop := ∃ w nms evs, s = rbK w (decide (3 ≤ z.1)) nms evs t ∧ scopeOk z = true ∧ upT w = upT (nth_String scW (Int.toNat z.1)) ∧ (z.2.1 = if decide (3 ≤ z.1) = true then nms else []) ∧ F2 evs (evJ z.2.2)
def BlL : List GScope → List GToken → Prop
  | [], s => s = []
  | z :: zs, s => ∃ t, BlK z s t ∧ BlL zs t
theorem scope_bits {z : GScope} (h : scopeOk z = true) : 1 ≤ z.2.2 ∧ z.2.2 ≤ 15 := by
  unfold scopeOk at h
  simp only [Bool.and_eq_true, btw_iff] at h
  exact h.2.1
theorem a_step {r : GL6In} (h : ok6 r) (h1 : (sr6 r).2.2 = false) (hz : scopeOk (sc6 r) = true) : ∃ s t, St6 r s ∧ BlK (sc6 r) s t ∧ St6 (sr6 r) t := by
  obtain ⟨w, nms, evs, t, h2, h3⟩ := st_n h h1
  obtain ⟨e, h4⟩ := st_y h2 h3
  rw [e] at hz ⊢
  exact ⟨_, t, h2, ⟨w, nms, evs, rfl, hz, kd_to (scope_facts hz).1.1, rfl, evs_n h3⟩, h4⟩
theorem bad_no {r : GL6In} (h : r.2.2 = true) : rs6 r = ([], r) := rs6_no (by unfold go6; rw [h]; exact Bool.and_false _)
theorem a_loop : ∀ {n : Nat} {r : GL6In} {s : List GToken}, ms6 r ≤ n → St6 r s → (rs6 r).2.2.2 = false → ¬ (rs6 r).2.2.1 < ((r.1.length : Nat) : Int) → (∀ z ∈ (rs6 r).1, scopeOk z = true) → BlL (rs6 r).1 s
  | n, r, s, hn, h, h1, h2, h3 => by
    cases hg : go6 r with
    | false =>
      rw [rs6_no hg] at h2 ⊢
      show s = []
      rw [← h.2]
      exact List.drop_of_length_le (by have := h.1.2.1; have h2 : ¬ r.2.1 < ((r.1.length : Nat) : Int) := h2; omega)
    | true =>
      have hl := sr6_lt h.1.2 hg
      cases n with
      | zero => omega
      | succ n =>
        rw [rs6_go h.1.2 hg] at h1 h2 h3 ⊢
        cases hb : (sr6 r).2.2 with
        | true =>
          rw [bad_no hb] at h1
          have h1 : (sr6 r).2.2 = false := h1
          rw [hb] at h1
          cases h1
        | false =>
          obtain ⟨s', t, h4, h5, h6⟩ := a_step h.1.2 hb (h3 _ (List.mem_cons_self ..))
          have e : s' = s := h4.2.symm.trans h.2
          subst e
          refine ⟨t, h5, a_loop (n := n) (by omega) h6 h1 ?_ (fun z hz => h3 z (List.mem_cons_of_mem _ hz))⟩
          rw [sr6_ms.1]
          exact h2
theorem hasNm_is {k : Int} (h : 1 ≤ k ∧ k ≤ 4) : hasNm k = decide (3 ≤ k) := by
  have : ∀ n : Nat, n < 5 → hasNm ((n : Nat) : Int) = decide ((3 : Int) ≤ ((n : Nat) : Int)) := by decide
  have h1 := this (Int.toNat k) (by omega)
  rw [show ((Int.toNat k : Nat) : Int) = k by omega] at h1
  exact h1
theorem bl_scp {z : GScope} {s t : List GToken} (h : BlK z s t) : scpT (dropT 1 s) = z ∧ scpR (dropT 1 s) = t ∧ ¬ s.length = 0 := by
  obtain ⟨w, nms, evs, rfl, hz, hw, hn, he⟩ := h
  have h1 := scope_facts hz
  have h2 := scope_bits hz
  have h3 := (kd_of h1.1 hw).2
  have h4 := (evs_y (by omega) he).2
  obtain ⟨h5, h6⟩ := scp_rb (w := w) (hn := decide (3 ≤ z.1)) (nms := nms) (evs := evs) (t := t) (by rw [h3]; exact hasNm_is h1.1)
  refine ⟨?_, h6, by unfold rbK; rw [List.length_cons]; omega⟩
  rw [h5, h3, h4, ← hn]
theorem bl_scs : ∀ {zs : List GScope} {s : List GToken}, BlL zs s → scsI s = zs
  | [], s, h => by
    have h : s = [] := h
    rw [h]
    rfl
  | z :: zs, s, ⟨t, h, h2⟩ => by
    obtain ⟨h3, h4, h5⟩ := bl_scp h
    rw [scsI_cons h5, h3, h4, bl_scs h2]
/-- xs long xs each other, each two alike when folded -/
def F3 : List ByteArray → List ByteArray → Prop
  | [], [] => True
  | a :: xs, b :: ys => upT a = upT b ∧ F3 xs ys
  | _, _ => False
theorem F3_refl : ∀ ws : List ByteArray, F3 ws ws
  | [] => trivial
  | _ :: ws => ⟨rfl, F3_refl ws⟩
theorem F3_2 : ∀ {js : List Nat} {ws : List ByteArray}, F2 ws js → F3 (js.map (nth_String evW)) ws
  | [], [], _ => trivial
  | [], _ :: _, h => h.elim
  | _ :: _, [], h => h.elim
  | _ :: _, _ :: _, h => ⟨h.1.2.symm, F3_2 h.2⟩
theorem F2_3 : ∀ {js : List Nat} {ws : List ByteArray}, (∀ j ∈ js, j < 4) → F3 (js.map (nth_String evW)) ws → F2 ws js
  | [], [], _, _ => trivial
  | [], _ :: _, _, h => h.elim
  | _ :: _, [], _, h => h.elim
  | j :: _, _ :: _, h4, h => ⟨⟨h4 j (List.mem_cons_self ..), h.1.symm⟩, F2_3 (fun i hi => h4 i (List.mem_cons_of_mem _ hi)) h.2⟩
theorem fold_a {a b : ByteArray} (h : upT a = upT b) : foldB (atomK a) (atomK b) = true := by
  unfold foldB
  show (true && (eqS a b || (true && eqS (upT a) (upT b)))) = true
  rw [eqS_true.2 h]
  cases eqS a b <;> rfl
theorem fold_a' {a : ByteArray} {y : GToken} (h : foldB (atomK a) y = true) : ∃ b, y = atomK b ∧ upT a = upT b := by
  unfold foldB at h
  rw [Bool.and_eq_true, Bool.or_eq_true, Bool.and_eq_true] at h
  refine ⟨y.2, Prod.ext (eqI_true.1 h.1).symm rfl, ?_⟩
  rcases h.2 with h2 | h2
  · have h2 : a = y.2 := eqS_true.1 h2
    rw [h2]
  · exact eqS_true.1 h2.2
theorem fold_k {x y : GToken} (hx : ¬ x.1 = 1) (h : foldB x y = true) : y = x := by
  unfold foldB at h
  rw [Bool.and_eq_true, eqI_false.2 hx, Bool.false_and, Bool.or_false] at h
  exact Prod.ext (eqI_true.1 h.1).symm (eqS_true.1 h.2).symm
theorem all_cons {x : GToken} {xs s : List GToken} (h : allB foldB (x :: xs) s = true) : ∃ y ys, s = y :: ys ∧ foldB x y = true ∧ allB foldB xs ys = true := by
  cases s with
  | nil => cases h
  | cons y ys =>
    unfold allB at h
    rw [Bool.and_eq_true] at h
    exact ⟨y, ys, rfl, h.1, h.2⟩
theorem all_y {x y : GToken} {xs ys : List GToken} (h : foldB x y = true) (h2 : allB foldB xs ys = true) : allB foldB (x :: xs) (y :: ys) = true := by
  unfold allB
  rw [h, h2]
  rfl
theorem at1_y : ∀ {a b : List ByteArray} {t t' : List GToken}, F3 a b → allB foldB t t' = true → allB foldB (at1 a ++ closeK :: t) (at1 b ++ closeK :: t') = true
  | [], [], _, _, _, h => all_y (by decide) h
  | [], _ :: _, _, _, h, _ => h.elim
  | _ :: _, [], _, _, h, _ => h.elim
  | _ :: _, _ :: _, _, _, h, h2 => all_y (fold_a h.1) (at1_y h.2 h2)
theorem at1_f : ∀ {a : List ByteArray} {t s : List GToken}, allB foldB (at1 a ++ closeK :: t) s = true → ∃ b t', s = at1 b ++ closeK :: t' ∧ F3 a b ∧ allB foldB t t' = true
  | [], t, s, h => by
    obtain ⟨y, ys, e, h1, h2⟩ := all_cons (x := closeK) (xs := t) h
    exact ⟨[], ys, by rw [e, fold_k (by decide) h1]; rfl, trivial, h2⟩
  | a :: xs, t, s, h => by
    obtain ⟨y, ys, e, h1, h2⟩ := all_cons (x := atomK a) (xs := at1 xs ++ closeK :: t) h
    obtain ⟨b, e2, h3⟩ := fold_a' h1
    obtain ⟨bs, t', e3, h4, h5⟩ := at1_f h2
    exact ⟨b :: bs, t', by rw [e, e2, e3]; rfl, ⟨h3, h4⟩, h5⟩
theorem gp_y {a b : List ByteArray} {t t' : List GToken} (h : F3 a b) (h2 : allB foldB t t' = true) : allB foldB (gpK a t) (gpK b t') = true := all_y (by decide) (at1_y h h2)
theorem gp_f {a : List ByteArray} {t s : List GToken} (h : allB foldB (gpK a t) s = true) : ∃ b t', s = gpK b t' ∧ F3 a b ∧ allB foldB t t' = true := by
  obtain ⟨y, ys, e, h1, h2⟩ := all_cons h
  obtain ⟨b, t', e2, h3, h4⟩ := at1_f h2
  exact ⟨b, t', by rw [e, e2, fold_k (by decide) h1]; rfl, h3, h4⟩
theorem rb_y {w w' : ByteArray} {hn : Bool} {a a' b b' : List ByteArray} {t t' : List GToken} (hw : upT w = upT w') (ha : hn = true → F3 a a') (hb : F3 b b') (h : allB foldB t t' = true) : allB foldB (rbK w hn a b t) (rbK w' hn a' b' t') = true := by
  have h1 : allB foldB (gpK b (closeK :: t)) (gpK b' (closeK :: t')) = true := gp_y hb (all_y (by decide) h)
  refine all_y (by decide) (all_y (fold_a hw) ?_)
  cases hn with
  | true => exact gp_y (ha rfl) h1
  | false => exact h1
theorem rb_f {w : ByteArray} {hn : Bool} {a b : List ByteArray} {t s : List GToken} (h : allB foldB (rbK w hn a b t) s = true) : ∃ w' a' b' t', s = rbK w' hn a' b' t' ∧ upT w = upT w' ∧ F3 b b' ∧ allB foldB t t' = true := by
  have hg : ∀ {s : List GToken}, allB foldB (gpK b (closeK :: t)) s = true → ∃ b' t', s = gpK b' (closeK :: t') ∧ F3 b b' ∧ allB foldB t t' = true := fun h => by
    obtain ⟨b', t1, e, h1, h2⟩ := gp_f h
    obtain ⟨y, t', e2, h3, h4⟩ := all_cons h2
    exact ⟨b', t', by rw [e, e2, fold_k (by decide) h3], h1, h4⟩
  obtain ⟨y1, s1, e1, h1, h2⟩ := all_cons h
  obtain ⟨y2, s2, e2, h3, h4⟩ := all_cons h2
  obtain ⟨w', e3, h5⟩ := fold_a' h3
  cases hn with
  | true =>
    obtain ⟨a', t1, e4, _, h6⟩ := gp_f (show allB foldB (gpK a (gpK b (closeK :: t))) s2 = true from h4)
    obtain ⟨b', t', e5, h7, h8⟩ := hg h6
    exact ⟨w', a', b', t', by rw [e1, e2, e3, fold_k (by decide) h1, e4, e5]; rfl, h5, h7, h8⟩
  | false =>
    obtain ⟨b', t', e5, h7, h8⟩ := hg (show allB foldB (gpK b (closeK :: t)) s2 = true from h4)
    exact ⟨w', [], b', t', by rw [e1, e2, e3, fold_k (by decide) h1, e5]; rfl, h5, h7, h8⟩
theorem atoms_1 (ws : List ByteArray) : ∀ k, k ≤ ws.length → atomsN ws k = at1 (ws.take k)
  | 0, _ => rfl
  | k + 1, h => by
    have h1 : ws[k]? = some (nth_String ws k) := nth_getElem? (t := tyStr) h
    unfold atomsN
    rw [atoms_1 ws k (by omega), List.take_add_one, h1]
    unfold at1
    rw [List.map_append]
    rfl
theorem scTok_rb (z : GScope) (t : List GToken) : scTok z ++ t = rbK (nth_String scW (Int.toNat z.1)) (decide (3 ≤ z.1)) z.2.1 ((evJ z.2.2).map (nth_String evW)) t := by
  unfold scTok nmTok
  rw [evN_J, atoms_1 _ _ (Nat.le_refl _), List.take_length]
  by_cases h : 3 ≤ z.1
  · rw [if_pos h, decide_eq_true h]
    unfold rbK gpK
    rw [if_pos rfl]
    simp only [List.append_assoc, List.cons_append, List.nil_append]
  · rw [if_neg h, decide_eq_false h]
    unfold rbK gpK
    rw [if_neg (by decide)]
    simp only [List.append_assoc, List.cons_append, List.nil_append]
def catK : List GScope → List GToken
  | [] => []
  | z :: zs => scTok z ++ catK zs
theorem cat_app : ∀ (a b : List GScope), catK (a ++ b) = catK a ++ catK b
  | [], b => rfl
  | z :: a, b => by
    show scTok z ++ catK (a ++ b) = (scTok z ++ catK a) ++ catK b
    rw [cat_app a b, List.append_assoc]
theorem scs_cat (l : List GScope) : ∀ k, k ≤ l.length → scsN l k = atomK (⟨#[115, 101, 116]⟩ : ByteArray) :: catK (l.take k)
  | 0, _ => rfl
  | k + 1, h => by
    have h1 : l[k]? = some (nth_Scope l k) := nth_getElem? (t := tyScope) h
    unfold scsN
    rw [scs_cat l k (by omega), List.take_add_one, h1, cat_app]
    show _ = _ :: (_ ++ (scTok (nth_Scope l k) ++ []))
    rw [List.append_nil]
    rfl
theorem f_loop : ∀ {zs : List GScope} {s : List GToken}, BlL zs s → allB foldB (catK zs) s = true
  | [], s, h => by
    have h : s = [] := h
    rw [h]
    rfl
  | z :: zs, s, ⟨t, ⟨w, nms, evs, e, hz, hw, hn, he⟩, h2⟩ => by
    show allB foldB (scTok z ++ catK zs) s = true
    rw [scTok_rb, e]
    refine rb_y hw.symm (fun hd => ?_) (F3_2 he) (f_loop h2)
    rw [hn, if_pos hd]
    exact F3_refl _
theorem evJ_lt {b : Int} : ∀ j ∈ evJ b, j < 4 := fun j h => by
  have h1 := (List.mem_filter.1 h).1
  simp only [List.mem_cons, List.not_mem_nil, or_false] at h1
  omega
theorem b_fold : ∀ {zs : List GScope} {s : List GToken}, allB foldB (catK zs) s = true → scsI s = zs → (∀ z ∈ zs, scopeOk z = true) → BlL zs s
  | [], s, h, _, _ => by
    cases s with
    | nil => rfl
    | cons y ys => cases h
  | z :: zs, s, h, h1, h2 => by
    have h : allB foldB (scTok z ++ catK zs) s = true := h
    rw [scTok_rb] at h
    obtain ⟨w, nms, evs, t, e, hw, he, ht⟩ := rb_f h
    have hz := h2 z (List.mem_cons_self ..)
    have h3 := scope_facts hz
    have h4 := (kd_of h3.1 hw.symm).2
    obtain ⟨h5, h6⟩ := scp_rb (w := w) (hn := decide (3 ≤ z.1)) (nms := nms) (evs := evs) (t := t) (by rw [h4]; exact hasNm_is h3.1)
    rw [scsI_cons (by rw [e]; unfold rbK; rw [List.length_cons]; omega), e, h5, h6] at h1
    injection h1 with h7 h8
    have h9 := congrArg (fun z : GScope => z.2.1) h7
    exact ⟨t, ⟨w, nms, evs, e, hz, hw.symm, h9.symm, F2_3 evJ_lt he⟩, b_fold ht h8 (fun z hz => h2 z (List.mem_cons_of_mem _ hz))⟩
theorem b_loop : ∀ {zs : List GScope} {r : GL6In} {s : List GToken}, BlL zs s → St6 r s → (rs6 r).1 = zs ∧ (rs6 r).2.2.2 = false ∧ ¬ (rs6 r).2.2.1 < ((r.1.length : Nat) : Int)
  | [], r, s, h, hs => by
    have h : s = [] := h
    have h1 := congrArg List.length (hs.2.trans h)
    rw [dropT_len, List.length_nil] at h1
    have h2 := hs.1.2.1
    have h3 : ¬ r.2.1 < ((r.1.length : Nat) : Int) := by omega
    rw [rs6_no (by unfold go6; rw [ltI_false.2 h3]; rfl)]
    exact ⟨rfl, hs.1.1, h3⟩
  | z :: zs, r, s, ⟨t, ⟨w, nms, evs, e, hz, hw, hn, he⟩, h2⟩, hs => by
    have h3 := scope_facts hz
    have h4 := scope_bits hz
    have h5 := (kd_of h3.1 hw).1
    have h6 := (evs_y (by omega) he).1
    have hl := (dropT_at (hs.2.trans e)).1
    have ho := hs.1.2.1
    have hg : go6 r = true := by
      unfold go6
      rw [hs.1.1, ltI_true.2 (by omega)]
      rfl
    obtain ⟨e1, h7⟩ := st_y (r := r) (w := w) (nms := nms) (evs := evs) (t := t) (by rw [h5, ← e]; exact hs) (by rw [h6])
    rw [h5, h6, ← hn] at e1
    obtain ⟨i1, i2, i3⟩ := b_loop h2 h7
    rw [rs6_go hs.1.2 hg]
    refine ⟨?_, i2, ?_⟩
    · show sc6 r :: (rs6 (sr6 r)).1 = z :: zs
      rw [i1, e1]
    · rw [sr6_ms.1] at i3
      exact i3
end Go.Proofs.Ytoigkpkafgjeaaa
