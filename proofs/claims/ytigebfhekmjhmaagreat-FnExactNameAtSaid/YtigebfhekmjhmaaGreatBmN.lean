/-
  What well-formed arguments give, and a contract out of a function's condition.
  Plain: no program. No condition.
-/
import Derived.Test.YtigebfhekmjhmaaGreatBmM
import Derived.Test.YtigebfhekmjhmaaGreatTypes
set_option linter.unusedSimpArgs false
set_option linter.unusedVariables false
namespace Go.Proofs.YtigebfhekmjhmaaGreat
open Go.ChangeShapes Go.WideShapes Go.ChangeAt Go.RowKit Go.Joins Go.Deep
open GoRep (rep bulk)

def AllL {α : Type} (p : α → Prop) (l : List α) : Prop := ∀ x ∈ l, p x
def WfT : (t : Ty) → t.den → Prop
  | .int k, x => (Lit.int k x).wf = true
  | .bool, _ => True
  | .str, s => ByteArray.size s ≤ maxLen
  | .opq, _ => True
  | .prod a b, x => WfT a x.1 ∧ WfT b x.2
  | .list a, xs => List.length (α := a.den) xs ≤ maxLen ∧ AllL (α := a.den) (WfT a) xs
def WfC : AC → Prop
  | .int k x => (Lit.int k x).wf = true
  | .str s => s.size ≤ maxLen
  | .hs .no t xs => xs.length ≤ maxLen ∧ AllL (WfT t) xs
  | .ep .no t xs _ _ => AllL (WfT t) xs
  | _ => True
def WfL : List AC → Prop
  | [] => True
  | c :: l => WfC c ∧ WfL l
def WfW : AW → Prop
  | .c a => WfC a
  | .ag l => WfL l
def WfA : List AW → Prop
  | [] => True
  | x :: l => WfW x ∧ WfA l
theorem row_wf {α : Type} [GoRep α] {W : World} {p : α → Prop} (hp : ∀ x cs F, rep W x cs F → p x) {b : Nat} : ∀ {xs : List α} {off : Nat} {G : List Nat}, RowRep W b off xs G → ∀ x ∈ xs, p x
  | [], _, _, _, x, hx => by simp at hx
  | y :: xs, _, _, ⟨cs, G1, G2, h1, _, h3, _⟩, x, hx => by
    rcases List.mem_cons.1 hx with rfl | hx
    · exact hp _ _ _ h1
    · exact row_wf hp h3 x hx
theorem rep_wf {W : World} : ∀ (t : Ty) {x : t.den} {cs : List Value} {F : List Nat}, rep W x cs F → WfT t x
  | .int _, _, _, _, h => h.2.1
  | .bool, _, _, _, _ => trivial
  | .str, _, _, _, h => h.2.1
  | .opq, _, _, _, _ => trivial
  | .prod a b, _, _, _, ⟨_, _, _, _, h1, h2, _, _⟩ => ⟨rep_wf a h1, rep_wf b h2⟩
  | .list a, xs, _, _, ⟨A, c, _, h1, h2, h3⟩ => by
    refine ⟨Nat.le_trans h1 h2, fun x hx => ?_⟩
    rcases h3 with ⟨rfl, _⟩ | ⟨_, b, off, G, _, _, hr⟩
    · simp at hx
    · exact row_wf (fun x cs F h => rep_wf a h) hr x hx
section
variable {P : Program} {X : List Nat} {W : World} {E : Env} {M : Mem}
theorem repC_wf : ∀ {c : AC} {v : Value}, RepC X W E M c v → WfC c
  | .int _ _, _, h => h.2
  | .bool _, _, _ => trivial
  | .str _, _, h => h.2
  | .opq _, _, _ => trivial
  | .hs .no t xs, v, ⟨_, F, h, _⟩ => rep_wf (.list t) h
  | .hs (.at _ _ _) _ _, _, _ => trivial
  | .bp _ _, _, _ => trivial
  | .ep .no t xs k o, v, ⟨_, F, ⟨b, off, G, _, _, _, h⟩, _⟩ => fun x hx => row_wf (fun x cs F h => rep_wf t h) h x hx
  | .ep (.at _ _ _) _ _ _ _, _, _ => trivial
  | .row _ _, _, _ => trivial
  | .rp _ _ _ _ _, _, _ => trivial
  | .sl _ _ _ _ _ _, _, _ => trivial
  | .sp _ _ _ _ _ _ _ _ _, _, _ => trivial
  | .tl _ _ _ _, _, _ => trivial
  | .junk, _, _ => trivial
  | .fn _ _, _, _ => trivial
  | .raw _, _, _ => trivial
theorem repL_wf : ∀ {l : List AC} {vs : List Value}, RepL X W E M l vs → WfL l
  | [], _, _ => trivial
  | _ :: _, _, ⟨_, _, _, h1, h2⟩ => ⟨repC_wf h1, repL_wf h2⟩
theorem repWs_wf : ∀ {l : List AW} {vs : List Value}, RepWs X W E M l vs → WfA l
  | [], _, _ => trivial
  | .c _ :: _, _, ⟨_, _, _, h1, h2⟩ => ⟨repC_wf h1, repWs_wf h2⟩
  | .ag _ :: _, _, ⟨_, _, _, ⟨_, _, h1⟩, h2⟩ => ⟨repL_wf h1, repWs_wf h2⟩
theorem freeC_rep {E' : Env} {N : Mem} (hE : ∀ b ∈ foots E', b ∈ foots E) : ∀ {c : AC} {v : Value}, freeC c = true → RepC X W E M c v → RepC X W E' N c v
  | .int _ _, _, _, h => h
  | .bool _, _, _, h => h
  | .str _, _, _, h => h
  | .opq _, _, _, h => h
  | .hs .no t xs, v, _, ⟨h0, F, h1, h2⟩ => ⟨h0, F, h1, fun b hb => ⟨⟨fun hm => (h2 b hb).1.1 (hE b hm), (h2 b hb).1.2⟩, (h2 b hb).2⟩⟩
  | .hs (.at _ _ _) _ _, _, ho, _ => by cases ho
  | .ep .no t xs k o, v, _, ⟨h0, F, h1, h2⟩ => ⟨h0, F, h1, fun b hb => ⟨⟨fun hm => (h2 b hb).1.1 (hE b hm), (h2 b hb).1.2⟩, (h2 b hb).2⟩⟩
  | .ep (.at _ _ _) _ _ _ _, _, ho, _ => by cases ho
  | .raw _, _, _, h => h
/-- at the end: only the rows that are handed over -/
theorem end_rep {W0 : World} {res r : AV} {new : Mem} {v : Value} {T : Tab P} (hM : RepM X W E M) (hg : Grow W0 [] W E) (hr : RepV X W E M r v) (h : endA res new r M) : ∃ E', Grow W0 [] W E' ∧ RepM X W E' new ∧ RepV X W E' new res v := by
  obtain ⟨hn, hc⟩ := h
  obtain ⟨us, hus⟩ : ∃ us, us = (matchV M new [] r res).used := ⟨_, rfl⟩
  rw [← hus] at hc
  rw [Bool.and_eq_true] at hc
  have hlen := Nat.eq_of_beq_eq_true hc.1
  obtain ⟨hu, hv⟩ := matchV_rep (X' := X) (us := us) (acc := []) hM (fun b hb => .inl hb) (fun q u h => by simp at h) hn hr (fun q u h => by rw [hus]; simpa using h)
  rw [← hus] at hu
  have hu : UsedOk X X W E M new us 0 us := hu
  refine ⟨pickE E us, ⟨hg.os, hg.tape, hg.output, hg.size, hg.keep, fun b hb => hg.new b (pickE_in b hb), fun i e h => by simp at h⟩, pick_repM hM hu hlen hc.2 (fun b hb hf => hM.xlt b hb (pickE_in b hf)) hM.xsz, hv⟩
theorem boxIdx_mem : ∀ {l : Mem} {k j : Nat} {c : List AC}, l[j]? = some (.box c) → k + j ∈ boxIdx k l
  | [], _, _, _, h => by simp at h
  | .box _ :: l, k, 0, c, h => List.mem_cons_self
  | b :: l, k, j + 1, c, h => by
    have := boxIdx_mem (l := l) (k := k + 1) (j := j) (c := c) (by simpa using h)
    rw [show k + 1 + j = k + (j + 1) by omega] at this
    cases b <;> first | exact List.mem_cons_of_mem _ this | exact this
  | .row _ _ _ _ none :: l, k, 0, c, h => by cases h
  | .dead :: l, k, 0, c, h => by cases h
theorem fixOk_get {us : List (Option Nat)} {l : List Nat} (h : fixOk us l = true) {j : Nat} (hj : j ∈ l) : us[j]? = some (some j) := by
  have h1 := List.all_eq_true.1 h j hj
  unfold accAt at h1
  split at h1
  · rename_i i hi
    rw [hi, Nat.eq_of_beq_eq_true h1]
  · cases h1
/-- the blocks that were lent, at the end -/
theorem pairs_rep {X' : List Nat} {new : Mem} {us : List (Option Nat)} (hM : RepM X W E M) (hX : ∀ b ∈ X', b ∈ X ∨ b ∈ foots E) : ∀ {ps : List (AW × AW)} {acc : List (Option Nat)}, (∀ (q : Nat) (u : Option Nat), acc[q]? = some u → us[q]? = some u) → (matchPs M new acc ps).need →
    (∀ (q : Nat) (u : Option Nat), (matchPs M new acc ps).used[q]? = some u → us[acc.length + q]? = some u) → (∀ p ∈ ps, ∃ v, RepW X W E M p.1 v) → UsedOk X X' W E M new us acc.length (matchPs M new acc ps).used
  | [], _, _, _, _, _ => trivial
  | p :: ps, acc, hacc, ⟨h1, h2⟩, hus, hv => by
    have hus : ∀ (q : Nat) (u : Option Nat), ((matchP M new acc p.1 p.2).used ++ (matchPs M new (acc ++ (matchP M new acc p.1 p.2).used) ps).used)[q]? = some u → us[acc.length + q]? = some u := hus
    have hu1 : ∀ (q : Nat) (u : Option Nat), (matchP M new acc p.1 p.2).used[q]? = some u → us[acc.length + q]? = some u := fun q u hq => hus q u (by rw [List.getElem?_append_left (List.getElem?_eq_some_iff.1 hq).1]; exact hq)
    have hacc2 : ∀ (q : Nat) (u : Option Nat), (acc ++ (matchP M new acc p.1 p.2).used)[q]? = some u → us[q]? = some u := fun q u hq => by
      by_cases hl : q < acc.length
      · rw [List.getElem?_append_left hl] at hq; exact hacc q u hq
      · rw [List.getElem?_append_right (by omega)] at hq
        have := hu1 _ u hq
        rwa [show acc.length + (q - acc.length) = q by omega] at this
    obtain ⟨v, hv1⟩ := hv p List.mem_cons_self
    obtain ⟨q1, _⟩ := matchP_rep hM hX hacc h1 hv1 hu1
    have p1 := pairs_rep hM hX hacc2 h2 (fun q u hq => by
      have := hus ((matchP M new acc p.1 p.2).used.length + q) u (by rw [List.getElem?_append_right (by omega), Nat.add_sub_cancel_left]; exact hq)
      rwa [List.length_append, Nat.add_assoc]) (fun p hp => hv p (List.mem_cons_of_mem _ hp))
    rw [List.length_append] at p1
    exact q1.app p1
/-- what the pairs of lent blocks name: a box, a row written in place, a nil slice -/
theorem pairs_name : ∀ {ins : List MTy} {k : Nat} {p : AW × AW}, p ∈ pairs k ins → (∃ j, p.1 = .c (.bp j 0) ∧ j < k + (ins.map MTy.nb).sum) ∨ (∃ j ∈ inpM k ins, p.1 = .c (.row j 0)) ∨ p.1 = .c (.raw (.slice none 0 0))
  | [], _, _, h => by simp [pairs] at h
  | y :: l, k, p, h => by
    have seq_lt : ∀ (n k j : Nat), j ∈ seqN k n → j < k + n := by
      intro n
      induction n with
      | zero => intro k j h; simp [seqN] at h
      | succ n ih =>
        intro k j h
        rcases List.mem_cons.1 h with rfl | h
        · omega
        · have := ih (k + 1) j h; omega
    have up : ∀ {n : Nat} {inp : List Nat}, n = y.nb → inpM k (y :: l) = inp ++ inpM (k + n) l → p ∈ pairs (k + n) l → (∃ j, p.1 = .c (.bp j 0) ∧ j < k + ((y :: l).map MTy.nb).sum) ∨ (∃ j ∈ inpM k (y :: l), p.1 = .c (.row j 0)) ∨ p.1 = .c (.raw (.slice none 0 0)) := fun {n inp} hn hi hp => by
      rcases pairs_name hp with ⟨j, h1, h2⟩ | ⟨j, h1, h2⟩ | h
      · exact .inl ⟨j, h1, by rw [List.map_cons, List.sum_cons, ← hn]; omega⟩
      · exact .inr (.inl ⟨j, by rw [hi]; exact List.mem_append_right _ h1, h2⟩)
      · exact .inr (.inr h)
    cases y with
    | a y => exact up (n := 0) (inp := []) rfl rfl h
    | m t =>
      rcases List.mem_cons.1 h with rfl | h
      · exact .inl ⟨k, rfl, by rw [List.map_cons, List.sum_cons]; simp only [MTy.nb]; omega⟩
      · exact up (inp := []) rfl rfl h
    | e t =>
      rcases List.mem_cons.1 h with rfl | h
      · exact .inr (.inl ⟨k, List.mem_cons_self, rfl⟩)
      · exact up (inp := [k]) rfl rfl h
    | q g t =>
      rcases List.mem_append.1 h with h | h
      · obtain ⟨j, hj, rfl⟩ := List.mem_map.1 h
        exact .inr (.inl ⟨j, List.mem_append_left _ hj, rfl⟩)
      · exact up (inp := seqN k t.nl) rfl rfl h
    | g g t =>
      rcases List.mem_append.1 h with h | h
      · obtain ⟨j, hj, rfl⟩ := List.mem_map.1 h
        exact .inr (.inr rfl)
      · exact up (inp := []) rfl rfl h
    | b t =>
      rcases List.mem_cons.1 h with rfl | h
      · exact .inl ⟨k, rfl, by rw [List.map_cons, List.sum_cons]; simp only [MTy.nb]; omega⟩
      · exact up (inp := []) rfl rfl h
    | f g c =>
      rcases List.mem_append.1 h with h | h
      · obtain ⟨j, hj, rfl⟩ := List.mem_map.1 h
        refine .inl ⟨j, rfl, ?_⟩
        have := seq_lt _ _ _ hj
        rw [List.map_cons, List.sum_cons]
        show j < k + (c.length + _)
        omega
      · exact up (inp := []) rfl rfl h
theorem capM_len : ∀ {l : List CapK} {x : capD l}, (capM l x).length = l.length
  | [], _ => rfl
  | .b t :: l, x => congrArg (· + 1) (capM_len (l := l) (x := x.2))
  | .ptr j :: l, x => congrArg (· + 1) (capM_len (l := l) (x := (x : capD l)))
theorem rowsOf_len : ∀ {t : Ty} {x : t.den}, (rowsOf t x).length = t.nl
  | .int _, _ => rfl
  | .bool, _ => rfl
  | .str, _ => rfl
  | .opq, _ => rfl
  | .prod a b, x => (List.length_append).trans (congr (congrArg Nat.add (rowsOf_len (t := a))) (rowsOf_len (t := b)))
  | .list _, _ => rfl
theorem preM1_len {k : Nat} : ∀ {y : MTy} {x : y.D}, (preM1 k y x).length = y.nb
  | .a _, _ => rfl
  | .m t, x => congrArg (· + 1) (rowsOf_len (t := t))
  | .e _, _ => rfl
  | .q _ t, x => rowsOf_len (t := t)
  | .g _ t, x => rowsOf_len (t := t)
  | .b _, _ => rfl
  | .f _ l, x => capM_len (l := l)
theorem preM_len : ∀ {ins : List MTy} {k : Nat} {x : MD ins}, (preM k ins x).length = (ins.map MTy.nb).sum
  | [], _, _ => rfl
  | y :: l, k, x => by
    show (preM1 k y x.1 ++ preM (k + y.nb) l x.2).length = _
    rw [List.length_append, preM1_len, preM_len, List.map_cons, List.sum_cons]
theorem rowsOf_row : ∀ {t : Ty} {x : t.den} {b : Blk}, b ∈ rowsOf t x → ∃ (t' : Ty) (xs : List t'.den), b = .row t' xs 0 0 none
  | .int _, _, _, h => by simp [rowsOf] at h
  | .bool, _, _, h => by simp [rowsOf] at h
  | .str, _, _, h => by simp [rowsOf] at h
  | .opq, _, _, h => by simp [rowsOf] at h
  | .prod a b, x, _, h => (List.mem_append.1 h).elim (rowsOf_row (t := a)) (rowsOf_row (t := b))
  | .list a, xs, _, h => ⟨a, xs, List.mem_singleton.1 h⟩
theorem seqN_mem : ∀ {n k j : Nat}, j ∈ seqN k n → k ≤ j ∧ j < k + n
  | 0, _, _, h => by simp [seqN] at h
  | n + 1, k, j, h => by
    rcases List.mem_cons.1 h with rfl | h
    · omega
    · have := seqN_mem h; omega
theorem preM_inp : ∀ {ins : List MTy} {k : Nat} {x : MD ins} {i : Nat}, i ∈ inpM k ins → k ≤ i ∧ ∃ (t : Ty) (xs : List t.den) (v c : Nat), (preM k ins x)[i - k]? = some (.row t xs v c none)
  | [], _, _, _, h => by simp [inpM] at h
  | y :: l, k, x, i, h => by
    have up : i ∈ inpM (k + y.nb) l → k ≤ i ∧ ∃ (t : Ty) (xs : List t.den) (v c : Nat), (preM k (y :: l) x)[i - k]? = some (.row t xs v c none) := fun h => by
      obtain ⟨h1, t, xs, v, c, h2⟩ := preM_inp (x := x.2) h
      refine ⟨by omega, t, xs, v, c, ?_⟩
      show (preM1 k y x.1 ++ preM (k + y.nb) l x.2)[i - k]? = _
      rw [List.getElem?_append_right (by rw [preM1_len]; omega), preM1_len, ← h2]
      congr 1
      omega
    have here : i ∈ seqN k y.nb → (∀ b ∈ preM1 k y x.1, ∃ (t' : Ty) (xs : List t'.den), b = .row t' xs 0 0 none) → k ≤ i ∧ ∃ (t : Ty) (xs : List t.den) (v c : Nat), (preM k (y :: l) x)[i - k]? = some (.row t xs v c none) := fun h hb => by
      obtain ⟨h1, h2⟩ := seqN_mem h
      refine ⟨h1, ?_⟩
      have hl : i - k < (preM1 k y x.1).length := by rw [preM1_len]; omega
      obtain ⟨t, xs, e⟩ := hb _ (List.getElem_mem hl)
      refine ⟨t, xs, 0, 0, ?_⟩
      show (preM1 k y x.1 ++ preM (k + y.nb) l x.2)[i - k]? = _
      rw [List.getElem?_append_left hl, List.getElem?_eq_getElem hl, e]
    cases y with
    | e t =>
      rcases List.mem_cons.1 h with h | h
      · exact here (by rw [h]; exact List.mem_cons_self) (fun b hb => ⟨t, _, List.mem_singleton.1 hb⟩)
      · exact up h
    | q g t =>
      rcases List.mem_append.1 h with h | h
      · exact here h (fun b hb => rowsOf_row (t := t) hb)
      · exact up h
    | a _ => exact up h
    | m _ => exact up h
    | g _ _ => exact up h
    | b _ => exact up h
    | f _ _ => exact up h
/-- what the caller's blocks hold is well-formed -/
def WfB : Blk → Prop
  | .row t xs _ _ none => WfT (.list t) xs
  | .box l => WfL l
  | _ => True
def WfM : Mem → Prop
  | [] => True
  | b :: l => WfB b ∧ WfM l
theorem olist_wf {t : Ty} {xs : List t.den} {v : Value} {F : List Nat} (h : OList W (ORep W t) t.n xs v F) : WfT (.list t) xs := by
  obtain ⟨F', h1, _⟩ := ORep.rep (.list t) (x := xs) (cs := [v]) ⟨v, rfl, h⟩
  exact rep_wf (.list t) h1
theorem repB_wf {b : Blk} {e : EB} (h : RepB X W E M b e) : WfB b := by
  cases b with
  | row t xs v c hh =>
    cases hh with
    | none => exact olist_wf h
    | some _ => trivial
  | box l => obtain ⟨_, cs, T, _, h⟩ := h; exact repL_wf h
  | dead => trivial
theorem repM_wf (hM : RepM X W E M) : WfM M := by
  have : ∀ b ∈ M, WfB b := fun b hb => by
    obtain ⟨i, hi⟩ := List.mem_iff_getElem?.1 hb
    have hl : i < E.length := by rw [← hM.len]; exact (List.getElem?_eq_some_iff.1 hi).1
    exact repB_wf (hM.at_ i b _ hi (List.getElem?_eq_getElem hl))
  clear hM
  induction M with
  | nil => trivial
  | cons b l ih => exact ⟨this b List.mem_cons_self, ih (fun b hb => this b (List.mem_cons_of_mem _ hb))⟩
/-- A function's condition gives its contract. -/
theorem bcalls_of {T : Tab P} {L : Nat → List AV → Mem → LoopA} {f : FuncId} {fn : Func} {args : List AW} {res : AV} {new : Mem} (hf : P.funcs[f]? = some fn) (hC : (T.C = none ∧ T.n0 = 0) ∧ T.inp = []) (h : WfA args → vcFun T L fn args [] (endA res new)) : BCalls P f args res new := fun X W vs hsz hgl hr =>
  (vcFun_sound (E0 := []) hf ⟨.inl hC.1.1, hC.1.2, (fun i hi => by rw [hC.2] at hi; cases hi), hgl⟩ (h (repWs_wf hr)) (nilM hsz) hr (fun i hi => by rw [hC.2] at hi; cases hi)).mono fun e W' hq => by
    obtain ⟨v, E', M', r, rfl, g, m, hv, hend⟩ := hq
    obtain ⟨E2, g2, m2, hv2⟩ := end_rep (T := T) m g.g hv hend
    exact ⟨v, E2, rfl, g2, m2, hv2⟩
/-- the same for a function that takes a closure -/
theorem hcalls_of {T : Tab P} {L : Nat → List AV → Mem → LoopA} {f : FuncId} {fn : Func} {args : List AW} {res : AV} {vs : List Value} (hf : P.funcs[f]? = some fn) (hn0 : T.n0 = 0 ∧ T.inp = []) (hT : ∀ c, T.C = some c → CEok X W c) (hsz : ∀ b ∈ X, b < W.heap.size) (hgl : Glob W []) (hr : RepWs X W [] [] args vs)
    (h : WfA args → vcFun T L fn args [] (endA res [])) :
    Calls P f vs.toArray W (fun e W' => ∃ v E', e = .returned v ∧ Grow W [] W' E' ∧ RepM X W' E' [] ∧ RepV X W' E' [] res v) :=
  (vcFun_sound (E0 := []) hf ⟨.inr ⟨rfl, hT⟩, hn0.1, (fun i hi => by rw [hn0.2] at hi; cases hi), hgl⟩ (h (repWs_wf hr)) (nilM hsz) hr (fun i hi => by rw [hn0.2] at hi; cases hi)).mono fun e W' hq => by
    obtain ⟨v, E', M', r, rfl, g, m, hv, hend⟩ := hq
    obtain ⟨E2, g2, m2, hv2⟩ := end_rep (T := T) m g.g hv hend
    exact ⟨v, E2, rfl, g2, m2, hv2⟩
/-- A function's condition gives its contract on what the caller owns. -/
theorem mcalls_of {T : Tab P} {L : Nat → List AV → Mem → LoopA} {f : FuncId} {fn : Func} {ins : List MTy} {x y : MD ins} {res : AV} {new : Mem} (hf : P.funcs[f]? = some fn) (hC : T.C = none) (hn0 : T.n0 = (preM 0 ins x).length) (hinp : T.inp = inpM 0 ins)
    (hsame : sameLs (preM 0 ins x) (postM 0 ins y ++ new) = true)
    (h : WfA (argsM 0 ins x) → WfM (preM 0 ins x) → vcFun T L fn (argsM 0 ins x) (preM 0 ins x) (endM ins (postM 0 ins y ++ new) res)) : MCalls P f (argsM 0 ins x) (preM 0 ins x) (postM 0 ins y ++ new) (inpM 0 ins) res := fun X W E0 vs hgl hM0 hr => by
  have hrow : ∀ i ∈ T.inp, ∃ (t : Ty) (xs : List t.den) (v c : Nat), (preM 0 ins x)[i]? = some (.row t xs v c none) := fun i hi => by
    rw [hinp] at hi
    obtain ⟨_, h⟩ := preM_inp (x := x) hi
    exact h
  have hl0 : (preM 0 ins x).length = E0.length := hM0.len
  refine (vcFun_sound (T := T) hf ⟨.inl hC, by rw [hn0, hl0], (fun i hi => by
    obtain ⟨t, xs, v, c, h⟩ := hrow i hi
    rw [← hl0]
    exact (List.getElem?_eq_some_iff.1 h).1), hgl⟩ (h (repWs_wf hr) (repM_wf hM0)) hM0 hr hrow).mono fun e W' hq => ?_
  obtain ⟨v, E', M', r, rfl, hs, m, hv, hn, hchk⟩ := hq
  obtain ⟨qm, hqm⟩ : ∃ qm, qm = postM 0 ins y ++ new := ⟨_, rfl⟩
  rw [← hqm] at hn hchk hsame ⊢
  obtain ⟨us1, hus1⟩ : ∃ us1, us1 = (matchPs M' qm [] (pairs 0 ins)).used := ⟨_, rfl⟩
  rw [← hus1] at hn hchk
  obtain ⟨us2, hus2⟩ : ∃ us2, us2 = (matchV M' qm us1 r res).used := ⟨_, rfl⟩
  rw [← hus2] at hchk
  simp only [Bool.and_eq_true] at hchk
  obtain ⟨⟨c1, c2⟩, c3, c4⟩ := hchk
  have c1 := Nat.eq_of_beq_eq_true c1
  have hlE : ∀ j, j < (preM 0 ins x).length → ∃ ej e0, E'[j]? = some ej ∧ E0[j]? = some e0 ∧ ej.blk = e0.blk := fun j hj => by
    have h0 : E0[j]? = some (E0[j]'(by omega)) := List.getElem?_eq_getElem (by omega)
    obtain ⟨ej, q1, q2⟩ := hs.g.blk j _ h0
    exact ⟨ej, _, q1, h0, q2⟩
  have hu1 : UsedOk X X W' E' M' qm (us1 ++ us2) 0 us1 := by
    have := pairs_rep (X' := X) (us := us1 ++ us2) (acc := []) m (fun b hb => .inl hb) (fun q u h => by simp at h) hn.1 (fun q u h => by rw [← hus1] at h; rw [List.length_nil, Nat.zero_add, List.getElem?_append_left (List.getElem?_eq_some_iff.1 h).1]; exact h) (fun p hp => by
      rcases pairs_name hp with ⟨j, h1, h2⟩ | ⟨j, h1, h2⟩ | h1
      · rw [h1]
        obtain ⟨ej, e0, q1, _⟩ := hlE j (by rw [preM_len]; omega)
        exact ⟨_, ej, q1, rfl⟩
      · rw [h2]
        have hv0 := List.all_eq_true.1 c4 j h1
        rcases hs.kept j (by rw [hinp]; exact h1) with hd | ⟨t, xs, v', c, hh, k1, _⟩
        · rw [hd] at hv0; cases hv0
        · rw [k1] at hv0
          cases hh with
          | some _ => cases hv0
          | none =>
          obtain rfl := Nat.eq_of_beq_eq_true (show Nat.beq v' 0 = true from hv0)
          obtain ⟨_, t2, xs2, v2, c2, h3⟩ := preM_inp (x := x) h1
          obtain ⟨ej, e0, q1, _⟩ := hlE j (by have := (List.getElem?_eq_some_iff.1 h3).1; omega)
          have hol : OList W' (ORep W' t) t.n xs ej.val ej.foot := m.at_ j _ ej k1 q1
          obtain ⟨A, c', hsl⟩ := olist_slice hol
          refine ⟨ej.val, by rw [hsl]; rfl, ?_⟩
          unfold atRow
          rw [k1]
          exact ⟨Nat.le_refl _, fun _ => ⟨ej, q1, rfl⟩⟩
      · rw [h1]
        exact ⟨.slice none 0 0, rfl, rfl⟩)
    rw [← hus1] at this
    exact this
  obtain ⟨hu2, hv2⟩ := matchV_rep (X' := X) (us := us1 ++ us2) (acc := us1) m (fun b hb => .inl hb) (fun q u h => by rw [List.getElem?_append_left (List.getElem?_eq_some_iff.1 h).1]; exact h) hn.2 hv (fun q u h => by rw [← hus2] at h; rw [List.getElem?_append_right (by omega), Nat.add_sub_cancel_left]; exact h)
  rw [← hus2] at hu2
  have hu : UsedOk X X W' E' M' qm (us1 ++ us2) 0 (us1 ++ us2) := hu1.app (by rw [Nat.zero_add]; exact hu2)
  refine ⟨v, pickE E' (us1 ++ us2), rfl, ⟨hs.g.os, hs.g.tape, hs.g.output, hs.g.size, hs.g.keep, fun b hb => hs.g.new b (pickE_in b hb)⟩, fun i l e0 hb he0 => ?_, fun i hi e0 he0 => ?_, pick_repM m hu c1 c2 (fun b hb hf => m.xlt b hb (pickE_in b hf)) m.xsz, hv2⟩
  · have hq : ∃ l', qm[i]? = some (.box l') := sameLs_box' hsame hb
    obtain ⟨l', hq⟩ := hq
    have hin : i ∈ boxIdx 0 qm := by have := boxIdx_mem (k := 0) hq; rwa [Nat.zero_add] at this
    have hus := fixOk_get c3 (List.mem_append_left _ hin)
    obtain ⟨ej, e0', q1, q2, q3⟩ := hlE i (List.getElem?_eq_some_iff.1 hb).1
    rw [he0] at q2
    obtain rfl := Option.some.inj q2
    exact ⟨ej, pickE_some hus q1, q3⟩
  · have hus := fixOk_get c3 (List.mem_append_right _ hi)
    have hv0 := List.all_eq_true.1 c4 i hi
    rcases hs.kept i (by rw [hinp]; exact hi) with hd | ⟨t, xs, v', c, hh, k1, k2⟩
    · rw [hd] at hv0; cases hv0
    · rw [k1] at hv0
      cases hh with
      | some _ => cases hv0
      | none =>
      obtain rfl := Nat.eq_of_beq_eq_true (show Nat.beq v' 0 = true from hv0)
      obtain ⟨ej, q1, q2⟩ := k2 rfl e0 he0
      exact ⟨ej, pickE_some hus q1, q2⟩
theorem capsV_mono {W' : World} {E' : Env} (g : Grow W [] W' E') : ∀ {cs : List CV} {vs : List Value}, capsV X W cs vs → capsV X W' cs vs
  | [], _, h => h
  | c :: cs, _, ⟨v, r, e, h1, h2⟩ => ⟨v, r, e, freeC_rep (E := E') (M := []) (fun b hb => by simp [foots] at hb) rfl (RepC.mono g (MemOk.nil _) rfl h1), capsV_mono g h2⟩
theorem repWs_app : ∀ {l k : List AW} {vs us : List Value}, RepWs X W E M l vs → RepWs X W E M k us → RepWs X W E M (l ++ k) (vs ++ us)
  | [], _, _, _, h, h2 => by rw [show _ = _ from h]; exact h2
  | _ :: _, _, _, _, ⟨v, r, e, h1, h3⟩, h2 => by rw [e]; exact ⟨v, _, rfl, h1, repWs_app h3 h2⟩
theorem capsV_args : ∀ {cs : List CV} {vs : List Value}, capsV X W cs vs → RepWs X W [] [] (cs.map CV.arg) vs
  | [], _, h => h
  | _ :: _, _, ⟨v, r, e, h1, h2⟩ => ⟨v, r, e, h1, capsV_args h2⟩
/-- a closure with a contract, as an argument -/
theorem ce_ok {c : CE P} {cs : List CV} (hc : capsV X W cs c.caps) (hsz : ∀ b ∈ X, b < W.heap.size) (hgl : Glob W []) (h : ∀ x, BCalls P c.g (encA c.ins x ++ cs.map CV.arg) (c.res x) []) : CEok X W c := fun W' E' x vs g hr => by
  have := h x X W' (vs ++ c.caps) (fun b hb => Nat.lt_of_lt_of_le (hsz b hb) g.size) (hgl.grow g).nil (repWs_app hr (capsV_args (capsV_mono g hc)))
  exact this
theorem RV.of_b {f : FuncId} {args : List AW} {c : AC} {w : World} {vs : List Value} {u : Value} (h : BCalls P f args (.c c) []) (hgl : Glob w []) (hr : RepWs [] w [] [] args vs) (hc : ∀ W' E' v, RepC [] W' E' [] c v → v = u) : Calls P f vs.toArray w (RV u w) :=
  (h [] w vs (by simp) hgl hr).mono fun e W' hq => by
    obtain ⟨v, E', rfl, g, m, hv⟩ := hq
    obtain rfl := hc _ _ _ hv
    exact ⟨rfl, ext_of_below g.below⟩
/-- an argument that the elder contracts call Held -/
theorem repW_held {w : World} (t : Ty) {x : t.den} {cs : List Value} (h : Held w x cs) : RepW [] w [] [] (.ag (cellsOf t x)) (.agg cs.toArray) := by
  obtain ⟨F, h⟩ := h
  exact ⟨cs, rfl, repL_of_rep (L := .no) t h (fun b hb => ⟨by simp [foots], GoRep.lt h b hb⟩)⟩
theorem repW_held1 {w : World} (t : Ty) {xs : List t.den} {v : Value} (h : Held w xs [v]) : RepW [] w [] [] (.c (.hs .no t xs)) v := by
  obtain ⟨F, h⟩ := h
  exact ⟨by have := GoRep.one h; simpa using this, F, h, fun b hb => ⟨by simp [foots], GoRep.lt h b hb⟩⟩
end
theorem cond_iff {b : Bool} {p q : Prop} : (bif b then p else q) ↔ ((b = true → p) ∧ (b = false → q)) := by cases b <;> simp
end Go.Proofs.YtigebfhekmjhmaaGreat
