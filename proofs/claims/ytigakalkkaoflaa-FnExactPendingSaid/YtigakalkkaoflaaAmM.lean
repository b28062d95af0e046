/-
  Code and functions: the abstract condition gives a contract.
  Plain: no program. No condition.
-/
import Derived.Test.YtigakalkkaoflaaAmL
set_option linter.unusedSimpArgs false
set_option linter.unusedVariables false
namespace Go.Proofs.Ytigakalkkaoflaa
open Go.ChangeShapes Go.WideShapes Go.ChangeAt Go.RowKit Go.Joins Go.Deep
open GoRep (rep bulk)

theorem leC_eq : ∀ {x y : AC}, leC x y → x = y := by
  intro x y h
  unfold leC at h
  split at h
  · rw [h.1, h.2]
  · rw [h]
  · rw [h]
  · obtain ⟨e, h⟩ := h; subst e; rw [← h]
  · exact h
theorem leL_eq : ∀ {x y : List AC}, leL x y → x = y
  | [], [], _ => rfl
  | [], _ :: _, h => h.elim
  | _ :: _, [], h => h.elim
  | _ :: _, _ :: _, h => by rw [leC_eq h.1, leL_eq h.2]
theorem leV_eq {x y : AV} (h : leV x y) : y = .any ∨ x = y := by
  unfold leV at h
  split at h
  · exact .inl rfl
  · exact .inr (by rw [leC_eq h])
  · exact .inr (by rw [leL_eq h])
  · exact .inr h
theorem leB_eq {x y : Blk} (h : leB x y) : x = y := by
  unfold leB at h
  split at h
  · rw [leL_eq h]
  · exact h
theorem leM_eq : ∀ {x y : Mem}, leM x y → ∃ z, x = y ++ z
  | x, [], _ => ⟨x, rfl⟩
  | [], _ :: _, h => h.elim
  | _ :: _, _ :: _, h => by
    obtain ⟨z, e⟩ := leM_eq h.2
    exact ⟨z, by rw [leB_eq h.1, e]; rfl⟩
section
variable {P : Program} {X : List Nat} {W : World} {E : Env} {M : Mem} {a : Act} {tm : List AV} {o : Oper} {T : Tab P}
theorem leV_rep {x y : AV} {v : Value} (h : leV x y) (hr : RepV X W E M x v) : RepV X W E M y v := by
  rcases leV_eq h with rfl | rfl
  · trivial
  · exact hr
theorem leT_rep : ∀ {x y : List AV} {vs : List Value}, leT x y → RepT X W E M x vs → RepT X W E M y vs
  | [], [], _, _, hr => hr
  | [], _ :: _, _, h, _ => h.elim
  | _ :: _, [], _, h, _ => h.elim
  | _ :: _, _ :: _, _, h, ⟨v, r, e, h1, h2⟩ => ⟨v, r, e, leV_rep h.1 h1, leT_rep h.2 h2⟩
theorem boxAt_cut {n i q : Nat} {v : Value} (hi : i < n) (h : boxAt E i v q) : boxAt (E.take n) i v q := by
  obtain ⟨e, h1, h2⟩ := h
  exact ⟨e, by rw [List.getElem?_take, if_pos hi]; exact h1, h2⟩
theorem capsAt_cut {n : Nat} : ∀ {is : List Nat} {vs : List Value}, is.all (Nat.blt · n) = true → capsAt E is vs → capsAt (E.take n) is vs
  | [], _, _, h => h
  | _ :: _, _, ho, ⟨v, r, e, h1, h2⟩ => by
    rw [List.all_cons, Bool.and_eq_true] at ho
    exact ⟨v, r, e, boxAt_cut (Nat.le_of_ble_eq_true ho.1) h1, capsAt_cut ho.2 h2⟩
theorem foots_take (n : Nat) : ∀ b ∈ foots (E.take n), b ∈ foots E := fun b hb => by
  obtain ⟨e, h1, h2⟩ := mem_foots.1 hb
  exact mem_foots.2 ⟨e, List.mem_of_mem_take h1, h2⟩
theorem okC_rep {n : Nat} : ∀ {c : AC} {v : Value}, okC n c = true → RepC X W E M c v → RepC X W (E.take n) (M.take n) c v
  | .int _ _, _, _, h => h
  | .bool _, _, _, h => h
  | .str _, _, _, h => h
  | .hs t xs, v, _, ⟨F, h1, h2⟩ => ⟨F, h1, fun b hb => ⟨fun hm => (h2 b hb).1 (foots_take n b hm), (h2 b hb).2⟩⟩
  | .bp _ _, _, ho, h => boxAt_cut (Nat.le_of_ble_eq_true ho) h
  | .ep t xs k o, v, _, ⟨b, off, G, e, hk, h1, h2⟩ => ⟨b, off, G, e, hk, h1, fun g hg => ⟨⟨fun hm => (h2 g hg).1.1 (foots_take n g hm), (h2 g hg).1.2⟩, (h2 g hg).2⟩⟩
  | .row i ver, v, ho, ⟨h1, h2⟩ => by
    have hi : i < n := Nat.le_of_ble_eq_true ho
    refine ⟨h1, ?_⟩
    rw [List.getElem?_take, if_pos hi]
    cases hM : M[i]? with
    | none => rw [hM] at h2; exact h2.elim
    | some b =>
      rw [hM] at h2
      cases b with
      | box l => exact h2.elim
      | hole => exact h2.elim
      | dead => trivial
      | row T t xs cur =>
        refine ⟨h2.1, fun he => ?_⟩
        obtain ⟨e, q1, q2⟩ := h2.2 he
        exact ⟨e, by rw [List.getElem?_take, if_pos hi]; exact q1, q2⟩
  | .fn f caps, v, ho, ⟨vs, e, h⟩ => ⟨vs, e, capsAt_cut ho h⟩
  | .raw _, _, _, h => h
theorem okL_rep {n : Nat} : ∀ {l : List AC} {vs : List Value}, l.all (okC n) = true → RepL X W E M l vs → RepL X W (E.take n) (M.take n) l vs
  | [], _, _, h => h
  | _ :: _, _, ho, ⟨v, r, e, h1, h2⟩ => by
    rw [List.all_cons, Bool.and_eq_true] at ho
    exact ⟨v, r, e, okC_rep ho.1 h1, okL_rep ho.2 h2⟩
theorem okW_rep {n : Nat} : ∀ {x : AW} {v : Value}, okW n x = true → RepW X W E M x v → RepW X W (E.take n) (M.take n) x v
  | .c _, _, ho, h => okC_rep ho h
  | .ag _, _, ho, ⟨cs, e, h⟩ => ⟨cs, e, okL_rep ho h⟩
theorem okWs_rep {n : Nat} : ∀ {l : List AW} {vs : List Value}, l.all (okW n) = true → RepWs X W E M l vs → RepWs X W (E.take n) (M.take n) l vs
  | [], _, _, h => h
  | _ :: _, _, ho, ⟨v, r, e, h1, h2⟩ => by
    rw [List.all_cons, Bool.and_eq_true] at ho
    exact ⟨v, r, e, okW_rep ho.1 h1, okWs_rep ho.2 h2⟩
theorem okV_rep {n : Nat} : ∀ {x : AV} {v : Value}, okV n x = true → RepV X W E M x v → RepV X W (E.take n) (M.take n) x v
  | .w _, _, ho, h => okW_rep ho h
  | .tp _, _, ho, ⟨vs, e, h⟩ => ⟨vs, e, okWs_rep ho h⟩
  | .any, _, _, _ => trivial
theorem okT_rep {n : Nat} : ∀ {l : List AV} {vs : List Value}, l.all (okV n) = true → RepT X W E M l vs → RepT X W (E.take n) (M.take n) l vs
  | [], _, _, h => h
  | _ :: _, _, ho, ⟨v, r, e, h1, h2⟩ => by
    rw [List.all_cons, Bool.and_eq_true] at ho
    exact ⟨v, r, e, okV_rep ho.1 h1, okT_rep ho.2 h2⟩
theorem repM_cut {M N : Mem} (hM : RepM X W E (M ++ N)) (ho : M.all (okB M.length) = true) : RepM X W (E.take M.length) M := by
  have hl := hM.len
  rw [List.length_append] at hl
  refine ⟨by simp; omega, ?_, fun i b e hb he => ?_, fun b hb => hM.lt b (foots_take _ b hb), fun b hb hf => hM.xlt b hb (foots_take _ b hf), hM.xsz⟩
  · have hn := hM.nodup
    rw [← List.take_append_drop M.length E, foots_append, List.nodup_append] at hn
    exact hn.1
  · have hi : i < M.length := (List.getElem?_eq_some_iff.1 hb).1
    rw [List.getElem?_take, if_pos hi] at he
    have h := hM.at_ i b e (by rw [List.getElem?_append_left hi]; exact hb) he
    have hob := List.all_eq_true.1 ho b (List.mem_of_getElem? hb)
    cases b with
    | box l =>
      obtain ⟨q1, cs, T, q2, q3⟩ := h
      have := okL_rep (n := M.length) hob q3
      rw [List.take_left] at this
      exact ⟨q1, cs, T, q2, this⟩
    | row T t xs ver => exact h
    | dead => exact h
    | hole => exact h
theorem RepA.le {h : List AV × Mem} (hr : RepA X tm M a W E) (hle : leS tm M h) : RepA X h.1 h.2 a W (E.take h.2.length) := by
  obtain ⟨h1, h2, h3⟩ := hle
  rw [Bool.and_eq_true] at h3
  obtain ⟨z, e⟩ := leM_eq h2
  subst e
  refine ⟨repM_cut hr.mem h3.2, ?_, hr.dfr⟩
  have := okT_rep h3.1 (leT_rep h1 hr.tmps)
  rwa [List.take_left] at this
theorem grow_take {W0 : World} (n : Nat) (hg : Grow W0 [] W E) : Grow W0 [] W (E.take n) := ⟨hg.os, hg.tape, hg.output, hg.size, hg.keep, fun b hb => hg.new b (foots_take n b hb), fun i e h => by simp at h⟩
theorem grow_drew (hM : RepM X W E M) : Grow W E W.drew E := ⟨rfl, rfl, rfl, Nat.le_refl _, fun _ _ _ => rfl, fun _ h => .inl h, fun _ e h => ⟨e, h, rfl⟩⟩
theorem RepA.drew (hr : RepA X tm M a W E) : RepA X tm M a W.drew E := by
  have g := grow_drew hr.mem
  refine ⟨⟨hr.mem.len, hr.mem.nodup, fun i b e hb he => (hr.mem.at_ i b e hb he).keep g (MemOk.refl E M) (fun _ _ => rfl), hr.mem.lt, hr.mem.xlt, hr.mem.xsz⟩, hr.tmps.mono g (MemOk.refl E M), hr.dfr⟩
theorem vcCode_sound {L : Nat → List AV → Mem → LoopA} {W0 : World} (hT : TabOk X W0 T) : ∀ (c : Code) (tm : List AV) (M : Mem) (a : Act) (W : World) (E : Env) (K : Exit → List AV → Mem → Prop) (Q : Exit → Act → World → Prop),
    (∀ e tm M a W E, K e tm M → RepA X tm M a W E → Grow W0 [] W E → Q e a W) → vcCode T L c tm M K → RepA X tm M a W E → Grow W0 [] W E → c.wp P Q a W := by
  intro c
  induction c with
  | skip => intro tm M a W E K Q hS h hr hg; exact wp_skip (hS _ _ _ _ _ _ h hr hg)
  | label l => intro tm M a W E K Q hS h hr hg; exact wp_label (hS _ _ _ _ _ _ h hr hg)
  | exit id => intro tm M a W E K Q hS h hr hg; exact wp_exit (hS _ _ _ _ _ _ h hr hg)
  | ret => intro tm M a W E K Q hS h hr hg; exact wp_ret (hS _ _ _ _ _ _ h hr hg)
  | region id ops draw =>
    intro tm M a W E K Q hS h hr hg
    cases draw with
    | false =>
      exact wp_region_list (vcOps_sound hT (K := fun tm M => K .normal tm M) (fun tm M a W E hk hr hg => hS _ _ _ _ _ _ hk hr hg) ops.toList tm M a W E h hr hg)
    | true =>
      obtain ⟨⟨hm, hB⟩, h⟩ := (h : (P.follows .mixedOrders = true ∧ Region.lexB .any ops = true) ∧ vcOpsD T ops.toList ops.toList tm M (fun tm => K .normal tm M))
      simp only [Region.lexB, Bool.and_eq_true] at hB
      have := vcOpsD_lex (T := T) (M := M) (md := .any) (ops := ops) ops.toList 0 (Array.replicate ops.size false) tm (by simp) (by simpa using hB.2) h
      refine wp_region_any hm (any_of_A (T := T) (M := M) (X := X) (W0 := W0) hT (fun tm a W E hk hr hg => hS _ _ _ _ _ _ hk hr hg) _ _ tm a _ E hr.drew (hg.trans (grow_drew hr.mem)) ?_)
      simpa using this
  | seq x y ihx ihy =>
    intro tm M a W E K Q hS h hr hg
    refine wp_seq (ihx tm M a W E _ _ (fun e tm M a W E hk hr hg => ?_) h hr hg)
    cases e with
    | normal => exact ihy tm M a W E K Q hS hk hr hg
    | _ => exact hS _ _ _ _ _ _ hk hr hg
  | cond c x y ihx ihy =>
    intro tm M a W E K Q hS h hr hg
    unfold vcCode at h
    cases c with
    | tmp t =>
      simp only at h
      split at h
      · rename_i g hq
        have hl := hr.lit hq
        have he := evalA_rep hr.tmps (.tmp t)
        have he' : a.eval (.tmp t) = .bool g := by
          have : evalA tm (.tmp t) = .w (.c (.bool g)) := hq
          rw [this] at he
          exact he
        cases g with
        | true => exact wp_cond_true he' (ihx _ M a W E K Q hS h hl hg)
        | false => exact wp_cond_false he' (ihy _ M a W E K Q hS h hl hg)
      · exact h.elim
    | const v =>
      split at h
      · rename_i t hq; cases hq
      · rename_i g hq
        obtain rfl : v = .bool g := by injection hq
        cases g with
        | true => exact wp_cond_true rfl (ihx _ M a W E K Q hS h hr hg)
        | false => exact wp_cond_false rfl (ihy _ M a W E K Q hS h hr hg)
      · exact h.elim
    | global g => exact h.elim
    | func f => exact h.elim
  | block id x ih =>
    intro tm M a W E K Q hS h hr hg
    refine wp_block (ih tm M a W E _ _ (fun e tm M a W E hk hr hg => ?_) h hr hg)
    cases e with
    | exit id' =>
      show (if id' = id then Q .normal a W else Q (.exit id') a W)
      have hk : (bif Nat.beq id' id then K .normal tm M else K (.exit id') tm M) := hk
      by_cases hid : id' = id
      · rw [if_pos hid]
        rw [hid, Nat.beq_refl] at hk
        exact hS _ _ _ _ _ _ hk hr hg
      · rw [if_neg hid]
        have hb : Nat.beq id' id = false := by
          cases hb : Nat.beq id' id with
          | false => rfl
          | true => exact absurd (Nat.eq_of_beq_eq_true hb) hid
        rw [hb] at hk
        exact hS _ _ _ _ _ _ hk hr hg
    | _ => exact hS _ _ _ _ _ _ hk hr hg
  | loop x ih =>
    intro tm M a W E K Q hS h hr hg
    unfold vcCode at h
    obtain ⟨⟨y0, hi0, hl0⟩, hround⟩ := h
    refine wp_loop_ghost (fun n a' w' => ∃ y E', (L (firstReg x) tm M).inv y ∧ (L (firstReg x) tm M).μ y = n ∧ RepA X ((L (firstReg x) tm M).hd y).1 ((L (firstReg x) tm M).hd y).2 a' w' E' ∧ Grow W0 [] w' E') ((L (firstReg x) tm M).μ y0) ⟨y0, _, hi0, rfl, hr.le hl0, grow_take _ hg⟩ ?_
    intro n a' w' hI
    obtain ⟨y, E', hiy, rfl, hry, hgy⟩ := hI
    refine ih _ _ a' w' E' _ _ (fun e tm' M' a' W' E' hk hr' hg' => ?_) (hround y hiy) hry hgy
    cases e with
    | normal =>
      obtain ⟨y', hi', hlt, hl'⟩ := hk
      exact ⟨_, hlt, y', _, hi', rfl, hr'.le hl', grow_take _ hg'⟩
    | _ => exact hS _ _ _ _ _ _ hk hr' hg'
  | _ => intro tm M a W E K Q hS h hr hg; exact h.elim
/-- what is handed back -/
theorem resW_run {r : ResultVar} {x : AW} (hM : RepM X W E M) (ht : RepT X W E M tm a.tmps.toList) (h : resW P tm M r = some x) :
    ∃ v, ((match r with | .tmp t => pure (a.tmps.getD t undef) | .cell p t => do loadVar t (← asAddr (a.tmps.getD p undef)) : Sem Value)).run P W = .ok v W ∧ RepW X W E M x v := by
  unfold resW at h
  split at h
  · rename_i t
    have he := evalA_rep ht (.tmp t)
    have he : RepV X W E M (tm.getD t .any) (a.tmps.getD t undef) := he
    split at h
    · rename_i y hy
      obtain rfl := Option.some.inj h
      rw [hy] at he
      exact ⟨_, rfl, he⟩
    · cases h
  · rename_i p t
    have he := evalA_rep ht (.tmp p)
    have he : RepV X W E M (tm.getD p .any) (a.tmps.getD p undef) := he
    split at h
    · rename_i i q hy
      rw [hy] at he
      obtain ⟨e, hei, hv⟩ := (he : boxAt E i _ q)
      split at h
      · rename_i l hb
        split at h
        · rename_i z hz
          obtain rfl := Option.some.inj h
          obtain ⟨_, cs, T, hgc, hl⟩ := hM.at_ i _ e hb hei
          obtain ⟨u, h1, h2⟩ := load_blk (P := P) hgc hl hz
          refine ⟨u, ?_, h2⟩
          simp only [Sem.run_bind]
          rw [hv]
          simp only [asAddr, Sem.run_pure, Result.andThen_ok]
          exact h1
        · cases h
      · cases h
    · cases h
theorem resA_run (hM : RepM X W E M) (ht : RepT X W E M tm a.tmps.toList) : ∀ {rs : List ResultVar} {l : List AW}, resA P tm M rs = some l →
    ∃ vs, (rs.mapM (fun r => (match r with | .tmp t => pure (a.tmps.getD t undef) | .cell p t => do loadVar t (← asAddr (a.tmps.getD p undef)) : Sem Value))).run P W = .ok vs W ∧ RepWs X W E M l vs
  | [], l, h => by
    obtain rfl := Option.some.inj h
    exact ⟨[], rfl, rfl⟩
  | r :: rs, l, h => by
    unfold resA at h
    cases hx : resW P tm M r with
    | none => rw [hx] at h; cases h
    | some x =>
      rw [hx] at h
      simp only at h
      cases hxs : resA P tm M rs with
      | none => rw [hxs] at h; cases h
      | some xs =>
        rw [hxs] at h
        obtain rfl := Option.some.inj h
        obtain ⟨v, h1, h2⟩ := resW_run hM ht hx
        obtain ⟨vs, h3, h4⟩ := resA_run hM ht hxs
        refine ⟨v :: vs, ?_, v, vs, rfl, h2, h4⟩
        rw [List.mapM_cons]
        simp only [Sem.run_bind, h1, Result.andThen_ok, h3, Sem.run_pure]
theorem RepWs.len : ∀ {l : List AW} {vs : List Value}, RepWs X W E M l vs → vs.length = l.length
  | [], _, h => by rw [show _ = _ from h]; rfl
  | _ :: _, _, ⟨v, r, e, _, h2⟩ => by rw [e, List.length_cons, RepWs.len h2, List.length_cons]
theorem results_run {fn : Func} {l : List AW} (hM : RepM X W E M) (ht : RepT X W E M tm a.tmps.toList) (h : resA P tm M fn.results.toList = some l) : ∃ v, (results fn a.tmps).run P W = .ok v W ∧ RepV X W E M (tupA l) v := by
  obtain ⟨vs, h1, h2⟩ := resA_run hM ht h
  have hlen := h2.len
  have hrun : (results fn a.tmps).run P W = .ok (if h : vs.toArray.size = 1 then vs.toArray[0] else .tuple vs.toArray) W := by
    unfold results
    rw [Array.mapM_eq_mapM_toList]
    simp only [Sem.run_bind, Sem.run_map]
    exact Eq.trans (congrArg (fun z : Result (List Value) => (z.andThen (fun a w' => Result.ok a.toArray w')).andThen (fun a w' => Sem.run P (pure (if h : a.size = 1 then a[0] else Value.tuple a)) w')) h1) rfl
  refine ⟨_, hrun, ?_⟩
  cases l with
  | nil =>
    obtain rfl : vs = [] := h2
    exact ⟨[], rfl, rfl⟩
  | cons x l =>
    cases l with
    | nil =>
      obtain ⟨v, r, rfl, q1, rfl⟩ := h2
      exact q1
    | cons y l =>
      have : ¬ vs.toArray.size = 1 := by simp at hlen ⊢; omega
      rw [dif_neg this]
      exact ⟨vs, rfl, h2⟩
theorem initT_rep : ∀ {args : List AW} {vs : List Value} (n : Nat), RepWs X W E M args vs → RepT X W E M (args.map .w ++ List.replicate n undefA) (vs ++ List.replicate n undef)
  | [], vs, n, h => by
    obtain rfl : vs = [] := h
    induction n with
    | zero => rfl
    | succ n ih => exact ⟨_, _, rfl, undefA_rep, ih⟩
  | _ :: _, _, n, ⟨v, r, e, h1, h2⟩ => by rw [e]; exact ⟨v, _, rfl, h1, initT_rep n h2⟩
theorem nilM (hsz : ∀ b ∈ X, b < W.heap.size) : RepM X W [] [] := ⟨rfl, List.nodup_nil, fun i b e h => by simp at h, fun b hb => by simp [foots] at hb, fun b _ => by simp [foots], hsz⟩
theorem vcFun_sound {L : Nat → List AV → Mem → LoopA} {f : FuncId} {fn : Func} {args : List AW} {vs : List Value} {Q : AV → Mem → Prop} (hf : P.funcs[f]? = some fn) (hT : TabOk X W T) (h : vcFun T L fn args Q) (hsz : ∀ b ∈ X, b < W.heap.size) (hr : RepWs X W [] [] args vs) :
    Calls P f vs.toArray W (fun e W' => ∃ v E' M' r, e = .returned v ∧ Grow W [] W' E' ∧ RepM X W' E' M' ∧ RepV X W' E' M' r v ∧ Q r M') := by
  unfold vcFun at h
  cases hb : fn.body with
  | none => rw [hb] at h; exact h.elim
  | some c =>
    rw [hb] at h
    simp only at h
    refine calls_of_wp hf hb (vcCode_sound (T := T) (L := L) (X := X) (W0 := W) hT c (initT fn.ntmps args) [] _ W [] _ _ (fun e tm M a W' E' hk hr' hg => ?_) h ⟨nilM hsz, ?_, rfl⟩ (Grow.refl _ _))
    · have fin : ∀ (hk : match resA P tm M fn.results.toList with | some l => Q (tupA l) M | none => False), a.defers = [] ∧ ∃ v, (results fn a.tmps).run P W' = .ok v W' ∧ ∃ v' E' M' r, Ending.returned v = .returned v' ∧ Grow W [] W' E' ∧ RepM X W' E' M' ∧ RepV X W' E' M' r v' ∧ Q r M' := fun hk => by
        split at hk
        · rename_i l hl
          obtain ⟨v, h1, h2⟩ := results_run hr'.mem hr'.tmps hl
          exact ⟨hr'.dfr, v, h1, v, E', M, _, rfl, hg, hr'.mem, h2, hk⟩
        · exact hk.elim
      cases e with
      | normal => exact fin hk
      | ret => exact fin hk
      | _ => exact hk.elim
    · have := initT_rep (fn.ntmps - vs.length) hr
      have hl := hr.len
      unfold initT
      rw [hl] at this
      have e1 : (vs.toArray ++ Array.replicate (fn.ntmps - vs.toArray.size) undef).toList = vs ++ List.replicate (fn.ntmps - args.length) undef := by simp [hl]
      show RepT X W [] [] _ (vs.toArray ++ Array.replicate (fn.ntmps - vs.toArray.size) undef).toList
      rw [e1]
      exact this
end
end Go.Proofs.Ytigakalkkaoflaa
