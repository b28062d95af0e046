/-
  A region that draws its order: the walk of the text's order serves every order.
  Plain: no program. No condition. (After the kit's own Derived/Deep/Quiet.lean, over abstract states.)
-/
import Derived.Test.YtigakalkkaoflaaAmK
set_option linter.unusedSimpArgs false
set_option linter.unusedVariables false
namespace Go.Proofs.Ytigakalkkaoflaa
open Go.ChangeShapes Go.WideShapes Go.ChangeAt Go.RowKit Go.Joins Go.Deep
open GoRep (rep bulk)

section
variable {P : Program} {X : List Nat} {W : World} {E : Env} {M : Mem} {a : Act} {tm : List AV} {o : Oper} {T : Tab P} {ops : Array Oper}
theorem opA_mem (hq : quietA o (opA P tm M o) M = true) (hn : (opA P tm M o).need) : (opA P tm M o).mem = M := by
  unfold quietA at hq
  unfold opA at hn ⊢
  cases ho : o.op <;> simp only [ho] at hn hq ⊢
  case alloc => cases hq
  case box => cases hq
  case store => cases hq
  case pick c x y => split at hn <;> first | rfl | exact hn.elim
  case load t x =>
    split at hn
    · split at hn
      · split at hn <;> first | rfl | exact hn.elim
      · exact hn.elim
    · split at hn <;> first | rfl | exact hn.elim
    · exact hn.elim
  case nilCheck x => split at hn <;> first | rfl | exact hn.elim
  case unOp op t x => cases op <;> simp only at hn ⊢ <;> first | exact hn.elim | (split at hn <;> first | rfl | exact hn.elim)
  case convert s d x => split at hn <;> first | rfl | exact hn.elim
  case makeFunc fn first captured => cases fn <;> simp only at hn ⊢ <;> first | exact hn.elim | (split at hn <;> first | rfl | exact hn.elim)
  case slice t x lo hi mx =>
    cases mx with
    | some _ => exact hn.elim
    | none =>
      simp only at hn ⊢
      split at hn
      · split at hn <;> first | rfl | exact hn.elim
      · split at hn <;> first | rfl | exact hn.elim
      · exact hn.elim
  case fieldAddr s x n =>
    split at hn
    · rename_i f hf
      cases hz : Nat.beq (sizeT P f.type) 0 with
      | true => rw [hz] at hn; exact hn.elim
      | false =>
        rw [hz] at hn
        simp only [cond_false] at hn ⊢
        split at hn <;> first | rfl | exact hn.elim
    · exact hn.elim
  case indexAddr t x i => split at hn <;> first | rfl | exact hn.elim
  case index t x i => split at hn <;> first | rfl | exact hn.elim
  case extract x n =>
    split at hn
    · split at hn <;> first | rfl | exact hn.elim
    · exact hn.elim
  case call c =>
    obtain ⟨cal, xs, ts⟩ := c
    cases cal <;> simp only at hn ⊢ <;> try exact hn.elim
    rename_i b
    cases b <;> simp only at hn ⊢ <;> try exact hn.elim
    case len =>
      split at hn
      · split at hn <;> first | rfl | exact hn.elim
      · exact hn.elim
    case min => split at hn <;> first | rfl | exact hn.elim
    case max => split at hn <;> first | rfl | exact hn.elim
  all_goals first | trivial | exact hn.elim
theorem callA_mem {f : FuncId} {args : List AV} (hq : Nat.beq (callA T M f args).mem.length M.length = true) (hn : (callA T M f args).need) : (callA T M f args).mem = M := by
  have hq' := Nat.eq_of_beq_eq_true hq
  clear hq
  unfold callA at hn hq' ⊢
  cases hH : findH f T.H with
  | some h =>
    rw [hH] at hn
    simp only at hn ⊢
    split at hn
    · split at hn <;> first | rfl | exact hn.elim
    · split at hn <;> first | rfl | exact hn.elim
    · exact hn.elim
  | none =>
    rw [hH] at hn hq'
    simp only at hn hq' ⊢
    cases hH2 : findH2 f T.H2 with
    | some h =>
      rw [hH2] at hn
      simp only at hn ⊢
      split at hn
      · split at hn <;> first | rfl | exact hn.elim
      · exact hn.elim
    | none =>
    rw [hH2] at hn hq'
    simp only at hn hq' ⊢
    cases hE : findE f T.Γ with
    | none => rw [hE] at hn; exact hn.elim
    | some e =>
      rw [hE] at hn hq'
      simp only at hn hq' ⊢
      cases hd : decA M e.ins args with
      | none => rw [hd] at hn; exact hn.elim
      | some x =>
        rw [hd] at hn hq'
        simp only at hn hq' ⊢
        cases hp : hasP e.ins with
        | true => rfl
        | false =>
          rw [hp] at hq'
          simp only [cond_false] at hq' ⊢
          rw [List.length_append, List.length_map] at hq'
          have : (e.new x).length = 0 := by omega
          rw [List.eq_nil_of_length_eq_zero this]
          simp
theorem stepA_mem (hq : quietA o (stepA T tm M o) M = true) (hn : (stepA T tm M o).need) : (stepA T tm M o).mem = M := by
  have hop : stepA T tm M o = opA P tm M o → (stepA T tm M o).mem = M := fun e => by rw [e] at hq hn ⊢; exact opA_mem hq hn
  unfold stepA at hop hn ⊢
  unfold stepA quietA at hq
  cases ho : o.op <;> (try simp only [ho] at hop hn hq ⊢)
  case call c =>
    obtain ⟨cal, args, ts⟩ := c
    cases cal <;> (try simp only at hop hn hq ⊢)
    case value fn =>
      split at hn
      · rename_i f ids hf
        simp only [hf] at hq
        exact callA_mem hq hn
      · split at hn
        · split at hn <;> first | rfl | exact hn.elim
        · exact hn.elim
      · exact hn.elim
    all_goals exact hop trivial
  all_goals exact hop trivial
theorem opA_congr {tm' : List AV} (h : ∀ x ∈ o.op.operands, evalA tm x = evalA tm' x) : opA P tm M o = opA P tm' M o := by
  unfold opA
  cases ho : o.op <;> simp only [ho, Op.operands] at h ⊢
  case makeFunc fn first captured =>
    have : captured.toList.map (evalA tm) = captured.toList.map (evalA tm') := List.map_congr_left fun x hx => h x (by simp at hx ⊢; exact .inr hx)
    cases fn <;> simp only [this]
  case unOp op t x =>
    have := h x (by simp)
    cases op <;> simp only [this]
  case slice t x lo hi mx => cases lo <;> cases hi <;> cases mx <;> simp_all
  case call c =>
    obtain ⟨cal, args, ts⟩ := c
    simp only [Call.operands] at h
    cases cal <;> simp only at h ⊢
    rename_i b
    have hm : args.toList.map (evalA tm) = args.toList.map (evalA tm') := List.map_congr_left fun x hx => h x (by simp at hx ⊢; exact hx)
    cases b <;> simp only [hm] <;> try rfl
    cases hts : ts.toList with
    | nil => rfl
    | cons t l =>
      cases l with
      | cons _ _ => rfl
      | nil =>
        cases hxs : args.toList with
        | nil => rfl
        | cons x k =>
          cases k with
          | cons _ _ => rfl
          | nil =>
            have : evalA tm x = evalA tm' x := h x (by
              have : x ∈ args.toList := by rw [hxs]; exact List.mem_singleton.2 rfl
              simp at this ⊢
              exact this)
            simp only [this]
  all_goals first | rfl | (simp_all; done)
theorem stepA_congr {tm' : List AV} (h : ∀ x ∈ o.op.operands, evalA tm x = evalA tm' x) : stepA T tm M o = stepA T tm' M o := by
  have h2 := opA_congr (P := P) (M := M) h
  unfold stepA
  cases ho : o.op <;> simp only [ho, Op.operands] at h ⊢
  case call c =>
    obtain ⟨cal, args, ts⟩ := c
    simp only [Call.operands] at h
    cases cal <;> simp only at h ⊢
    case value fn =>
      rw [h fn (by simp)]
      have hm : args.toList.map (evalA tm) = args.toList.map (evalA tm') := List.map_congr_left fun x hx => h x (by simp at hx ⊢; exact .inr hx)
      rw [hm]
    all_goals exact h2
  all_goals exact h2
theorem evalA_put {dst : Option Tmp} {v : AV} {x : Operand} (h : ∀ d, dst = some d → x ≠ .tmp d) : evalA (putA tm dst v) x = evalA tm x := by
  cases dst with
  | none => rfl
  | some d =>
    cases x with
    | tmp t =>
      have hne : d ≠ t := fun e => h d rfl (by rw [e])
      show (tm.set d v).getD t .any = tm.getD t .any
      rw [List.getD_eq_getElem?_getD, List.getD_eq_getElem?_getD, List.getElem?_set_ne hne]
    | const v => rfl
    | global g => rfl
    | func f => rfl
theorem stepA_put {dst : Option Tmp} {v : AV} (h : ∀ d, dst = some d → d ∉ o.looksAt ops) : stepA T (putA tm dst v) M o = stepA T tm M o :=
  stepA_congr fun x hx => evalA_put fun d hd hxd => h d hd (by
    subst hxd
    exact List.mem_append_left _ (List.mem_filterMap.2 ⟨.tmp d, by simpa using hx, rfl⟩))
/-- is it wanted? -/
def wantA (ops : Array Oper) (o : Oper) (tm : List AV) : Option Bool :=
  match o.guard with
  | none => some true
  | some (j, want) => match (ops[j]?).bind (·.dst) with
    | some d => match tm.getD d .any with
      | .w (.c (.bool g)) => some (g == want)
      | .any => none
      | .w (.c (.raw _)) => none
      | .w (.c (.row _ _)) => none
      | _ => some false
    | none => none
theorem wantA_put {dst : Option Tmp} {v : AV} (h : ∀ d, dst = some d → d ∉ o.looksAt ops) : wantA ops o (putA tm dst v) = wantA ops o tm := by
  unfold wantA
  cases hg : o.guard with
  | none => rfl
  | some gw =>
    obtain ⟨j, want⟩ := gw
    simp only
    cases ht : (ops[j]?).bind (·.dst) with
    | none => rfl
    | some t =>
      have : (putA tm dst v).getD t .any = tm.getD t .any := by
        cases dst with
        | none => rfl
        | some d =>
          have hne : d ≠ t := fun e => h d rfl (by subst e; simp [Oper.looksAt, hg, ht])
          show (tm.set d v).getD t .any = tm.getD t .any
          rw [List.getD_eq_getElem?_getD, List.getD_eq_getElem?_getD, List.getElem?_set_ne hne]
      simp only [this]
theorem putA_comm {x y : Option Tmp} (v u : AV) (h : ∀ d, x = some d → y ≠ some d) : putA (putA tm x v) y u = putA (putA tm y u) x v := by
  cases x with
  | none => rfl
  | some d =>
    cases y with
    | none => rfl
    | some e =>
      have hne : d ≠ e := fun q => h d rfl (by rw [q])
      show (tm.set d v).set e u = (tm.set e u).set d v
      rw [List.set_comm _ _ hne]
/-- operation number 'i' comes up -/
def qA (T : Tab P) (ops : Array Oper) (M : Mem) (i : Nat) (K : List AV → Prop) (tm : List AV) : Prop :=
  match ops[i]? with
  | none => K tm
  | some o => match wantA ops o tm with
    | some true => ((stepA T tm M o).need ∧ (stepA T tm M o).mem = M) ∧ K (putA tm o.dst (stepA T tm M o).val)
    | some false => K (putA tm o.dst undefA)
    | none => False
theorem qA_mono {i : Nat} {K K' : List AV → Prop} (h : ∀ a, K a → K' a) (hh : qA T ops M i K tm) : qA T ops M i K' tm := by
  unfold qA at *
  split
  · rename_i ho; simp only [ho] at hh; exact h _ hh
  · rename_i o ho
    simp only [ho] at hh
    split
    · rename_i hw; simp only [hw] at hh; exact ⟨hh.1, h _ hh.2⟩
    · rename_i hw; simp only [hw] at hh; exact h _ hh
    · rename_i hw; simp only [hw] at hh
/-- whatever order is picked from here on -/
def anyA (T : Tab P) (md : Region.Mode) (ops : Array Oper) (M : Mem) (Q : List AV → Prop) : Nat → Array Bool → List AV → Prop
  | 0, listed, tm => Region.ready md ops listed = [] ∧ Q tm
  | fuel + 1, listed, tm => (Region.ready md ops listed = [] → Q tm) ∧ ∀ i ∈ Region.ready md ops listed, qA T ops M i (anyA T md ops M Q fuel (listed.setIfInBounds i true)) tm
def Yld (T : Tab P) (ops : Array Oper) (M : Mem) (o : Oper) (v : AV) (tm : List AV) : Prop :=
  (wantA ops o tm = some true ∧ ((stepA T tm M o).need ∧ (stepA T tm M o).mem = M) ∧ v = (stepA T tm M o).val) ∨ (wantA ops o tm = some false ∧ v = undefA)
theorem Yld.qA {i : Nat} {v : AV} (hi : ops[i]? = some o) (hy : Yld T ops M o v tm) {K : List AV → Prop} (h : K (putA tm o.dst v)) : qA T ops M i K tm := by
  unfold Go.Proofs.Ytigakalkkaoflaa.qA
  simp only [hi]
  rcases hy with ⟨hw, hv, rfl⟩ | ⟨hw, rfl⟩
  · simp only [hw]; exact ⟨hv, h⟩
  · simp only [hw]; exact h
theorem yld_of_qA {i : Nat} {K : List AV → Prop} (hi : ops[i]? = some o) (h : qA T ops M i K tm) : ∃ v, Yld T ops M o v tm ∧ K (putA tm o.dst v) := by
  unfold qA at h
  simp only [hi] at h
  split at h
  · rename_i hw; exact ⟨_, .inl ⟨hw, h.1, rfl⟩, h.2⟩
  · rename_i hw; exact ⟨_, .inr ⟨hw, rfl⟩, h⟩
  · exact h.elim
theorem qA_put {j : Nat} {oi oj : Oper} {v : AV} (hj : ops[j]? = some oj) (hap : oi.apart ops oj = true) {K : List AV → Prop} (hy : Yld T ops M oi v tm) (h : qA T ops M j K (putA tm oi.dst v)) :
    qA T ops M j (fun a' => Yld T ops M oi v a' ∧ K (putA a' oi.dst v)) tm := by
  obtain ⟨h1, h2, h3⟩ := Oper.apart_spec hap
  have keep : ∀ u, Yld T ops M oi v (putA tm oj.dst u) := fun u => by
    unfold Yld
    rw [wantA_put h3, stepA_put h3]
    exact hy
  unfold qA at *
  simp only [hj] at *
  rw [wantA_put h1, stepA_put h1] at h
  split
  · rename_i hw
    simp only [hw] at h
    exact ⟨h.1, keep _, by rw [← putA_comm _ _ h2]; exact h.2⟩
  · rename_i hw
    simp only [hw] at h
    exact ⟨keep _, by rw [← putA_comm _ _ h2]; exact h⟩
  · rename_i hw
    simp only [hw] at h
theorem anyA_first {md : Region.Mode} {Q : List AV → Prop} {i : Nat} {oi : Oper} {v : AV} (hi : ops[i]? = some oi) :
    ∀ (fuel : Nat) (listed : Array Bool) (tm : List AV),
      (∀ j oj, ops[j]? = some oj → j ≠ i → listed.getD j true = false → (∀ e ∈ oj.after, Region.binds md e = true → e.on ≠ i) → oi.apart ops oj = true) →
      i ∈ Region.ready md ops listed → Yld T ops M oi v tm →
      anyA T md ops M Q fuel (listed.setIfInBounds i true) (putA tm oi.dst v) → anyA T md ops M Q (fuel + 1) listed tm := by
  intro fuel
  induction fuel with
  | zero =>
    intro listed tm _ hr hy H
    refine ⟨fun h => (by rw [h] at hr; cases hr), fun j hj => ?_⟩
    by_cases hji : j = i
    · subst hji; exact hy.qA hi H
    · have := ready_mono hj hji
      rw [H.1] at this
      cases this
  | succ fuel ih =>
    intro listed tm hfree hr hy H
    refine ⟨fun h => (by rw [h] at hr; cases hr), fun j hj => ?_⟩
    by_cases hji : j = i
    · subst hji; exact hy.qA hi H
    · have h1 := H.2 j (ready_mono hj hji)
      obtain ⟨hjun, oj, hoj, hall⟩ := mem_ready.1 hj
      have hnot : ∀ e ∈ oj.after, Region.binds md e = true → e.on ≠ i := fun e he hb heq => by
        have h1 := hall e he hb
        have h0 := (mem_ready.1 hr).1
        rw [heq] at h1
        rcases Nat.lt_or_ge i listed.size with h' | h'
        · simp [h'] at h0 h1; rw [h0] at h1; cases h1
        · simp [Array.getElem?_eq_none h'] at h1
      have h2 := qA_put hoj (hfree j oj hoj hji hjun hnot) hy h1
      have hfree' : ∀ k ok, ops[k]? = some ok → k ≠ i → (listed.setIfInBounds j true).getD k true = false →
          (∀ e ∈ ok.after, Region.binds md e = true → e.on ≠ i) → oi.apart ops ok = true := fun k ok hk hki hun hno => by
        refine hfree k ok hk hki ?_ hno
        by_cases hjk : j = k
        · subst hjk; exact hjun
        · rw [getD_set_ne true hjk] at hun; exact hun
      refine qA_mono (fun a' h3 => ih (listed.setIfInBounds j true) a' hfree' (ready_mono hr (Ne.symm hji)) h3.1 ?_) h2
      rw [Array.setIfInBounds_comm _ _ hji]
      exact h3.2
theorem vcOpsD_lex {md : Region.Mode} {Q : List AV → Prop} : ∀ (l : List Oper) (k : Nat) (listed : Array Bool) (tm : List AV), (∀ j, l[j]? = ops[k + j]?) →
    Region.lexFrom md ops l.length k listed = true → vcOpsD T ops.toList l tm M Q → anyA T md ops M Q l.length listed tm
  | [], _, _, _, _, hB, h => ⟨by simpa [Region.lexFrom] using hB, h⟩
  | o :: l, k, listed, tm, hl, hB, h => by
    have h0 : ops[k]? = some o := by simpa using (hl 0).symm
    simp only [List.length_cons, Region.lexFrom, Bool.and_eq_true] at hB
    obtain ⟨⟨hr, hf⟩, hB'⟩ := hB
    have go1 : ∀ v, Yld T ops M o v tm → vcOpsD T ops.toList l (putA tm o.dst v) M Q → anyA T md ops M Q (o :: l).length listed tm := fun v hy hK =>
      anyA_first h0 l.length listed tm (Region.free_spec h0 hf) (by simpa using hr) hy
        (vcOpsD_lex l (k + 1) _ _ (fun j => by have := hl (j + 1); simpa [Nat.add_assoc, Nat.add_comm 1 j] using this) hB' hK)
    have qn : ∀ tm', (bif quietA o (stepA T tm' M o) M then (stepA T tm' M o).need else False) → (stepA T tm' M o).need ∧ (stepA T tm' M o).mem = M := fun tm' h => by
      cases hq : quietA o (stepA T tm' M o) M with
      | true => rw [hq] at h; exact ⟨h, stepA_mem hq h⟩
      | false => rw [hq] at h; exact h.elim
    unfold vcOpsD at h
    cases hgd : o.guard with
    | none =>
      rw [hgd] at h
      exact go1 _ (.inl ⟨by unfold wantA; rw [hgd], qn _ h.1, rfl⟩) h.2
    | some jw =>
      obtain ⟨j, want⟩ := jw
      rw [hgd] at h
      simp only at h
      cases hd : (ops.toList[j]?).bind (·.dst) with
      | none => rw [hd] at h; exact h.elim
      | some d =>
        rw [hd] at h
        simp only at h
        have hd' : (ops[j]?).bind (·.dst) = some d := by rw [← Array.getElem?_toList]; exact hd
        have wnt : wantA ops o tm = (match tm.getD d .any with
          | .w (.c (.bool g)) => some (g == want)
          | .any => none
          | .w (.c (.raw _)) => none
          | .w (.c (.row _ _)) => none
          | _ => some false) := by
          unfold wantA
          rw [hgd]
          simp only [hd']
        split at h
        · rename_i g hq
          rw [hq] at wnt
          have hs : tm.set d (.c (.bool g)) = tm := set_same hq (by simp)
          cases want <;> cases g <;> simp only [hs] at h wnt
          · exact go1 _ (.inl ⟨wnt, qn _ h.1, rfl⟩) h.2
          · exact go1 _ (.inr ⟨wnt, rfl⟩) h
          · exact go1 _ (.inr ⟨wnt, rfl⟩) h
          · exact go1 _ (.inl ⟨wnt, qn _ h.1, rfl⟩) h.2
        · exact h.elim
        · exact h.elim
        · exact h.elim
        · rename_i h1 h2 h3 h4
          refine go1 _ (.inr ⟨?_, rfl⟩) h
          rw [wnt]
          split
          · rename_i g hq; exact absurd hq (h1 g)
          · rename_i hq; exact absurd hq h2
          · rename_i u hq; exact absurd hq (h3 u)
          · rename_i i v hq; exact absurd hq (h4 i v)
          · rfl
theorem any_of_A {Q : List AV → Prop} {Q' : Exit → Act → World → Prop} {W0 : World} (hT : TabOk X W0 T) (hQ : ∀ tm a W E, Q tm → RepA X tm M a W E → Grow W0 [] W E → Q' .normal a W) : ∀ (fuel : Nat) (listed : Array Bool) (tm : List AV) (a : Act) (W : World) (E : Env),
    RepA X tm M a W E → Grow W0 [] W E → anyA T .any ops M Q fuel listed tm → wpAny P .any ops Q' fuel listed a W
  | 0, _, _, _, _, _, hr, hg, h => ⟨h.1, hQ _ _ _ _ h.2 hr hg⟩
  | fuel + 1, listed, tm, a, W, E, hr, hg, h => by
    refine ⟨fun h0 => hQ _ _ _ _ (h.1 h0) hr hg, fun i hi => ?_⟩
    have hh := h.2 i hi
    unfold qA at hh
    unfold wpOp
    cases ho : ops[i]? with
    | none => rw [ho] at hh; exact any_of_A hT hQ fuel _ _ _ _ _ hr hg hh
    | some o =>
      rw [ho] at hh
      simp only at hh ⊢
      have wnt : ∀ b, wantA ops o tm = some b → Region.wanted o (yielded ops a.tmps) = b := fun b hb => by
        unfold wantA at hb
        unfold Region.wanted
        cases hgd : o.guard with
        | none => rw [hgd] at hb; exact Option.some.inj hb
        | some jw =>
          obtain ⟨j, want⟩ := jw
          rw [hgd] at hb
          simp only at hb ⊢
          cases hd : (ops[j]?).bind (·.dst) with
          | none => rw [hd] at hb; cases hb
          | some d =>
            rw [hd] at hb
            simp only at hb
            have hd' : (ops.toList[j]?).bind (·.dst) = some d := by rw [Array.getElem?_toList]; exact hd
            split at hb
            · rename_i g hq
              have := yielded_of hd' hr.tmps hq
              rw [show yielded ops a.tmps j = some g from this, ← Option.some.inj hb]
              cases g <;> cases want <;> rfl
            · cases hb
            · cases hb
            · cases hb
            · rename_i h1 h2 h3 h4
              have := yielded_not hd' hr.tmps rfl h1 h2 h3 h4
              rw [show yielded ops a.tmps j = none from this, ← Option.some.inj hb]
              rfl
      split at hh
      · rename_i hw
        rw [if_pos (wnt _ hw)]
        refine .inl (stepA_sound hT hg hr.mem hr.tmps hh.1.1 _ _ fun u W' E' g m r hv => ?_)
        rw [hh.1.2] at m r hv
        exact any_of_A hT hQ fuel _ _ _ _ _ ⟨r, putA_rep (hr.tmps.mono g m) hv, by rw [put_defers]; exact hr.dfr⟩ (hg.trans g) hh.2
      · rename_i hw
        rw [if_neg (by rw [wnt _ hw]; exact Bool.false_ne_true)]
        exact any_of_A hT hQ fuel _ _ _ _ _ (hr.skip _) hg hh
      · exact hh.elim
end
end Go.Proofs.Ytigakalkkaoflaa
