/-
  One step of the abstract machine, a call or another operation, gives the model's step.
  Plain: no program. No condition.
-/
import Derived.Test.YtkompmgleojmlaaDoorEBmH
set_option linter.unusedSimpArgs false
set_option linter.unusedVariables false
namespace Go.Proofs.YtkompmgleojmlaaDoor
open Go.ChangeShapes Go.WideShapes Go.ChangeAt Go.RowKit Go.Joins Go.Deep
open GoRep (rep bulk)

section
variable {P : Program} {X : List Nat} {W : World} {E : Env} {M : Mem} {a : Act} {tm : List AV} {o : Oper} {T : Tab P}
/-- the operation is carried out, and what follows finds what the abstract one says -/
def DoesW (X : List Nat) (P : Program) (o : Oper) (a : Act) (W : World) (E : Env) (M : Mem) (v : AV) (M' : Mem) : Prop :=
  ∀ (next : Act → World → Prop) (Q : Exit → Act → World → Prop), (∀ u W' E', Grow W E W' E' → MemOk W E M W' E' M' → RepM X W' E' M' → RepV X W' E' M' v u → next (a.put o.dst u) W') → o.wp P a W next Q
theorem Does.toW {v : AV} {M' : Mem} (h : Does X P o a W E M v M') : DoesW X P o a W E M v M' := fun next Q hK => by
  obtain ⟨u, W', E', h1, g, m, r, hv⟩ := h
  unfold Oper.wp
  rcases h1 with h1 | ⟨h1, rfl⟩
  · rw [h1]; exact hK _ _ _ g m r hv
  · rw [h1]; exact hK _ _ _ g m r hv
theorem exec_call {fn : Operand} {args : Array Operand} {ts : Array TypeId} {f : FuncId} {caps : Array Value} (ho : o.op = .call ⟨.value fn, args, ts⟩) (hf : a.eval fn = .func (.func f) #[] caps)
    (hent : ∀ args w, (callFunc f args).run P w = .ok (.enter f args) w) : (execOp a.eval o).run P W = .ok (.enter f (args.map a.eval ++ caps)) W := by
  unfold execOp
  simp only [ho, resolve, hf, Deferred.ofValue, Sem.run_bind, Sem.run_pure, Result.andThen_ok, invoke, Array.empty_append, hent]
theorem doesW_call {fn : Operand} {args : Array Operand} {ts : Array TypeId} {f : FuncId} {caps : List Value} {v : AV} {M' : Mem} (ho : o.op = .call ⟨.value fn, args, ts⟩) (hf : a.eval fn = .func (.func f) #[] caps.toArray)
    (hent : ∀ args w, (callFunc f args).run P w = .ok (.enter f args) w)
    (hc : Calls P f (args.toList.map a.eval ++ caps).toArray W (fun e W' => ∃ u E', e = .returned u ∧ Grow W E W' E' ∧ MemOk W E M W' E' M' ∧ RepM X W' E' M' ∧ RepV X W' E' M' v u)) : DoesW X P o a W E M v M' := fun next Q hK => by
  unfold Oper.wp
  rw [exec_call ho hf hent, Oper.upon_enter]
  have e1 : args.map a.eval ++ caps.toArray = (args.toList.map a.eval ++ caps).toArray := by
    rw [← List.append_toArray, ← Array.toList_map]
  rw [e1]
  refine hc.mono fun e W' h => ?_
  obtain ⟨u, E', rfl, g, m, r, hv⟩ := h
  exact hK u W' E' g m r hv
theorem findE_eq {f : FuncId} : ∀ {l : List (Entry P)} {e : Entry P}, findE f l = some e → e.f = f
  | [], _, h => by cases h
  | d :: l, e, h => by
    unfold findE at h
    cases hb : Nat.beq d.f f with
    | true => rw [hb] at h; obtain rfl := Option.some.inj h; exact Nat.eq_of_beq_eq_true hb
    | false => rw [hb] at h; exact findE_eq h
theorem findH_eq {f : FuncId} : ∀ {l : List (HEntry P)} {e : HEntry P}, findH f l = some e → e.f = f
  | [], _, h => by cases h
  | d :: l, e, h => by
    unfold findH at h
    cases hb : Nat.beq d.f f with
    | true => rw [hb] at h; obtain rfl := Option.some.inj h; exact Nat.eq_of_beq_eq_true hb
    | false => rw [hb] at h; exact findH_eq h
theorem findH2_eq {f : FuncId} : ∀ {l : List (HEntry2 P)} {e : HEntry2 P}, findH2 f l = some e → e.f = f
  | [], _, h => by cases h
  | d :: l, e, h => by
    unfold findH2 at h
    cases hb : Nat.beq d.f f with
    | true => rw [hb] at h; obtain rfl := Option.some.inj h; exact Nat.eq_of_beq_eq_true hb
    | false => rw [hb] at h; exact findH2_eq h
theorem bps_rep : ∀ {ids : List Nat} {vs : List Value}, capsAt E ids vs → RepT X W E M (ids.map (fun i => .c (.bp i 0))) vs
  | [], _, h => h
  | _ :: _, _, ⟨v, r, e, h1, h2⟩ => ⟨v, r, e, h1, bps_rep h2⟩
theorem RepT.append : ∀ {l k : List AV} {vs us : List Value}, RepT X W E M l vs → RepT X W E M k us → RepT X W E M (l ++ k) (vs ++ us)
  | [], _, _, _, h, h2 => by rw [show _ = _ from h]; exact h2
  | _ :: _, _, _, _, ⟨v, r, e, h1, h3⟩, h2 => by rw [e]; exact ⟨v, _, rfl, h1, RepT.append h3 h2⟩
def rawC : AC → Bool
  | .raw _ => true
  | .bp _ _ => true
  | .ep _ _ _ _ _ => true
  | .row _ _ => true
  | .rp _ _ _ _ _ => true
  | .sl _ _ _ _ _ _ => true
  | .sp _ _ _ _ _ _ _ _ _ => true
  | .tl _ _ _ _ => true
  | .mp _ => true
  | .junk => true
  | .hs (.at _ _ _) _ _ => true
  | .fn _ _ => true
  | _ => false
theorem cellsOf_raw : ∀ (t : Ty) (x : t.den), ∀ c ∈ cellsOf t x, rawC c = false
  | .int _, _, c, h => by obtain rfl := List.mem_singleton.1 h; rfl
  | .bool, _, c, h => by obtain rfl := List.mem_singleton.1 h; rfl
  | .str, _, c, h => by obtain rfl := List.mem_singleton.1 h; rfl
  | .opq, _, c, h => by obtain rfl := List.mem_singleton.1 h; rfl
  | .prod a b, x, c, h => (List.mem_append.1 h).elim (cellsOf_raw a _ c) (cellsOf_raw b _ c)
  | .list _, _, c, h => by obtain rfl := List.mem_singleton.1 h; rfl
theorem decT_eq : ∀ (t : Ty) {l : List AC} {x : t.den} {rest : List AC}, (∀ c ∈ l, rawC c = false) → decT M t l = some (x, rest) → l = cellsOf t x ++ rest
  | .int k, l, x, rest, hl, h => by
    have h : decInt k l = some (x, rest) := h
    unfold decInt at h
    split at h
    · split at h
      · rename_i hk
        subst hk
        obtain ⟨rfl, rfl⟩ := Prod.mk.inj (Option.some.inj h)
        rfl
      · cases h
    · cases h
  | .bool, l, x, rest, hl, h => by
    have h : decBool l = some (x, rest) := h
    unfold decBool at h
    split at h
    · obtain ⟨rfl, rfl⟩ := Prod.mk.inj (Option.some.inj h)
      rfl
    · cases h
  | .opq, l, x, rest, hl, h => by
    have h : decOpq l = some (x, rest) := h
    unfold decOpq at h
    split at h
    · obtain ⟨rfl, rfl⟩ := Prod.mk.inj (Option.some.inj h)
      rfl
    · cases h
  | .str, l, x, rest, hl, h => by
    have h : decStr l = some (x, rest) := h
    unfold decStr at h
    split at h
    · obtain ⟨rfl, rfl⟩ := Prod.mk.inj (Option.some.inj h)
      rfl
    · cases h
  | .prod a b, l, x, rest, hl, h => by
    unfold decT at h
    cases ha : decT M a l with
    | none => rw [ha] at h; cases h
    | some q =>
      obtain ⟨y, l1⟩ := q
      rw [ha] at h
      simp only at h
      cases hb : decT M b l1 with
      | none => rw [hb] at h; cases h
      | some q =>
        obtain ⟨z, r2⟩ := q
        rw [hb] at h
        obtain ⟨rfl, rfl⟩ := Prod.mk.inj (Option.some.inj h)
        have h1 := decT_eq a hl ha
        have h2 := decT_eq b (fun c hc => hl c (by rw [h1]; simp [hc])) hb
        rw [h1, h2]
        show _ = (cellsOf a y ++ cellsOf b z) ++ r2
        rw [List.append_assoc]
  | .list a, l, x, rest, hl, h => by
    have h : decList M a l = some (x, rest) := h
    cases l with
    | nil => cases h
    | cons c l =>
      have hc := hl c List.mem_cons_self
      cases c with
      | hs L t xs =>
        cases L with
        | no =>
          have h : (if h : t = a then some (h ▸ xs, l) else none) = some (x, rest) := h
          split at h
          · rename_i hk
            subst hk
            obtain ⟨rfl, rfl⟩ := Prod.mk.inj (Option.some.inj h)
            rfl
          · cases h
        | «at» i v c => cases hc
      | int k x => cases h
      | bool b => cases h
      | str s => cases h
      | opq s => cases h
      | bp i o => cases h
      | fn f l => cases hc
      | raw v => cases hc
      | _ => cases hc
theorem enc1_raw {t : Ty} {x : t.den} : rawC (enc1 t x) = false := by
  unfold enc1
  have h := cellsOf_raw t x
  cases hc : cellsOf t x with
  | nil => rfl
  | cons c l => rw [hc] at h; exact h c List.mem_cons_self
theorem decA1_el {agg : Bool} {t : Ty} {x : t.den} {y : ATy} {d : y.ty.den} (h : decA1 M y (encEl agg t x) = some d) : encEl agg t x = .w (encA1 y d) := by
  cases agg with
  | true =>
    have he : encEl true t x = .w (.ag (cellsOf t x)) := rfl
    rw [he] at h ⊢
    cases y with
    | v t' => cases h
    | p t' => cases h
    | s t' =>
      have h : (match decT M t' (cellsOf t x) with | some (x, []) => some x | _ => none) = some d := h
      split at h
      · rename_i z hz
        obtain rfl := Option.some.inj h
        have := decT_eq t' (cellsOf_raw t x) hz
        rw [List.append_nil] at this
        rw [this]
        rfl
      · cases h
  | false =>
    have he : encEl false t x = .w (.c (enc1 t x)) := rfl
    have hr := enc1_raw (t := t) (x := x)
    rw [he] at h ⊢
    cases y with
    | s t' => cases h
    | p t' =>
      revert h hr
      generalize enc1 t x = c
      intro hr h
      cases c <;> first | (simp [rawC] at hr; done) | (simp [decA1] at h; done)
    | v t' =>
      have h : (match decT M t' [enc1 t x] with | some (x, []) => some x | _ => none) = some d := h
      split at h
      · rename_i z hz
        obtain rfl := Option.some.inj h
        have := decT_eq t' (fun c hc => by obtain rfl := List.mem_singleton.1 hc; exact hr) hz
        rw [List.append_nil] at this
        show _ = AV.w (.c (enc1 t' z))
        unfold enc1 at this ⊢
        rw [← this]
        rfl
      · cases h
theorem decT_bp {i : Nat} : ∀ t : Ty, decT M t [.bp i 0] = none
  | .int _ => rfl
  | .bool => rfl
  | .str => rfl
  | .opq => rfl
  | .prod a b => by unfold decT; rw [decT_bp a]
  | .list _ => rfl
def cvsOf : (l : List ATy) → AD l → List CV
  | [], _ => []
  | a :: l, d => ⟨a.ty, d.1⟩ :: cvsOf l d.2
theorem decA_caps (hM : RepM X W E M) : ∀ {l : List ATy} {ids : List Nat} {d : AD l} {vs : List Value}, decA M l (ids.map (fun i => .c (.bp i 0))) = some d → capsAt E ids vs →
    encA l d = (cvsOf l d).map CV.arg ∧ capsV X W (cvsOf l d) vs
  | [], [], _, _, _, h => ⟨rfl, h⟩
  | [], _ :: _, _, _, h, _ => by simp [decA] at h
  | _ :: _, [], _, _, h, _ => by simp [decA] at h
  | y :: l, i :: ids, d, vs, h, ⟨v, r, e, h1, h2⟩ => by
    rw [List.map_cons] at h
    unfold decA at h
    cases hq : decA1 M y (.c (.bp i 0)) with
    | none => rw [hq] at h; cases h
    | some z =>
      rw [hq] at h
      simp only at h
      cases hz : decA M l (ids.map (fun i => .c (.bp i 0))) with
      | none => rw [hz] at h; cases h
      | some ys =>
        rw [hz] at h
        obtain rfl : (z, ys) = d := Option.some.inj h
        obtain ⟨k1, k2⟩ := decA_caps hM hz h2
        have hrep := decA1_rep (X' := X) (W := W) hM (fun b hb => .inl hb) hq (show RepV X W E M (.c (.bp i 0)) v from h1)
        have hshape : encA1 y z = CV.arg ⟨y.ty, z⟩ := by
          cases y with
          | v t =>
            exfalso
            have hq : (match decT M t [.bp i 0] with | some (x, []) => some x | _ => none) = some z := hq
            rw [decT_bp] at hq
            cases hq
          | s t => cases hq
          | p t => rfl
        refine ⟨?_, v, r, e, ?_, k2⟩
        · show encA1 y z :: encA l ys = CV.arg ⟨y.ty, z⟩ :: (cvsOf l ys).map CV.arg
          rw [hshape, k1]
        · rw [hshape] at hrep
          exact hrep
end
end Go.Proofs.YtkompmgleojmlaaDoor
