/-
  Several texts in one.
-/
import Derived.Test.YtoigkpkafgjeaaaGreatDoorOBmJ
import Derived.Laws.Cover3
import Derived.Test.YtoigkpkafgjeaaaGreatDoorOTypes
set_option linter.unusedSimpArgs false
set_option linter.unusedVariables false
namespace Go.Proofs.YtoigkpkafgjeaaaGreatDoor
open Go.ChangeShapes Go.WideShapes Go.ChangeAt Go.RowKit Go.Joins Go.Deep
open GoRep (rep bulk)

section
variable {P : Program} {X : List Nat} {W : World} {E : Env} {M : Mem} {a : Act} {tm : List AV} {o : Oper} {T : Tab P}
/-- the frame and the world stand for the abstract state -/
structure RepA (X : List Nat) (tm : List AV) (M : Mem) (a : Act) (W : World) (E : Env) : Prop where
  mem : RepM X W E M
  tmps : RepT X W E M tm a.tmps.toList
  dfr : a.defers = []
theorem wpList_one {all : List Oper} {os : List Oper} {Q : Exit → Act → World → Prop} (hw : Region.wanted o (yielded all.toArray a.tmps) = true) (h : o.wp P a W (wpList P all.toArray Q os) Q) : wpList P all.toArray Q (o :: os) a W := by
  unfold wpList
  rw [if_pos hw]
  exact .inl h
theorem wpList_skip {all : List Oper} {os : List Oper} {Q : Exit → Act → World → Prop} (hw : Region.wanted o (yielded all.toArray a.tmps) = false) (h : wpList P all.toArray Q os (a.put o.dst undef) W) : wpList P all.toArray Q (o :: os) a W := by
  unfold wpList
  rw [if_neg (by rw [hw]; exact Bool.false_ne_true)]
  exact h
theorem undefA_rep : RepV X W E M undefA undef := ⟨[], rfl, rfl⟩
theorem RepA.skip (h : RepA X tm M a W E) (dst : Option Tmp) : RepA X (putA tm dst undefA) M (a.put dst undef) W E := ⟨h.mem, putA_rep h.tmps undefA_rep, by rw [put_defers]; exact h.dfr⟩
theorem RepA.lit {d : Nat} {g : Bool} (h : RepA X tm M a W E) (hg : tm.getD d .any = .w (.c (.bool g))) : RepA X (tm.set d (.c (.bool g))) M a W E := by
  rw [set_same hg (by simp)]
  exact h
theorem nilQ_run {q : Bool → Prop} (hM : RepM X W E M) (ht : RepT X W E M tm a.tmps.toList) (h : nilQ P tm M o = some q) : ∃ b : Bool, (execOp a.eval o).run P W = .ok (.value (.bool b)) W ∧ q b := by
  unfold nilQ at h
  split at h
  · rename_i op t x yt ho
    split at h
    · rename_i e c hu hx
      split at h
      · rename_i L r hr
        have hp := evalA_rep (M := M) (W := W) (E := E) ht x
        rw [hx] at hp
        obtain ⟨A, cap, F, hv, hs, _⟩ := read_of hM hr hp
        have hn : A.isNone = true → r.xs.length = 0 := fun hA => by
          rcases hs.2.2 with ⟨h1, _⟩ | ⟨_, b, off, G, h1, _⟩
          · rw [h1]; rfl
          · rw [h1] at hA; cases hA
        have hg : ∀ op, (eqGuard op t x (.const (.slice none 0 0)) (.slice A r.xs.length cap) (.slice none 0 0)).run P W = .ok () W := fun op => by
          unfold eqGuard
          cases op <;> rfl
        have he : a.eval (.const (.slice none 0 0)) = .slice none 0 0 := rfl
        split at h
        · obtain rfl := Option.some.inj h
          refine ⟨A.isNone, ?_, hn⟩
          unfold execOp
          simp only [ho, hv, he, Sem.run_bind, hg, Result.andThen_ok, binOp, run_equal_slice_nil W t e A _ _ hu, Sem.run_pure]
        · obtain rfl := Option.some.inj h
          refine ⟨!A.isNone, ?_, fun hb => hn (by simpa using hb)⟩
          unfold execOp
          simp only [ho, hv, he, Sem.run_bind, hg, Result.andThen_ok, binOp, run_equal_slice_nil W t e A _ _ hu, Sem.run_pure]
        · cases h
      · cases h
    · cases h
  · cases h
/-- from the function's beginning on: the world grew, the rows written in place have their value as long as their version is 0 -/
structure Since (T : Tab P) (W0 : World) (E0 : Env) (W : World) (E : Env) (M : Mem) : Prop where
  g : Grow W0 E0 W E
  kept : ∀ i ∈ T.inp, M[i]? = some .dead ∨ ∃ (t : Ty) (xs : List t.den) (v c : Nat) (hh : Option (Nat × Nat × Nat)), M[i]? = some (.row t xs v c hh) ∧ (v = 0 → ∀ e0, E0[i]? = some e0 → ∃ e, E[i]? = some e ∧ e.val = e0.val)
theorem Since.step {W0 W' : World} {E0 E' : Env} {M' : Mem} (h : Since T W0 E0 W E M) (g : Grow W E W' E') (m : MemOk W E M W' E' M') : Since T W0 E0 W' E' M' := by
  refine ⟨h.g.trans g, fun i hi => ?_⟩
  have hm := m i
  rcases h.kept i hi with hd | ⟨t, xs, v, c, hh, h1, h2⟩
  · rw [hd] at hm; exact .inl hm
  · rw [h1] at hm
    rcases hm with hd | ⟨xs', v', c', hh', h3, h4, h5⟩
    · exact .inl hd
    · refine .inr ⟨t, xs', v', c', hh', h3, fun hv e0 he0 => ?_⟩
      obtain ⟨e, q1, q2⟩ := h2 (by omega) e0 he0
      obtain ⟨e', r1, r2, _⟩ := h5 (by omega) e q1
      exact ⟨e', r1, r2.trans q2⟩
theorem vcOps_sound {all : List Oper} {Q : Exit → Act → World → Prop} {W0 : World} {E0 : Env} (hT : TabOk X W0 E0 T) {K : List AV → Mem → Prop} (hK : ∀ tm M a W E, K tm M → RepA X tm M a W E → Since T W0 E0 W E M → Q .normal a W) :
    ∀ (os : List Oper) (tm : List AV) (M : Mem) (a : Act) (W : World) (E : Env), vcOps T all os tm M K → RepA X tm M a W E → Since T W0 E0 W E M → wpList P all.toArray Q os a W
  | [], tm, M, a, W, E, h, hr, hg => hK tm M a W E h hr hg
  | o :: os, tm, M, a, W, E, h, hr, hg => by
    have run : ∀ (tm : List AV), RepA X tm M a W E → Region.wanted o (yielded all.toArray a.tmps) = true → andR (stepA T tm M o) (genG o M (stepA T tm M o).mem (fun M' => vcOps T all os (putA tm o.dst (stepA T tm M o).val) M' K)) → wpList P all.toArray Q (o :: os) a W := fun tm hr hw h => by
      have h := andR_elim h
      refine wpList_one hw (stepA_sound hT hg.g hr.mem hr.tmps h.1 _ _ fun u W' E' g m r hv => ?_)
      exact vcOps_sound hT hK os _ _ _ W' E' (genG_elim h.2) ⟨r, putA_rep (hr.tmps.mono g m hr.mem.len) hv, by rw [put_defers]; exact hr.dfr⟩ (hg.step g m)
    unfold vcOps at h
    cases hgd : o.guard with
    | none =>
      rw [hgd] at h
      simp only at h
      split at h
      · rename_i q hq
        obtain ⟨b, h1, h2⟩ := nilQ_run hr.mem hr.tmps hq
        refine wpList_one (by unfold Region.wanted; rw [hgd]) ?_
        unfold Oper.wp
        rw [h1]
        exact vcOps_sound hT hK os _ _ _ W E (h b h2) ⟨hr.mem, putA_rep hr.tmps rfl, by rw [put_defers]; exact hr.dfr⟩ hg
      · exact run tm hr (by unfold Region.wanted; rw [hgd]) h
    | some jw =>
      obtain ⟨j, want⟩ := jw
      rw [hgd] at h
      simp only at h
      cases hd : (all[j]?).bind (·.dst) with
      | none => rw [hd] at h; exact h.elim
      | some d =>
        rw [hd] at h
        simp only at h
        have wnt : ∀ g, yielded all.toArray a.tmps j = some g → Region.wanted o (yielded all.toArray a.tmps) = (g == want) := fun g hy => by
          unfold Region.wanted
          rw [hgd]
          show (yielded all.toArray a.tmps j == some want) = _
          rw [hy]
          cases g <;> cases want <;> rfl
        split at h
        · rename_i g hq
          have hy := yielded_of hd hr.tmps hq
          have hl := hr.lit hq
          cases want with
          | true =>
            simp only at h
            cases g with
            | true => exact run _ hl (by rw [wnt _ hy]; rfl) h
            | false => exact wpList_skip (by rw [wnt _ hy]; rfl) (vcOps_sound hT hK os _ _ _ W E h (hl.skip _) hg)
          | false =>
            simp only at h
            cases g with
            | true => exact wpList_skip (by rw [wnt _ hy]; rfl) (vcOps_sound hT hK os _ _ _ W E h (hl.skip _) hg)
            | false => exact run _ hl (by rw [wnt _ hy]; rfl) h
        · rename_i l hq
          have hy := yielded_tp hd hr.tmps hq
          refine wpList_skip ?_ (vcOps_sound hT hK os _ _ _ W E h (hr.skip _) hg)
          unfold Region.wanted
          rw [hgd]
          show (yielded all.toArray a.tmps j == some want) = false
          rw [hy]
          rfl
        · exact h.elim
end
end Go.Proofs.YtoigkpkafgjeaaaGreatDoor
set_option linter.unusedSimpArgs false
set_option linter.unusedVariables false
namespace Go.Proofs.YtoigkpkafgjeaaaGreatDoor
open Go.ChangeShapes Go.WideShapes Go.ChangeAt Go.RowKit Go.Joins Go.Deep
open GoRep (rep bulk)

section
variable {P : Program} {X : List Nat} {W : World} {E : Env} {M : Mem} {a : Act} {tm : List AV} {o : Oper} {T : Tab P} {ops : Array Oper}
theorem rowAt_ext {N : Mem} {i v : Nat} {r : RowC} (h : rowAt M i v = some r) : rowAt (M ++ N) i v = some r := by
  have h1 := rowAt_eq h
  have hl := (List.getElem?_eq_some_iff.1 h1).1
  unfold rowAt
  rw [List.getElem?_append_left hl, h1]
  simp
theorem liveL_ext {N : Mem} : ∀ {L : Lnd}, liveL M L = true → liveL (M ++ N) L = true
  | .no, _ => rfl
  | .at i v c, h => by
    have h : liveAt M i v c = true := h
    show liveAt (M ++ N) i v c = true
    unfold liveAt at h ⊢
    split at h
    · rename_i t xs cv cc hM
      rw [List.getElem?_append_left (List.getElem?_eq_some_iff.1 hM).1, hM]
      exact h
    · cases h
theorem rowIx_ext {N : Mem} {i v : Nat} {r : RowC} (h : rowIx M i v = some r) : rowIx (M ++ N) i v = some r := by
  unfold rowIx at h ⊢
  split at h
  · rename_i t xs cv cc hh hM
    rw [List.getElem?_append_left (List.getElem?_eq_some_iff.1 hM).1, hM]
    exact h
  · cases h
theorem readSl_ext {N : Mem} {i v c n k o : Nat} {r : RowC} (h : readSl M i v c n k o = some r) : readSl (M ++ N) i v c n k o = some r := by
  unfold readSl at h ⊢
  split at h
  · rename_i t xs cv cc hM
    rw [List.getElem?_append_left (List.getElem?_eq_some_iff.1 hM).1, hM]
    exact h
  · cases h
theorem readL_ext {N : Mem} {c : AC} {q : Lnd × RowC} (h : readL M c = some q) : readL (M ++ N) c = some q := by
  unfold readL at h ⊢
  split at h
  · rename_i L t xs
    cases hl : liveL M L with
    | false => rw [hl] at h; cases h
    | true => rw [hl] at h; simp only [liveL_ext hl]; exact h
  · rename_i i v
    cases hr : rowAt M i v with
    | none => rw [hr] at h; cases h
    | some r => rw [hr] at h; simp only [rowAt_ext hr]; exact h
  · rename_i i v c n k o
    cases hr : readSl M i v c n k o with
    | none => rw [hr] at h; cases h
    | some r => rw [hr] at h; simp only [readSl_ext hr]; exact h
  · cases h
theorem some_ext {N : Mem} {i : Nat} {b : Blk} (h : M[i]? = some b) : (M ++ N)[i]? = some b := by
  rw [List.getElem?_append_left (List.getElem?_eq_some_iff.1 h).1]
  exact h
theorem cls0_of {n : Nat} (h : clsO T o = n) (hn : n ≤ 1) : cls0 T o = n := by
  unfold clsO at h
  cases hc : isCut T o with
  | true => rw [hc] at h; simp only [cond_true] at h; omega
  | false => rw [hc] at h; exact h
/-- more memory behind: the same -/
def Mono (N : Mem) (M : Mem) (r r' : OR) : Prop := r'.need ∧ r'.val = r.val ∧ r'.mem = M ++ N ∧ r.mem = M
theorem mono_triv {N : Mem} {p : Prop} {v : AV} (h : p) : Mono N M ⟨p, v, M⟩ ⟨p, v, M ++ N⟩ := ⟨h, rfl, rfl, rfl⟩
set_option maxHeartbeats 1000000 in
theorem opA_mono (N : Mem) (hc : clsO T o = 0) (hn : (opA P tm M o).need) : Mono N M (opA P tm M o) (opA P tm (M ++ N) o) := by
  have hc := cls0_of hc (Nat.zero_le 1)
  unfold cls0 at hc
  unfold opA at hn ⊢
  cases ho : o.op <;> simp only [ho] at hn hc ⊢
  case alloc => cases hc
  case box => cases hc
  case store => cases hc
  case buildSlice t _ _ => exfalso; cases hf : flatEl P t <;> rw [hf] at hc <;> cases hc
  case makeSlice => cases hc
  case move => exact mono_triv trivial
  case assign => exact mono_triv trivial
  case pick c x y => split at hn <;> first | exact mono_triv hn | exact hn.elim
  case load t x =>
    split at hn
    · rename_i i q hx
      split at hn
      · rename_i l hb
        simp only [some_ext hb]
        split at hn <;> first | exact mono_triv hn | exact hn.elim
      · exact hn.elim
    · rename_i L t' xs k q hx
      cases hL : liveL M L with
      | false => rw [hL] at hn; exact hn.elim
      | true =>
        simp only [hL, liveL_ext hL, cond_true] at hn ⊢
        split at hn <;> first | exact mono_triv hn | exact hn.elim
    · rename_i i v n k q hx
      cases hr : rowAt M i v with
      | none => rw [hr] at hn; exact hn.elim
      | some r =>
        simp only [hr, rowAt_ext hr] at hn ⊢
        cases hL : Nat.beq n r.t.n with
        | false => rw [hL] at hn; exact hn.elim
        | true =>
          simp only [hL, cond_true] at hn ⊢
          split at hn <;> first | exact mono_triv hn | exact hn.elim
    · rename_i i v c n k o' m y q hx
      cases hr : readSl M i v c n k o' with
      | none => rw [hr] at hn; exact hn.elim
      | some r =>
        simp only [hr, readSl_ext hr] at hn ⊢
        cases hL : Nat.beq m r.t.n with
        | false => rw [hL] at hn; exact hn.elim
        | true =>
          simp only [hL, cond_true] at hn ⊢
          split at hn <;> first | exact mono_triv hn | exact hn.elim
    · exact hn.elim
  case build t parts => split at hn <;> first | exact mono_triv hn | exact hn.elim
  case nilCheck x =>
    split at hn
    · exact mono_triv hn
    · rename_i L t' xs k q hx
      cases hL : liveL M L with
      | false => rw [hL] at hn; exact hn.elim
      | true => simp only [liveL_ext hL, cond_true]; exact mono_triv trivial
    · rename_i i v n k q hx
      cases hr : rowIx M i v with
      | none => rw [hr] at hn; exact hn.elim
      | some r => simp only [rowIx_ext hr, Option.isSome, cond_true]; exact mono_triv trivial
    · rename_i i v c n k o' m y q hx
      cases hr : readSl M i v c n k o' with
      | none => rw [hr] at hn; exact hn.elim
      | some r => simp only [readSl_ext hr, Option.isSome, cond_true]; exact mono_triv trivial
    · exact mono_triv hn
    · exact hn.elim
  case binOp => exact mono_triv hn
  case unOp op t x => cases op <;> simp only at hn ⊢ <;> first | exact hn.elim | (split at hn <;> first | exact mono_triv hn | exact hn.elim)
  case convert s d x =>
    split at hn
    · exact mono_triv hn
    · rename_i c hd hx
      split at hn
      · rename_i e hs
        cases hu : isU8 P e with
        | false => rw [hu] at hn; exact hn.elim
        | true =>
          simp only [hu, cond_true] at hn ⊢
          cases hst : strOf M c with
          | none => rw [hst] at hn; exact hn.elim
          | some xs =>
            rw [hst] at hn
            simp only [strOf_ext (fun q hq => readL_ext hq) hst]
            exact mono_triv hn
      · exact hn.elim
    · exact hn.elim
  case makeFunc fn first captured => cases fn <;> simp only at hn ⊢ <;> first | exact hn.elim | (split at hn <;> first | exact mono_triv hn | exact hn.elim)
  case slice t x lo hi mx =>
    cases mx with
    | some _ => exact hn.elim
    | none =>
      simp only at hn ⊢
      split at hn
      · split at hn <;> first | exact mono_triv hn | exact hn.elim
      · split at hn
        · rename_i c hx
          cases hr : readL M c with
          | none => rw [hr] at hn; exact hn.elim
          | some q =>
            simp only [hr, readL_ext hr] at hn ⊢
            exact mono_triv hn
        · exact hn.elim
      · exact hn.elim
  case fieldAddr s x n =>
    split at hn
    · rename_i f hf
      cases hz : Nat.beq (sizeT P f.type) 0 with
      | true => rw [hz] at hn; exact hn.elim
      | false =>
        rw [hz] at hn
        simp only [cond_false] at hn ⊢
        split at hn
        · exact mono_triv hn
        · rename_i L t' xs k q hx
          cases hL : liveL M L with
          | false => rw [hL] at hn; exact hn.elim
          | true => simp only [liveL_ext hL, cond_true]; exact mono_triv trivial
        · rename_i i v n k q hx
          cases hr : rowIx M i v with
          | none => rw [hr] at hn; exact hn.elim
          | some r => simp only [rowIx_ext hr, Option.isSome, cond_true]; exact mono_triv trivial
        · rename_i i v c n k o' m y q hx
          cases hr : readSl M i v c n k o' with
          | none => rw [hr] at hn; exact hn.elim
          | some r => simp only [readSl_ext hr, Option.isSome, cond_true]; exact mono_triv trivial
        · exact hn.elim
    · exact hn.elim
  case indexAddr t x i =>
    split at hn
    · rename_i e L t' xs k n hu hx hi
      cases hL : liveL M L with
      | false => rw [hL] at hn; exact hn.elim
      | true =>
        simp only [hL, liveL_ext hL, cond_true] at hn ⊢
        exact mono_triv hn
    · rename_i e i v k n hu hx hi
      cases hr : rowIx M i v with
      | none => rw [hr] at hn; exact hn.elim
      | some r =>
        simp only [hr, rowIx_ext hr] at hn ⊢
        exact mono_triv hn
    · rename_i e i v c n' k' o' k n hu hx hi
      cases hr : readSl M i v c n' k' o' with
      | none => rw [hr] at hn; exact hn.elim
      | some r =>
        simp only [hr, readSl_ext hr] at hn ⊢
        exact mono_triv hn
    · exact hn.elim
  case index t x i => split at hn <;> first | exact mono_triv hn | exact hn.elim
  case field s x f =>
    split at hn
    · split at hn
      · split at hn <;> first | exact mono_triv hn | exact hn.elim
      · exact hn.elim
    · exact hn.elim
  case extract x n =>
    split at hn
    · split at hn <;> first | exact mono_triv hn | exact hn.elim
    · exact hn.elim
  case call c =>
    obtain ⟨cal, xs, ts⟩ := c
    cases cal <;> simp only at hn hc ⊢ <;> try exact hn.elim
    rename_i b
    cases b <;> simp only at hn hc ⊢ <;> try exact hn.elim
    case append => cases hc
    case len =>
      split at hn
      · split at hn
        · exact mono_triv hn
        · exact mono_triv hn
        · rename_i e c _ hu hx
          cases hr : readL M c with
          | none => rw [hr] at hn; exact hn.elim
          | some q =>
            simp only [hr, readL_ext hr] at hn ⊢
            exact mono_triv hn
        · exact hn.elim
      · exact hn.elim
    case min => split at hn <;> first | exact mono_triv hn | exact hn.elim
    case max => split at hn <;> first | exact mono_triv hn | exact hn.elim
  all_goals exact hn.elim
theorem stepA_0 (hc : clsO T o ≤ 1) : stepA T tm M o = step0 T tm M o := by
  unfold stepA
  have : Nat.beq (clsO T o) 2 = false := by
    cases h : Nat.beq (clsO T o) 2 with
    | false => rfl
    | true => have := Nat.eq_of_beq_eq_true h; omega
  rw [this]
  rfl
theorem stepA_read (hc : clsO T o = 0) : stepA T tm M o = opA P tm M o := by
  rw [stepA_0 (by omega)]
  unfold step0
  have hc := cls0_of hc (Nat.zero_le 1)
  unfold cls0 at hc
  cases ho : o.op <;> simp only [ho] at hc ⊢
  case call c =>
    obtain ⟨cal, xs, ts⟩ := c
    cases cal <;> first | rfl | skip
    all_goals try (cases hc; done)
    rename_i fn
    cases fn <;> first | (cases hc; done) | skip
    rename_i f
    exfalso
    have hc : (match findM f T.G with | some _ => 2 | none => 1) = 0 := hc
    split at hc <;> cases hc
theorem stepA_mono (N : Mem) (hc : clsO T o = 0) (hn : (stepA T tm M o).need) : Mono N M (stepA T tm M o) (stepA T tm (M ++ N) o) := by
  rw [stepA_read hc] at hn ⊢
  rw [stepA_read hc]
  exact opA_mono N hc hn
theorem callB_ext {f : FuncId} {args : List AV} (hn : (callB T M f args).need) : ∃ N, (callB T M f args).mem = M ++ N := by
  unfold callB at hn ⊢
  cases hH : findH f T.H with
  | some h =>
    rw [hH] at hn
    simp only at hn ⊢
    split at hn
    · split at hn <;> first | exact ⟨[], (List.append_nil M).symm⟩ | exact hn.elim
    · split at hn <;> first | exact ⟨[], (List.append_nil M).symm⟩ | exact hn.elim
    · exact hn.elim
  | none =>
    rw [hH] at hn
    simp only at hn ⊢
    cases hH2 : findH2 f T.H2 with
    | some h =>
      rw [hH2] at hn
      simp only at hn ⊢
      split at hn
      · split at hn <;> first | exact ⟨[], (List.append_nil M).symm⟩ | exact hn.elim
      · exact hn.elim
    | none =>
    rw [hH2] at hn
    simp only at hn ⊢
    cases hE : findE f T.Γ with
    | none => rw [hE] at hn; exact hn.elim
    | some e =>
      rw [hE] at hn
      simp only at hn ⊢
      cases hd : decA M e.ins args with
      | none => rw [hd] at hn; exact hn.elim
      | some x =>
        simp only
        cases hp : hasP e.ins || args.any ownAV with
        | true => exact ⟨e.new x, rfl⟩
        | false => exact ⟨e.new x, rfl⟩
theorem ownT_flat : ∀ {t : Ty} {l : List AC} {x : t.den} {r : List AC} {js : List Nat}, t.flat = true → ownT M t l = some (x, r, js) → js = []
  | .int k, l, x, r, js, _, h => by
    have h : ownInt k l = some (x, r, js) := h
    unfold ownInt at h
    repeat' (first | split at h | (cases h; done))
    all_goals (injection h with h; injection h with h1 h2; injection h2 with h3 h4; exact h4.symm)
  | .bool, l, x, r, js, _, h => by
    have h : ownBool l = some (x, r, js) := h
    unfold ownBool at h
    repeat' (first | split at h | (cases h; done))
    all_goals (injection h with h; injection h with h1 h2; injection h2 with h3 h4; exact h4.symm)
  | .opq, l, x, r, js, _, h => by
    have h : ownOpq l = some (x, r, js) := h
    unfold ownOpq at h
    repeat' (first | split at h | (cases h; done))
    all_goals (injection h with h; injection h with h1 h2; injection h2 with h3 h4; exact h4.symm)
  | .str, l, x, r, js, _, h => by
    have h : ownStr l = some (x, r, js) := h
    unfold ownStr at h
    repeat' (first | split at h | (cases h; done))
    all_goals (injection h with h; injection h with h1 h2; injection h2 with h3 h4; exact h4.symm)
  | .list _, _, _, _, _, hf, _ => by cases hf
  | .prod a b, l, x, r, js, hf, h => by
    have hf : (a.flat && b.flat) = true := hf
    rw [Bool.and_eq_true] at hf
    unfold ownT at h
    cases ha : ownT M a l with
    | none => rw [ha] at h; cases h
    | some q =>
      obtain ⟨y, l1, j1⟩ := q
      rw [ha] at h
      simp only at h
      cases hb : ownT M b l1 with
      | none => rw [hb] at h; cases h
      | some q =>
        obtain ⟨z, r2, j2⟩ := q
        rw [hb] at h
        injection h with h
        injection h with h1 h2
        injection h2 with h3 h4
        rw [← h4, ownT_flat hf.1 ha, ownT_flat hf.2 hb]
        rfl
theorem ownParts_flat {t : Ty} (hf : t.flat = true) : ∀ {l : List (Nat × AV)} {k : Nat} {ys : List t.den} {js : List Nat}, ownParts M t k l = some (ys, js) → js = []
  | [], _, _, _, h => by injection h with h; injection h with h1 h2; exact h2.symm
  | (i, x) :: l, k, ys, js, h => by
    unfold ownParts at h
    cases hb : Nat.beq i k with
    | false => rw [hb] at h; cases h
    | true =>
      rw [hb] at h
      simp only [cond_true] at h
      cases hv : ownV M t x with
      | none => rw [hv] at h; cases h
      | some q =>
        obtain ⟨y, j1⟩ := q
        rw [hv] at h
        simp only at h
        cases hp : ownParts M t (k + 1) l with
        | none => rw [hp] at h; cases h
        | some q =>
          obtain ⟨zs, j2⟩ := q
          rw [hp] at h
          injection h with h
          injection h with h1 h2
          have e2 := ownParts_flat hf hp
          have e1 : j1 = [] := by
            unfold ownV at hv
            split at hv
            · split at hv
              · rename_i hq
                injection hv with hv
                injection hv with _ h3
                rw [← h3]
                exact ownT_flat hf hq
              · cases hv
            · cases hv
          rw [← h2, e1, e2]
          rfl
theorem stepA_ext (hc : clsO T o ≤ 1) (hn : (stepA T tm M o).need) : ∃ N, (stepA T tm M o).mem = M ++ N := by
  by_cases h0 : clsO T o = 0
  · exact ⟨[], by rw [List.append_nil]; exact (stepA_mono [] h0 hn).2.2.2⟩
  · rw [stepA_0 hc] at hn ⊢
    unfold step0 at hn ⊢
    have hcq := cls0_of rfl hc
    rw [← hcq] at hc h0
    clear hcq
    unfold cls0 at hc h0
    cases ho : o.op <;> simp only [ho] at hc h0 hn ⊢ <;> try exact (h0 trivial).elim
    case store => omega
    case buildSlice t len parts =>
      have hfl : flatEl P t = true := by
        cases hf : flatEl P t with
        | true => rfl
        | false => rw [hf] at hc; exact absurd hc (by decide)
      unfold flatEl at hfl
      unfold opA at hn ⊢
      simp only [ho] at hn ⊢
      split at hfl
      · rename_i e hu
        simp only [hu] at hn ⊢
        split at hfl
        · rename_i tt htt
          simp only [htt] at hn ⊢
          split at hn
          · rename_i ys js hp
            have := ownParts_flat hfl hp
            subst this
            cases hcnd : (rowTy P e tt.n && Nat.ble (len * tt.n) 16777216) && (Nat.beq len parts.size && distinct []) with
            | false => rw [hcnd] at hn; exact hn.elim
            | true => simp only [hcnd, cond_true]; exact ⟨_, rfl⟩
          · rw [hfl] at hn
            exact hn.elim
        · cases hfl
      · cases hfl
    case makeSlice t l c =>
      unfold opA at hn ⊢
      simp only [ho] at hn ⊢
      split at hn
      · split at hn
        · rename_i tt z htt hz
          cases hcnd : z.cells.toList.all absOk && rowTy P _ tt.n with
          | false => rw [hcnd] at hn; exact hn.elim
          | true =>
            simp only [hcnd, cond_true] at hn ⊢
            split at hn
            · exact ⟨_, rfl⟩
            · exact hn.elim
        · exact hn.elim
      · exact hn.elim
    case alloc e =>
      unfold opA at hn ⊢
      simp only [ho] at hn ⊢
      split at hn
      · rename_i z hz
        cases hok : z.cells.toList.all absOk with
        | false => rw [hok] at hn; exact hn.elim
        | true => exact ⟨_, rfl⟩
      · exact hn.elim
    case box e x =>
      unfold opA at hn ⊢
      simp only [ho] at hn ⊢
      split at hn
      · exact ⟨_, rfl⟩
      · exact hn.elim
    case call c =>
      obtain ⟨cal, xs, ts⟩ := c
      cases cal <;> simp only at hc h0 hn ⊢
      case value fn =>
        cases fn <;> simp only at hc h0 <;> try (omega; done)
        rename_i f
        have hc : (match findM f T.G with | some _ => 2 | none => 1) ≤ 1 := hc
        cases hG : findM f T.G with
        | some e => rw [hG] at hc; exact absurd (show 2 ≤ 1 from hc) (by decide)
        | none =>
          have e1 : evalA tm (.func f) = .w (.c (.fn f [])) := rfl
          rw [e1] at hn ⊢
          simp only at hn ⊢
          unfold callA at hn ⊢
          rw [findMA_none hG] at hn ⊢
          exact callB_ext hn
      case builtin b => cases b <;> simp only at hc h0 <;> first | omega | exact (h0 trivial).elim | exact (h0 rfl).elim
      all_goals omega
theorem opA_congr {tm' : List AV} (h : ∀ x ∈ o.op.operands, evalA tm x = evalA tm' x) : opA P tm M o = opA P tm' M o := by
  unfold opA
  cases ho : o.op <;> simp only [ho, Op.operands] at h ⊢
  case makeFunc fn first captured =>
    have : captured.toList.map (evalA tm) = captured.toList.map (evalA tm') := List.map_congr_left fun x hx => h x (by simp at hx ⊢; exact .inr hx)
    cases fn <;> simp only [this]
  case unOp op t x =>
    have := h x (by simp)
    cases op <;> simp only [this]
  case slice t x lo hi mx => cases lo <;> cases hi <;> cases mx <;> simp_all
  case call c =>
    obtain ⟨cal, args, ts⟩ := c
    simp only [Call.operands] at h
    cases cal <;> simp only at h ⊢
    rename_i b
    have hm : args.toList.map (evalA tm) = args.toList.map (evalA tm') := List.map_congr_left fun x hx => h x (by simp at hx ⊢; exact hx)
    have hmem : ∀ x ∈ args.toList, evalA tm x = evalA tm' x := fun x hx => h x (by simp at hx ⊢; exact hx)
    cases b <;> simp only [hm] <;> try rfl
    case append =>
      cases hts : ts.toList with
      | nil => rfl
      | cons t l =>
        cases l with
        | nil => rfl
        | cons t2 l =>
          cases l with
          | cons _ _ => rfl
          | nil =>
            cases hxs : args.toList with
            | nil => rfl
            | cons x k =>
              cases k with
              | nil => rfl
              | cons y k =>
                cases k with
                | cons _ _ => rfl
                | nil => simp only [hmem x (by rw [hxs]; simp), hmem y (by rw [hxs]; simp)]
    case len =>
      cases hts : ts.toList with
      | nil => rfl
      | cons t l =>
        cases l with
        | cons _ _ => rfl
        | nil =>
          cases hxs : args.toList with
          | nil => rfl
          | cons x k =>
            cases k with
            | cons _ _ => rfl
            | nil => simp only [hmem x (by rw [hxs]; simp)]
  case build t parts =>
    have : (parts.toList.map fun p => (p.1, evalA tm p.2)) = parts.toList.map fun p => (p.1, evalA tm' p.2) := List.map_congr_left fun p hp => by rw [h p.2 (by simp at hp ⊢; exact ⟨p.1, hp⟩)]
    rw [this]
  case buildSlice t len parts =>
    have : (parts.toList.map fun p => (p.1, evalA tm p.2)) = parts.toList.map fun p => (p.1, evalA tm' p.2) := List.map_congr_left fun p hp => by rw [h p.2 (by simp at hp ⊢; exact ⟨p.1, hp⟩)]
    rw [this]
  all_goals first | rfl | (simp_all; done)
theorem stepA_congr {tm' : List AV} (hc : clsO T o ≤ 1) (h : ∀ x ∈ o.op.operands, evalA tm x = evalA tm' x) : stepA T tm M o = stepA T tm' M o := by
  have h2 := opA_congr (P := P) (M := M) h
  rw [stepA_0 hc, stepA_0 hc]
  unfold step0
  cases ho : o.op <;> simp only [ho, Op.operands] at h ⊢
  case call c =>
    obtain ⟨cal, args, ts⟩ := c
    simp only [Call.operands] at h
    cases cal <;> simp only at h ⊢
    case value fn =>
      rw [h fn (by simp)]
      have hm : args.toList.map (evalA tm) = args.toList.map (evalA tm') := List.map_congr_left fun x hx => h x (by simp at hx ⊢; exact .inr hx)
      rw [hm]
    all_goals exact h2
  all_goals exact h2
theorem evalA_put {dst : Option Tmp} {v : AV} {x : Operand} (h : ∀ d, dst = some d → x ≠ .tmp d) : evalA (putA tm dst v) x = evalA tm x := by
  cases dst with
  | none => rfl
  | some d =>
    cases x with
    | tmp t =>
      have hne : d ≠ t := fun e => h d rfl (by rw [e])
      show (tm.set d v).getD t .any = tm.getD t .any
      rw [List.getD_eq_getElem?_getD, List.getD_eq_getElem?_getD, List.getElem?_set_ne hne]
    | const v => rfl
    | global g => rfl
    | func f => rfl
theorem stepA_put {dst : Option Tmp} {v : AV} (hc : clsO T o ≤ 1) (h : ∀ d, dst = some d → d ∉ o.looksAt ops) : stepA T (putA tm dst v) M o = stepA T tm M o :=
  stepA_congr hc fun x hx => evalA_put fun d hd hxd => h d hd (by
    subst hxd
    exact List.mem_append_left _ (List.mem_filterMap.2 ⟨.tmp d, by simpa using hx, rfl⟩))
theorem liftT_put {d : Nat} {v : AV} {t : Nat} (h : d ≠ t) : liftT (tm.set d v) M t = ((liftT tm M t).1.set d v, (liftT tm M t).2) := by
  unfold liftT
  rw [List.getElem?_set_ne h]
  cases tm[t]? with
  | none => rfl
  | some x =>
    simp only
    cases liftV M x with
    | none => rfl
    | some p => simp only; rw [List.set_comm _ _ h]
theorem liftArgs_put {d : Nat} {v : AV} : ∀ (l : List MTy) (xs : List Operand) (tm : List AV) (M : Mem), (∀ x ∈ xs, x ≠ .tmp d) → liftArgs l xs (tm.set d v) M = ((liftArgs l xs tm M).1.set d v, (liftArgs l xs tm M).2)
  | [], _, _, _, _ => by unfold liftArgs; rfl
  | y :: l, [], tm, M, _ => by
    have e : ∀ tm, liftArgs (y :: l) [] tm M = (tm, M) := fun tm => by cases y <;> rfl
    rw [e, e]
  | y :: l, x :: xs, tm, M, h => by
    have h' : ∀ x ∈ xs, x ≠ .tmp d := fun x hx => h x (List.mem_cons_of_mem _ hx)
    have go : ∀ t, d ≠ t → (∀ tm, liftArgs (y :: l) (x :: xs) tm M = liftArgs l xs (liftT tm M t).1 (liftT tm M t).2) → liftArgs (y :: l) (x :: xs) (tm.set d v) M = ((liftArgs (y :: l) (x :: xs) tm M).1.set d v, (liftArgs (y :: l) (x :: xs) tm M).2) := fun t ht e => by
      rw [e, e, liftT_put ht]
      exact liftArgs_put l xs _ _ h'
    have stay : (∀ tm, liftArgs (y :: l) (x :: xs) tm M = liftArgs l xs tm M) → liftArgs (y :: l) (x :: xs) (tm.set d v) M = ((liftArgs (y :: l) (x :: xs) tm M).1.set d v, (liftArgs (y :: l) (x :: xs) tm M).2) := fun e => by
      rw [e, e]
      exact liftArgs_put l xs _ _ h'
    have hx := h x List.mem_cons_self
    cases y <;> cases x <;> first
      | exact stay fun tm => rfl
      | exact go _ (fun q => hx (by rw [q])) fun tm => rfl
theorem preG_put {d : Nat} {v : AV} (h : ∀ x ∈ o.op.operands, x ≠ .tmp d) : preG T (tm.set d v) M o = ((preG T tm M o).1.set d v, (preG T tm M o).2) := by
  unfold preG
  cases ho : o.op <;> simp only [ho, Op.operands] at h ⊢
  case store t p x =>
    cases p with
    | tmp p => exact liftT_put fun q => h (.tmp p) (by simp) (by rw [q])
    | const v => rfl
    | global g => rfl
    | func f => rfl
  case call c =>
    obtain ⟨cal, args, ts⟩ := c
    simp only [Call.operands] at h
    cases cal <;> simp only at h ⊢
    case builtin b =>
      cases b <;> simp only
      case append =>
        cases ha : args.toList with
        | nil => rfl
        | cons x xs =>
          have hx := h x (by simp; exact Array.mem_toList_iff.1 (by rw [ha]; exact List.mem_cons_self))
          cases x with
          | tmp t => exact liftT_put fun q => hx (by rw [q])
          | const v => rfl
          | global g => rfl
          | func f => rfl
    case value fn =>
      cases fn with
      | func f =>
        simp only
        cases findM f T.G with
        | none => rfl
        | some e => exact liftArgs_put _ _ _ _ fun x hx => h x (by simp at hx ⊢; exact .inr hx)
      | tmp t => rfl
      | const v => rfl
      | global g => rfl
theorem step0_congr {tm' : List AV} (h : ∀ x ∈ o.op.operands, evalA tm x = evalA tm' x) : step0 T tm M o = step0 T tm' M o := by
  have h2 := opA_congr (P := P) (M := M) h
  unfold step0
  cases ho : o.op <;> simp only [ho, Op.operands] at h ⊢
  case call c =>
    obtain ⟨cal, args, ts⟩ := c
    simp only [Call.operands] at h
    cases cal <;> simp only at h ⊢
    case value fn =>
      rw [h fn (by simp)]
      have hm : args.toList.map (evalA tm) = args.toList.map (evalA tm') := List.map_congr_left fun x hx => h x (by simp at hx ⊢; exact .inr hx)
      rw [hm]
    all_goals exact h2
  all_goals exact h2
theorem cutS_congr {tm' : List AV} (h : ∀ x ∈ o.op.operands, evalA tm x = evalA tm' x) : cutS (P := P) tm M o = cutS (P := P) tm' M o := by
  unfold cutS
  cases ho : o.op <;> simp only [ho, Op.operands] at h ⊢
  case slice t x lo hi mx =>
    cases mx with
    | some m => rfl
    | none =>
      simp only
      rw [h x (by simp)]
      have e1 : lo.map (evalA tm) = lo.map (evalA tm') := by
        cases lo with
        | none => rfl
        | some y => exact congrArg some (h y (by simp))
      have e2 : hi.map (evalA tm) = hi.map (evalA tm') := by
        cases hi with
        | none => rfl
        | some y => exact congrArg some (h y (by simp))
      rw [e1, e2]
  case call c =>
    obtain ⟨cal, args, ts⟩ := c
    simp only [Call.operands] at h
    cases cal <;> simp only at h ⊢
    case builtin b =>
      cases b <;> simp only
      case clear =>
        cases hts : ts.toList with
        | nil => rfl
        | cons t l =>
          cases l with
          | cons _ _ => rfl
          | nil =>
            cases ha : args.toList with
            | nil => rfl
            | cons x xs =>
              cases xs with
              | cons _ _ => rfl
              | nil => simp only; rw [h x (by simp; exact Array.mem_toList_iff.1 (by rw [ha]; exact List.mem_cons_self))]
  case makeMap t r => cases r <;> rfl
  case lookup t m k c =>
    cases c with
    | true => rfl
    | false => show lookA P M t (evalA tm m) (evalA tm k) = lookA P M t (evalA tm' m) (evalA tm' k); rw [h m (by simp), h k (by simp)]
  case mapUpdate t m k v => show updA P M t (evalA tm m) (evalA tm k) (evalA tm v) = updA P M t (evalA tm' m) (evalA tm' k) (evalA tm' v); rw [h m (by simp), h k (by simp), h v (by simp)]
  case buildSlice t len parts =>
    have : (parts.toList.map fun p => (p.1, evalA tm p.2)) = parts.toList.map fun p => (p.1, evalA tm' p.2) := List.map_congr_left fun p hp => by rw [h p.2 (by simp at hp ⊢; exact ⟨p.1, hp⟩)]
    rw [this]
theorem stepA_putAny {dst : Option Tmp} {v : AV} (h : ∀ d, dst = some d → d ∉ o.looksAt ops) : stepA T (putA tm dst v) M o = stepA T tm M o := by
  cases dst with
  | none => rfl
  | some d =>
    have hd : ∀ x ∈ o.op.operands, x ≠ .tmp d := fun x hx hxd => h d rfl (by
      subst hxd
      exact List.mem_append_left _ (List.mem_filterMap.2 ⟨.tmp d, by simpa using hx, rfl⟩))
    have ev : ∀ tm : List AV, ∀ x ∈ o.op.operands, evalA (tm.set d v) x = evalA tm x := fun tm x hx =>
      evalA_put (dst := some d) (v := v) fun e he hxd => hd x hx (by rw [hxd, Option.some.inj he])
    show stepA T (tm.set d v) M o = _
    unfold stepA
    cases Nat.beq (clsO T o) 2 with
    | false => exact step0_congr (ev tm)
    | true =>
      cases isCut T o with
      | true => exact cutS_congr (ev tm)
      | false =>
        show (let g := preG T (tm.set d v) M o; let r := step0 T g.1 g.2 o; (⟨r.need, r.val, closeAll r.mem⟩ : OR)) = _
        rw [preG_put hd]
        simp only
        rw [step0_congr (ev _)]
        rfl
theorem pure_step {M' : Mem} (h : pureO o = true) : (stepA T tm M o).need = (stepA T tm M' o).need ∧ (stepA T tm M o).val = (stepA T tm M' o).val := by
  unfold pureO at h
  cases ho : o.op <;> rw [ho] at h <;> try cases h
  have e : ∀ M, stepA T tm M o = step0 T tm M o := fun M => stepA_0 (by unfold clsO isCut cls0; rw [ho]; exact Nat.zero_le _)
  rw [e, e]
  unfold step0
  rw [ho]
  show (opA P tm M o).need = (opA P tm M' o).need ∧ (opA P tm M o).val = (opA P tm M' o).val
  unfold opA
  rw [ho]
  exact ⟨rfl, rfl⟩
/-- is it wanted? -/
def wantA (ops : Array Oper) (o : Oper) (tm : List AV) : Option Bool :=
  match o.guard with
  | none => some true
  | some (j, want) => match (ops[j]?).bind (·.dst) with
    | some d => match tm.getD d .any with
      | .w (.c (.bool g)) => some (g == want)
      | .tp _ => some false
      | _ => none
    | none => none
theorem wantA_put {dst : Option Tmp} {v : AV} (h : ∀ d, dst = some d → d ∉ o.looksAt ops) : wantA ops o (putA tm dst v) = wantA ops o tm := by
  unfold wantA
  cases hg : o.guard with
  | none => rfl
  | some gw =>
    obtain ⟨j, want⟩ := gw
    simp only
    cases ht : (ops[j]?).bind (·.dst) with
    | none => rfl
    | some t =>
      have : (putA tm dst v).getD t .any = tm.getD t .any := by
        cases dst with
        | none => rfl
        | some d =>
          have hne : d ≠ t := fun e => h d rfl (by subst e; simp [Oper.looksAt, hg, ht])
          show (tm.set d v).getD t .any = tm.getD t .any
          rw [List.getD_eq_getElem?_getD, List.getD_eq_getElem?_getD, List.getElem?_set_ne hne]
      simp only [this]
theorem putA_comm {x y : Option Tmp} (v u : AV) (h : ∀ d, x = some d → y ≠ some d) : putA (putA tm x v) y u = putA (putA tm y u) x v := by
  cases x with
  | none => rfl
  | some d =>
    cases y with
    | none => rfl
    | some e =>
      have hne : d ≠ e := fun q => h d rfl (by rw [q])
      show (tm.set d v).set e u = (tm.set e u).set d v
      rw [List.set_comm _ _ hne]
/-- operation number 'i' comes up -/
def qA (T : Tab P) (ops : Array Oper) (i : Nat) (K : List AV → Mem → Prop) (tm : List AV) (M : Mem) : Prop :=
  match ops[i]? with
  | none => K tm M
  | some o => match wantA ops o tm with
    | some true => (stepA T tm M o).need ∧ K (putA tm o.dst (stepA T tm M o).val) (stepA T tm M o).mem
    | some false => K (putA tm o.dst undefA) M
    | none => False
theorem qA_mono {i : Nat} {K K' : List AV → Mem → Prop} (h : ∀ a m, K a m → K' a m) (hh : qA T ops i K tm M) : qA T ops i K' tm M := by
  unfold qA at *
  split
  · rename_i ho; simp only [ho] at hh; exact h _ _ hh
  · rename_i o ho
    simp only [ho] at hh
    split
    · rename_i hw; simp only [hw] at hh; exact ⟨hh.1, h _ _ hh.2⟩
    · rename_i hw; simp only [hw] at hh; exact h _ _ hh
    · rename_i hw; simp only [hw] at hh
/-- whatever order is picked from here on -/
def anyA (T : Tab P) (ops : Array Oper) (Q : List AV → Mem → Prop) : Nat → Array Bool → List AV → Mem → Prop
  | 0, listed, tm, M => Region.ready .any ops listed = [] ∧ Q tm M
  | fuel + 1, listed, tm, M => (Region.ready .any ops listed = [] → Q tm M) ∧ ∀ i ∈ Region.ready .any ops listed, qA T ops i (anyA T ops Q fuel (listed.setIfInBounds i true)) tm M
/-- a reading operation yields v -/
def Yld (T : Tab P) (ops : Array Oper) (o : Oper) (v : AV) (tm : List AV) (M : Mem) : Prop :=
  (wantA ops o tm = some true ∧ (stepA T tm M o).need ∧ v = (stepA T tm M o).val) ∨ (wantA ops o tm = some false ∧ v = undefA)
theorem Yld.qA {i : Nat} {v : AV} (hi : ops[i]? = some o) (hc : clsO T o = 0) (hy : Yld T ops o v tm M) {K : List AV → Mem → Prop} (h : K (putA tm o.dst v) M) : qA T ops i K tm M := by
  unfold Go.Proofs.YtoigkpkafgjeaaaGreatDoor.qA
  simp only [hi]
  rcases hy with ⟨hw, hv, rfl⟩ | ⟨hw, rfl⟩
  · simp only [hw]; exact ⟨hv, by rw [(stepA_mono [] hc hv).2.2.2]; exact h⟩
  · simp only [hw]; exact h
theorem qA_put {j : Nat} {oi oj : Oper} {v : AV} (hj : ops[j]? = some oj) (hap : oi.apart ops oj = true) (hci : clsO T oi = 0) (hcj : clsO T oj ≤ 1 ∨ pureO oi = true) {K : List AV → Mem → Prop} (hy : Yld T ops oi v tm M) (h : qA T ops j K (putA tm oi.dst v) M) :
    qA T ops j (fun a' m' => Yld T ops oi v a' m' ∧ K (putA a' oi.dst v) m') tm M := by
  obtain ⟨h1, h2, h3⟩ := Oper.apart_spec hap
  have keep : ∀ u N, Yld T ops oi v (putA tm oj.dst u) (M ++ N) := fun u N => by
    unfold Yld
    rw [wantA_put h3, stepA_put (by omega) h3]
    rcases hy with ⟨hw, hv, rfl⟩ | hy
    · obtain ⟨m1, m2, _, _⟩ := stepA_mono N hci hv
      exact .inl ⟨hw, m1, m2.symm⟩
    · exact .inr hy
  have keepP : pureO oi = true → ∀ u M', Yld T ops oi v (putA tm oj.dst u) M' := fun hp u M' => by
    unfold Yld
    rw [wantA_put h3, stepA_putAny h3]
    rcases hy with ⟨hw, hv, rfl⟩ | hy
    · obtain ⟨m1, m2⟩ := pure_step (T := T) (tm := tm) (M := M) (M' := M') hp
      exact .inl ⟨hw, by rw [← m1]; exact hv, m2⟩
    · exact .inr hy
  unfold qA at *
  simp only [hj] at *
  rw [wantA_put h1, stepA_putAny h1] at h
  split
  · rename_i hw
    simp only [hw] at h
    refine ⟨h.1, ?_, by rw [← putA_comm _ _ h2]; exact h.2⟩
    rcases hcj with hcj | hp
    · obtain ⟨N, hN⟩ := stepA_ext hcj h.1
      rw [hN]; exact keep _ N
    · exact keepP hp _ _
  · rename_i hw
    simp only [hw] at h
    exact ⟨by have := keep undefA []; rwa [List.append_nil] at this, by rw [← putA_comm _ _ h2]; exact h⟩
  · rename_i hw
    simp only [hw] at h
/-- what is listed has all that it waits for listed -/
def Closed (ops : Array Oper) (listed : Array Bool) : Prop := ∀ (j : Nat) (o : Oper), ops[j]? = some o → listed.getD j false = true → ∀ e ∈ o.after, Region.binds .any e = true → listed.getD e.on false = true
theorem closed_dep {listed : Array Bool} (hcl : Closed ops listed) {i : Nat} : ∀ (n j : Nat), listed.getD j false = true → depT ops n i j = true → listed.getD i false = true
  | 0, _, _, h => by cases h
  | n + 1, j, hj, h => by
    unfold depT at h
    cases ho : ops[j]? with
    | none => rw [ho] at h; cases h
    | some o =>
      rw [ho] at h
      obtain ⟨e, he, hb⟩ := Array.any_eq_true'.1 h
      rw [Bool.and_eq_true, Bool.or_eq_true] at hb
      have := hcl j o ho hj e he hb.1
      rcases hb.2 with h2 | h2
      · rw [← Nat.eq_of_beq_eq_true h2]; exact this
      · exact closed_dep hcl n e.on this (Bool.and_eq_true_iff.1 h2).2
theorem ready_dep {listed : Array Bool} (hcl : Closed ops listed) {i j : Nat} (hj : j ∈ Region.ready .any ops listed) {n : Nat} (h : depT ops n i j = true) : listed.getD i false = true := by
  cases n with
  | zero => cases h
  | succ n =>
    obtain ⟨_, o, ho, hall⟩ := mem_ready.1 hj
    unfold depT at h
    rw [ho] at h
    obtain ⟨e, he, hb⟩ := Array.any_eq_true'.1 h
    rw [Bool.and_eq_true, Bool.or_eq_true] at hb
    have := hall e he hb.1
    rcases hb.2 with h2 | h2
    · rw [← Nat.eq_of_beq_eq_true h2]; exact this
    · exact closed_dep hcl n e.on this (Bool.and_eq_true_iff.1 h2).2
theorem closed_add {listed : Array Bool} (hcl : Closed ops listed) {i : Nat} (hi : i ∈ Region.ready .any ops listed) : Closed ops (listed.setIfInBounds i true) := fun j o ho hj e he hb => by
  by_cases hji : i = j
  · subst hji
    obtain ⟨_, o', ho', hall⟩ := mem_ready.1 hi
    obtain rfl : o' = o := Option.some.inj (ho'.symm.trans ho)
    exact getD_set_true (hall e he hb)
  · rw [getD_set_ne false hji] at hj
    exact getD_set_true (hcl j o ho hj e he hb)
theorem getD_tf {listed : Array Bool} {i : Nat} (h : listed.getD i true = false) : listed.getD i false = false := by
  rcases Nat.lt_or_ge i listed.size with h' | h'
  · simp [h'] at h ⊢; exact h
  · simp [Array.getElem?_eq_none h']
theorem anyA_read {Q : List AV → Mem → Prop} {i : Nat} {oi : Oper} {v : AV} (hi : ops[i]? = some oi) (hci : clsO T oi = 0) :
    ∀ (fuel : Nat) (listed : Array Bool) (tm : List AV) (M : Mem), Closed ops listed →
      (∀ j oj, ops[j]? = some oj → j ≠ i → listed.getD j true = false → depT ops ops.size i j = false → oi.apart ops oj = true ∧ (clsO T oj ≤ 1 ∨ pureO oi = true)) →
      i ∈ Region.ready .any ops listed → Yld T ops oi v tm M →
      anyA T ops Q fuel (listed.setIfInBounds i true) (putA tm oi.dst v) M → anyA T ops Q (fuel + 1) listed tm M := by
  intro fuel
  induction fuel with
  | zero =>
    intro listed tm M _ _ hr hy H
    refine ⟨fun h => (by rw [h] at hr; cases hr), fun j hj => ?_⟩
    by_cases hji : j = i
    · subst hji; exact hy.qA hi hci H
    · have := ready_mono hj hji
      rw [H.1] at this
      cases this
  | succ fuel ih =>
    intro listed tm M hcl hfree hr hy H
    refine ⟨fun h => (by rw [h] at hr; cases hr), fun j hj => ?_⟩
    by_cases hji : j = i
    · subst hji; exact hy.qA hi hci H
    · have h1 := H.2 j (ready_mono hj hji)
      obtain ⟨hjun, oj, hoj, hall⟩ := mem_ready.1 hj
      have hnd : depT ops ops.size i j = false := by
        cases hd : depT ops ops.size i j with
        | false => rfl
        | true =>
          have h2 := ready_dep hcl hj hd
          rw [getD_tf (mem_ready.1 hr).1] at h2
          cases h2
      obtain ⟨hap, hcj⟩ := hfree j oj hoj hji hjun hnd
      have h2 := qA_put hoj hap hci hcj hy h1
      have hfree' : ∀ k ok, ops[k]? = some ok → k ≠ i → (listed.setIfInBounds j true).getD k true = false → depT ops ops.size i k = false → oi.apart ops ok = true ∧ (clsO T ok ≤ 1 ∨ pureO oi = true) := fun k ok hk hki hun hno => by
        refine hfree k ok hk hki ?_ hno
        by_cases hjk : j = k
        · subst hjk; exact hjun
        · rw [getD_set_ne true hjk] at hun; exact hun
      refine qA_mono (fun a' m' h3 => ih (listed.setIfInBounds j true) a' m' (closed_add hcl hj) hfree' (ready_mono hr (Ne.symm hji)) h3.1 ?_) h2
      rw [Array.setIfInBounds_comm _ _ hji]
      exact h3.2
theorem anyA_fuel {Q : List AV → Mem → Prop} : ∀ (n k : Nat) (listed : Array Bool) (tm : List AV) (M : Mem), anyA T ops Q n listed tm M → n ≤ k → anyA T ops Q k listed tm M
  | 0, 0, _, _, _, h, _ => h
  | 0, k + 1, listed, tm, M, h, _ => ⟨fun _ => h.2, fun i hi => by rw [h.1] at hi; cases hi⟩
  | n + 1, 0, _, _, _, _, hk => by omega
  | n + 1, k + 1, listed, tm, M, h, hk => ⟨h.1, fun i hi => qA_mono (fun a m h => anyA_fuel n k _ a m h (by omega)) (h.2 i hi)⟩
theorem vcOp1_q {i : Nat} {K : List AV → Mem → Prop} (h : vcOp1 T ops i tm M K) : qA T ops i K tm M := by
  unfold vcOp1 at h
  cases ho : ops[i]? with
  | none => rw [ho] at h; exact h.elim
  | some o =>
    rw [ho] at h
    simp only at h
    unfold qA
    simp only [ho]
    have wnt : ∀ j want d, o.guard = some (j, want) → (ops[j]?).bind (·.dst) = some d → wantA ops o tm = (match tm.getD d .any with
        | .w (.c (.bool g)) => some (g == want)
        | .tp _ => some false
        | _ => none) := fun j want d hg hd => by
      unfold wantA
      rw [hg]
      simp only [hd]
    cases hgd : o.guard with
    | none =>
      rw [hgd] at h
      have : wantA ops o tm = some true := by unfold wantA; rw [hgd]
      simp only [this]
      exact ⟨(andR_elim h).1, genG_elim (andR_elim h).2⟩
    | some jw =>
      obtain ⟨j, want⟩ := jw
      rw [hgd] at h
      simp only at h
      cases hd : (ops[j]?).bind (·.dst) with
      | none => rw [hd] at h; exact h.elim
      | some d =>
        rw [hd] at h
        simp only at h
        have wn := wnt j want d hgd hd
        split at h
        · rename_i g hq
          rw [hq] at wn
          have hs : tm.set d (.c (.bool g)) = tm := set_same hq (by simp)
          cases want <;> cases g <;> simp only [hs] at h wn
          · rw [wn]; exact ⟨(andR_elim h).1, genG_elim (andR_elim h).2⟩
          · rw [wn]; exact h
          · rw [wn]; exact h
          · rw [wn]; exact ⟨(andR_elim h).1, genG_elim (andR_elim h).2⟩
        · rename_i l' hq
          rw [hq] at wn
          rw [wn]
          exact h
        · exact h.elim

theorem vcOpsD_any {Q : List AV → Mem → Prop} : ∀ (t : Tr) (listed : Array Bool) (tm : List AV) (M : Mem), Closed ops listed → vcOpsD T ops t tm M Q →
    (okA T ops t false listed = true → anyA T ops Q t.len listed tm M) ∧
      (okA T ops t true listed = true → ∀ k, t.len ≤ k + 1 → ∀ j ∈ t.heads, j ∈ Region.ready .any ops listed ∧ qA T ops j (anyA T ops Q k (listed.setIfInBounds j true)) tm M)
  | .nil, _, _, _, _, h => ⟨fun hB => ⟨by simpa [okA] using hB, h⟩, fun hB => by simp [okA] at hB⟩
  | .alt t u, listed, tm, M, hcl, h => by
    obtain ⟨ht, hu⟩ := h
    have it := (vcOpsD_any t listed tm M hcl ht).2
    have iu := (vcOpsD_any u listed tm M hcl hu).2
    have both : okA T ops t true listed = true → okA T ops u true listed = true → ∀ k, (Tr.alt t u).len ≤ k + 1 → ∀ j ∈ (Tr.alt t u).heads, j ∈ Region.ready .any ops listed ∧ qA T ops j (anyA T ops Q k (listed.setIfInBounds j true)) tm M := fun h1 h2 k hk j hj => by
      have hk' : max t.len u.len ≤ k + 1 := hk
      rcases List.mem_append.1 hj with hj | hj
      · exact it h1 k (by omega) j hj
      · exact iu h2 k (by omega) j hj
    refine ⟨fun hB => ?_, fun hB => ?_⟩
    · unfold okA at hB
      simp only [Bool.false_or, Bool.and_eq_true] at hB
      have hall : ∀ i ∈ Region.ready .any ops listed, i ∈ (Tr.alt t u).heads := fun i hi => by
        obtain ⟨k, hk, hb⟩ := List.any_eq_true.1 (List.all_eq_true.1 hB.1 i hi)
        rw [← Nat.eq_of_beq_eq_true hb]; exact hk
      cases hn : (Tr.alt t u).len with
      | zero =>
        exfalso
        cases hh : (Tr.alt t u).heads with
        | nil =>
          have h0 : ∀ t : Tr, ∀ l, okA T ops t true l = true → t.heads ≠ [] := fun t => by
            induction t with
            | nil => intro l h; simp [okA] at h
            | one i t _ => intro l _; simp [Tr.heads]
            | alt t u ih _ => intro l h; simp only [okA, Bool.true_or, Bool.true_and, Bool.and_eq_true] at h; simp [Tr.heads, ih l h.1]
          exact h0 (.alt t u) listed (by unfold okA; simp [hB.2.1, hB.2.2]) hh
        | cons j js =>
          have h0 : ∀ t : Tr, t.len = 0 → t.heads = [] := fun t => by
            induction t with
            | nil => intro _; rfl
            | one i t _ => intro h; exact absurd h (Nat.succ_ne_zero _)
            | alt t u ih ih2 =>
              intro h
              have h' : max t.len u.len = 0 := h
              simp [Tr.heads, ih (by omega), ih2 (by omega)]
          rw [h0 _ hn] at hh
          cases hh
      | succ k =>
        have hb := both hB.2.1 hB.2.2 k (by omega)
        refine ⟨fun h0 => ?_, fun j hj => (hb j (hall j hj)).2⟩
        cases hh : (Tr.alt t u).heads with
        | nil =>
          exfalso
          have h0 : ∀ t : Tr, ∀ l, okA T ops t true l = true → t.heads ≠ [] := fun t => by
            induction t with
            | nil => intro l h; simp [okA] at h
            | one i t _ => intro l _; simp [Tr.heads]
            | alt t u ih _ => intro l h; simp only [okA, Bool.true_or, Bool.true_and, Bool.and_eq_true] at h; simp [Tr.heads, ih l h.1]
          exact h0 (.alt t u) listed (by unfold okA; simp [hB.2.1, hB.2.2]) hh
        | cons j js =>
          have := (hb j (by rw [hh]; exact List.mem_cons_self)).1
          rw [h0] at this
          cases this
    · unfold okA at hB
      simp only [Bool.true_or, Bool.true_and, Bool.and_eq_true] at hB
      exact both hB.1 hB.2
  | .one i l, listed, tm, M, hcl, h => by
    have hq : qA T ops i (fun tm M => vcOpsD T ops l tm M Q) tm M := vcOp1_q h
    have hrd : ∀ b, okA T ops (.one i l) b listed = true → i ∈ Region.ready .any ops listed ∧ ((b || freeA T ops listed i) = true) ∧ okA T ops l false (listed.setIfInBounds i true) = true := fun b hB => by
      unfold okA at hB
      rw [Bool.and_eq_true, Bool.and_eq_true] at hB
      obtain ⟨hr, hf, hB'⟩ := hB
      obtain ⟨k, hk, hb⟩ := List.any_eq_true.1 hr
      obtain rfl := Nat.eq_of_beq_eq_true hb; exact ⟨hk, hf, hB'⟩
    refine ⟨fun hB => ?_, fun hB k hk j hj => ?_⟩
    · obtain ⟨hr, hf, hB'⟩ := hrd false hB
      rw [Bool.false_or] at hf
      have ih := fun tm M h => (vcOpsD_any (Q := Q) l (listed.setIfInBounds i true) tm M (closed_add hcl hr) h).1 hB'
      cases ho : ops[i]? with
      | none =>
        obtain ⟨_, o, ho', _⟩ := mem_ready.1 hr
        rw [ho] at ho'
        cases ho'
      | some o =>
        have hfs : ∀ j oj, ops[j]? = some oj → j ≠ i → listed.getD j true = false → depT ops ops.size i j = false → clsO T o = 0 ∧ o.apart ops oj = true ∧ (clsO T oj ≤ 1 ∨ pureO o = true) := fun j oj hj hji hun hnd => by
          unfold freeA at hf
          rw [ho] at hf
          have h1 := List.all_eq_true.1 hf j (List.mem_range.2 (Array.getElem?_eq_some_iff.1 hj).1)
          have hb : Nat.beq j i = false := by
            cases hb : Nat.beq j i with
            | false => rfl
            | true => exact absurd (Nat.eq_of_beq_eq_true hb) hji
          rw [hb, hun, hnd, hj] at h1
          simp only [Bool.false_or, Bool.or_false, Bool.and_eq_true, Bool.or_eq_true] at h1
          exact ⟨Nat.eq_of_beq_eq_true h1.1, h1.2.1, h1.2.2.imp Nat.le_of_ble_eq_true id⟩
        by_cases hc : clsO T o = 0
        · -- it reads
          unfold qA at hq
          simp only [ho] at hq
          have hfree := fun j oj hj hji hun hnd => (hfs j oj hj hji hun hnd).2
          split at hq
          · rename_i hw
            have hm := (stepA_mono (T := T) [] hc hq.1).2.2.2
            rw [hm] at hq
            exact anyA_read ho hc l.len listed tm M hcl hfree hr (.inl ⟨hw, hq.1, rfl⟩) (ih _ _ hq.2)
          · rename_i hw
            exact anyA_read ho hc l.len listed tm M hcl hfree hr (.inr ⟨hw, rfl⟩) (ih _ _ hq)
          · exact hq.elim
        · -- it is the only one that may come
          refine ⟨fun h0 => (by rw [h0] at hr; cases hr), fun j hj => ?_⟩
          have hji : j = i := by
            by_cases hji : j = i
            · exact hji
            · obtain ⟨hjun, oj, hoj, _⟩ := mem_ready.1 hj
              cases hd : depT ops ops.size i j with
              | false => exact absurd (hfs j oj hoj hji hjun hd).1 hc
              | true =>
                have h2 := ready_dep hcl hj hd
                rw [getD_tf (mem_ready.1 hr).1] at h2
                cases h2
          subst hji
          exact qA_mono (fun a m h => ih a m h) hq
    · obtain rfl : j = i := by simpa [Tr.heads] using hj
      obtain ⟨hr, _, hB'⟩ := hrd true hB
      refine ⟨hr, qA_mono (fun a m h => anyA_fuel _ _ _ _ _ ((vcOpsD_any (Q := Q) l (listed.setIfInBounds j true) a m (closed_add hcl hr) h).1 hB') ?_) hq⟩
      have hk' : l.len + 1 ≤ k + 1 := hk
      omega
theorem closed_none (n : Nat) : Closed ops (Array.replicate n false) := fun j o _ hj => by
  rcases Nat.lt_or_ge j n with h | h
  · simp [h] at hj
  · simp [Nat.not_lt.2 h] at hj
theorem altT_len {k : Nat} : ∀ (l : List Tr), (∀ t ∈ l, t.len ≤ k) → (altT l).len ≤ k
  | [], _ => Nat.zero_le _
  | [t], h => h t List.mem_cons_self
  | t :: u :: l, h => by
    have h1 := h t List.mem_cons_self
    have h2 := altT_len (u :: l) (fun t ht => h t (List.mem_cons_of_mem _ ht))
    show max t.len (altT (u :: l)).len ≤ k
    omega
theorem schedA_len : ∀ (n : Nat) (listed : Array Bool), (schedA T ops n listed).len ≤ n
  | 0, _ => Nat.le_refl _
  | n + 1, listed => by
    unfold schedA
    split
    · rename_i i _
      have := schedA_len n (listed.setIfInBounds i true)
      show (schedA T ops n _).len + 1 ≤ _
      omega
    · refine altT_len _ fun t ht => ?_
      obtain ⟨i, _, rfl⟩ := List.mem_map.1 ht
      have := schedA_len n (listed.setIfInBounds i true)
      show (schedA T ops n _).len + 1 ≤ _
      omega
theorem any_of_A {Q : List AV → Mem → Prop} {Q' : Exit → Act → World → Prop} {W0 : World} {E0 : Env} (hT : TabOk X W0 E0 T) (hQ : ∀ tm M a W E, Q tm M → RepA X tm M a W E → Since T W0 E0 W E M → Q' .normal a W) : ∀ (fuel : Nat) (listed : Array Bool) (tm : List AV) (M : Mem) (a : Act) (W : World) (E : Env),
    RepA X tm M a W E → Since T W0 E0 W E M → anyA T ops Q fuel listed tm M → wpAny P .any ops Q' fuel listed a W
  | 0, _, _, _, _, _, _, hr, hg, h => ⟨h.1, hQ _ _ _ _ _ h.2 hr hg⟩
  | fuel + 1, listed, tm, M, a, W, E, hr, hg, h => by
    refine ⟨fun h0 => hQ _ _ _ _ _ (h.1 h0) hr hg, fun i hi => ?_⟩
    have hh := h.2 i hi
    unfold qA at hh
    unfold wpOp
    cases ho : ops[i]? with
    | none => rw [ho] at hh; exact any_of_A hT hQ fuel _ _ _ _ _ _ hr hg hh
    | some o =>
      rw [ho] at hh
      simp only at hh ⊢
      have wnt : ∀ b, wantA ops o tm = some b → Region.wanted o (yielded ops a.tmps) = b := fun b hb => by
        unfold wantA at hb
        unfold Region.wanted
        cases hgd : o.guard with
        | none => rw [hgd] at hb; exact Option.some.inj hb
        | some jw =>
          obtain ⟨j, want⟩ := jw
          rw [hgd] at hb
          simp only at hb ⊢
          cases hd : (ops[j]?).bind (·.dst) with
          | none => rw [hd] at hb; cases hb
          | some d =>
            rw [hd] at hb
            simp only at hb
            have hd' : (ops.toList[j]?).bind (·.dst) = some d := by rw [Array.getElem?_toList]; exact hd
            split at hb
            · rename_i g hq
              have := yielded_of hd' hr.tmps hq
              rw [show yielded ops a.tmps j = some g from this, ← Option.some.inj hb]
              cases g <;> cases want <;> rfl
            · rename_i l hq
              have := yielded_tp hd' hr.tmps hq
              rw [show yielded ops a.tmps j = none from this, ← Option.some.inj hb]
              rfl
            · cases hb
      split at hh
      · rename_i hw
        rw [if_pos (wnt _ hw)]
        refine .inl (stepA_sound hT hg.g hr.mem hr.tmps hh.1 _ _ fun u W' E' g m r hv => ?_)
        exact any_of_A hT hQ fuel _ _ _ _ _ _ ⟨r, putA_rep (hr.tmps.mono g m hr.mem.len) hv, by rw [put_defers]; exact hr.dfr⟩ (hg.step g m) hh.2
      · rename_i hw
        rw [if_neg (by rw [wnt _ hw]; exact Bool.false_ne_true)]
        exact any_of_A hT hQ fuel _ _ _ _ _ _ (hr.skip _) hg hh
      · exact hh.elim
end
end Go.Proofs.YtoigkpkafgjeaaaGreatDoor
set_option linter.unusedSimpArgs false
set_option linter.unusedVariables false
namespace Go.Proofs.YtoigkpkafgjeaaaGreatDoor
open Go.ChangeShapes Go.WideShapes Go.ChangeAt Go.RowKit Go.Joins Go.Deep
open GoRep (rep bulk)

theorem leL_eq : ∀ {x y : List AC}, leL x y → x = y
  | [], [], _ => rfl
  | [], _ :: _, h => h.elim
  | _ :: _, [], h => h.elim
  | _ :: _, _ :: _, h => by rw [leC_eq h.1, leL_eq h.2]
theorem leV_eq {x y : AV} (h : leV x y) : y = .any ∨ x = y := by
  unfold leV at h
  split at h
  · exact .inl rfl
  · exact .inr (by rw [leC_eq h])
  · exact .inr (by rw [leL_eq h])
  · exact .inr h
theorem leB_eq {x y : Blk} (h : leB x y) : x = y := by
  unfold leB at h
  split at h
  · rw [leL_eq h]
  · obtain ⟨⟨e1, e2⟩, e3, e4⟩ := h; subst e3; rw [← e4, e1, e2]
  · exact h
theorem leM_eq : ∀ {x y : Mem}, leM x y → ∃ z, x = y ++ z
  | x, [], _ => ⟨x, rfl⟩
  | [], _ :: _, h => h.elim
  | _ :: _, _ :: _, h => by
    obtain ⟨z, e⟩ := leM_eq h.2
    exact ⟨z, by rw [leB_eq h.1, e]; rfl⟩
section
variable {P : Program} {X : List Nat} {W : World} {E : Env} {M : Mem} {a : Act} {tm : List AV} {o : Oper} {T : Tab P}
theorem leV_rep {x y : AV} {v : Value} (h : leV x y) (hr : RepV X W E M x v) : RepV X W E M y v := by
  rcases leV_eq h with rfl | rfl
  · trivial
  · exact hr
theorem leT_rep : ∀ {x y : List AV} {vs : List Value}, leT x y → RepT X W E M x vs → RepT X W E M y vs
  | [], [], _, _, hr => hr
  | [], _ :: _, _, h, _ => h.elim
  | _ :: _, [], _, h, _ => h.elim
  | _ :: _, _ :: _, _, h, ⟨v, r, e, h1, h2⟩ => ⟨v, r, e, leV_rep h.1 h1, leT_rep h.2 h2⟩
theorem boxAt_cut {n i q : Nat} {v : Value} (hi : i < n) (h : boxAt E i v q) : boxAt (E.take n) i v q := by
  obtain ⟨e, h1, h2⟩ := h
  exact ⟨e, by rw [List.getElem?_take, if_pos hi]; exact h1, h2⟩
theorem capsAt_cut {n : Nat} : ∀ {is : List Nat} {vs : List Value}, is.all (Nat.blt · n) = true → capsAt E is vs → capsAt (E.take n) is vs
  | [], _, _, h => h
  | _ :: _, _, ho, ⟨v, r, e, h1, h2⟩ => by
    rw [List.all_cons, Bool.and_eq_true] at ho
    exact ⟨v, r, e, boxAt_cut (Nat.le_of_ble_eq_true ho.1) h1, capsAt_cut ho.2 h2⟩
theorem foots_take (n : Nat) : ∀ b ∈ foots (E.take n), b ∈ foots E := fun b hb => by
  obtain ⟨e, h1, h2⟩ := mem_foots.1 hb
  exact mem_foots.2 ⟨e, List.mem_of_mem_take h1, h2⟩
theorem atRow_cut {n i v : Nat} {Q : EB → Prop} (hi : i < n) (h : atRow E M i v Q) : atRow (E.take n) (M.take n) i v Q := by
  unfold atRow at h ⊢
  rw [List.getElem?_take, if_pos hi, List.getElem?_take, if_pos hi]
  exact h
theorem lendQ_cut {n : Nat} {Q : List Nat → Prop} : ∀ {L : Lnd}, (∀ i v c, L = .at i v c → i < n) → lendQ X W E M L Q → lendQ X W (E.take n) (M.take n) L Q
  | .no, _, ⟨F, h1, h2⟩ => ⟨F, h1, fun b hb => ⟨⟨fun hm => (h2 b hb).1.1 (foots_take n b hm), (h2 b hb).1.2⟩, (h2 b hb).2⟩⟩
  | .at i v c, hi, h => by
    have hi := hi i v c rfl
    have h : lendAt E M i v c Q := h
    show lendAt (E.take n) (M.take n) i v c Q
    unfold lendAt at h ⊢
    rw [List.getElem?_take, if_pos hi, List.getElem?_take, if_pos hi]
    exact h
theorem inRow_cut {n i ver c n' k o : Nat} {u : Value} (hi : i < n) (h : inRow W E M i ver c n' k o u) : inRow W (E.take n) (M.take n) i ver c n' k o u := by
  obtain ⟨b, h1, h2⟩ := h
  exact ⟨b, atRow_cut hi h1, lendQ_cut (X := []) (W := W) (L := .at i ver c) (fun _ _ _ e => by injection e with e1 _ _; omega) h2⟩
theorem okC_rep {n : Nat} : ∀ {c : AC} {v : Value}, okC n c = true → RepC X W E M c v → RepC X W (E.take n) (M.take n) c v
  | .int _ _, _, _, h => h
  | .bool _, _, _, h => h
  | .str _, _, _, h => h
  | .opq _, _, _, h => h
  | .hs L t xs, v, ho, h => ⟨h.1, lendQ_cut (fun i v c e => by subst e; exact Nat.le_of_ble_eq_true ho) h.2⟩
  | .bp _ _, _, ho, h => boxAt_cut (Nat.le_of_ble_eq_true ho) h
  | .ep L t xs k o, v, ho, h => ⟨h.1, lendQ_cut (fun i v c e => by subst e; exact Nat.le_of_ble_eq_true ho) h.2⟩
  | .row i ver, v, ho, h => ⟨h.1, atRow_cut (Nat.le_of_ble_eq_true ho) h.2⟩
  | .rp i ver n k o, v, ho, h => ⟨h.1, atRow_cut (Nat.le_of_ble_eq_true ho) h.2⟩
  | .sl i ver c n k o, v, ho, h => ⟨h.1, inRow_cut (Nat.le_of_ble_eq_true ho) h.2⟩
  | .sp i ver c n k o m x q, v, ho, ⟨h0, b, l, cap, h1, h2⟩ => ⟨h0, b, l, cap, inRow_cut (Nat.le_of_ble_eq_true ho) h1, h2⟩
  | .tl i ver n k, v, ho, h => ⟨h.1, atRow_cut (Nat.le_of_ble_eq_true ho) h.2⟩
  | .mp i, v, ho, ⟨e, h1, h2⟩ => ⟨e, by rw [List.getElem?_take, if_pos (show i < n from Nat.le_of_ble_eq_true ho)]; exact h1, h2⟩
  | .fn f caps, v, ho, ⟨vs, e, h⟩ => ⟨vs, e, capsAt_cut ho h⟩
  | .raw _, _, _, h => h
  | .junk, _, _, h => h
theorem okL_rep {n : Nat} : ∀ {l : List AC} {vs : List Value}, l.all (okC n) = true → RepL X W E M l vs → RepL X W (E.take n) (M.take n) l vs
  | [], _, _, h => h
  | _ :: _, _, ho, ⟨v, r, e, h1, h2⟩ => by
    rw [List.all_cons, Bool.and_eq_true] at ho
    exact ⟨v, r, e, okC_rep ho.1 h1, okL_rep ho.2 h2⟩
theorem okW_rep {n : Nat} : ∀ {x : AW} {v : Value}, okW n x = true → RepW X W E M x v → RepW X W (E.take n) (M.take n) x v
  | .c _, _, ho, h => okC_rep ho h
  | .ag _, _, ho, ⟨cs, e, h⟩ => ⟨cs, e, okL_rep ho h⟩
theorem okWs_rep {n : Nat} : ∀ {l : List AW} {vs : List Value}, l.all (okW n) = true → RepWs X W E M l vs → RepWs X W (E.take n) (M.take n) l vs
  | [], _, _, h => h
  | _ :: _, _, ho, ⟨v, r, e, h1, h2⟩ => by
    rw [List.all_cons, Bool.and_eq_true] at ho
    exact ⟨v, r, e, okW_rep ho.1 h1, okWs_rep ho.2 h2⟩
theorem okV_rep {n : Nat} : ∀ {x : AV} {v : Value}, okV n x = true → RepV X W E M x v → RepV X W (E.take n) (M.take n) x v
  | .w _, _, ho, h => okW_rep ho h
  | .tp _, _, ho, ⟨vs, e, h⟩ => ⟨vs, e, okWs_rep ho h⟩
  | .any, _, _, _ => trivial
theorem okT_rep {n : Nat} : ∀ {l : List AV} {vs : List Value}, l.all (okV n) = true → RepT X W E M l vs → RepT X W (E.take n) (M.take n) l vs
  | [], _, _, h => h
  | _ :: _, _, ho, ⟨v, r, e, h1, h2⟩ => by
    rw [List.all_cons, Bool.and_eq_true] at ho
    exact ⟨v, r, e, okV_rep ho.1 h1, okT_rep ho.2 h2⟩
theorem repM_cut {M N : Mem} (hM : RepM X W E (M ++ N)) (ho : M.all (okB M.length) = true) : RepM X W (E.take M.length) M := by
  have hl := hM.len
  rw [List.length_append] at hl
  refine ⟨by simp; omega, ?_, fun i b e hb he => ?_, fun b hb => hM.lt b (foots_take _ b hb), fun b hb hf => hM.xlt b hb (foots_take _ b hf), hM.xsz⟩
  · have hn := hM.nodup
    rw [← List.take_append_drop M.length E, foots_append, List.nodup_append] at hn
    exact hn.1
  · have hi : i < M.length := (List.getElem?_eq_some_iff.1 hb).1
    rw [List.getElem?_take, if_pos hi] at he
    have h := hM.at_ i b e (by rw [List.getElem?_append_left hi]; exact hb) he
    have hob := List.all_eq_true.1 ho b (List.mem_of_getElem? hb)
    cases b with
    | box l =>
      obtain ⟨q1, cs, T, q2, q3⟩ := h
      have := okL_rep (n := M.length) hob q3
      rw [List.take_left] at this
      exact ⟨q1, cs, T, q2, this⟩
    | row t xs v c hh =>
      cases hh with
      | none => exact h
      | some _ => cases hob
    | mp _ => exact h
    | dead => exact h
theorem RepA.le {n0 : Nat} {inp : List Nat} {tm0 : List AV} {M0 : Mem} {h : List AV × Mem} (hr : RepA X tm M a W E) (hle : leS n0 inp tm0 M0 tm M h) : RepA X h.1 h.2 a W (E.take h.2.length) := by
  obtain ⟨h1, h2, h3⟩ := hle
  rw [Bool.and_eq_true] at h3
  replace h3 := h3.1
  rw [Bool.and_eq_true] at h3
  obtain ⟨z, e⟩ := leM_eq h2
  subst e
  refine ⟨repM_cut hr.mem h3.2, ?_, hr.dfr⟩
  have := okT_rep h3.1 (leT_rep h1 hr.tmps)
  rwa [List.take_left] at this
theorem grow_take {W0 : World} {E0 : Env} {n : Nat} (hn : E0.length ≤ n) (hg : Grow W0 E0 W E) : Grow W0 E0 W (E.take n) := ⟨hg.os, hg.tape, hg.output, hg.size, hg.keep, fun b hb => hg.new b (foots_take n b hb), fun i e h => by
  obtain ⟨e', h1, h2⟩ := hg.blk i e h
  exact ⟨e', by rw [List.getElem?_take, if_pos (Nat.lt_of_lt_of_le (List.getElem?_eq_some_iff.1 h).1 hn)]; exact h1, h2⟩⟩
theorem grow_drew (hM : RepM X W E M) : Grow W E W.drew E := ⟨rfl, rfl, rfl, Nat.le_refl _, fun _ _ _ => rfl, fun _ h => .inl h, fun _ e h => ⟨e, h, rfl⟩⟩
theorem memOk_drew (hM : RepM X W E M) : MemOk W E M W.drew E M := by
  have := memOk_append (W := W) (W' := W.drew) (grow_drew hM) hM (fun _ _ => rfl) [] []
  rwa [List.append_nil, List.append_nil] at this
theorem RepA.drew (hr : RepA X tm M a W E) : RepA X tm M a W.drew E := by
  have g := grow_drew hr.mem
  have m := memOk_drew hr.mem
  refine ⟨⟨hr.mem.len, hr.mem.nodup, fun i b e hb he => (hr.mem.at_ i b e hb he).keep g m hr.mem.len (fun _ _ => rfl), hr.mem.lt, hr.mem.xlt, hr.mem.xsz⟩, hr.tmps.mono g m hr.mem.len, hr.dfr⟩
/-- versions set back -/
theorem map_get (i : Nat) : (M.map (backB M))[i]? = (M[i]?).map (backB M) := List.getElem?_map
theorem backAt {i v : Nat} {r : RowC} (h : rowAt M i v = some r) : (M.map (backB M))[i]? = some (.row r.t r.xs 0 0 none) := by
  rw [map_get, rowAt_eq h]
  rfl
theorem liveAt_eq {i v c : Nat} (h : liveAt M i v c = true) : ∃ (t : Ty) (xs : List t.den), M[i]? = some (.row t xs v c none) := by
  unfold liveAt at h
  split at h
  · rename_i t xs cv cc hM
    rw [Bool.and_eq_true] at h
    obtain rfl := Nat.eq_of_beq_eq_true h.1
    obtain rfl := Nat.eq_of_beq_eq_true h.2
    exact ⟨t, xs, hM⟩
  · cases h
theorem atRow_back {i v : Nat} {Q : EB → Prop} {r : RowC} (hr : rowAt M i v = some r) (h : atRow E M i v Q) : atRow E (M.map (backB M)) i 0 Q := by
  unfold atRow at h ⊢
  rw [rowAt_eq hr] at h
  rw [backAt hr]
  exact ⟨Nat.le_refl _, fun _ => h.2 rfl⟩
theorem lendAt_back {i v c : Nat} {Q : List Nat → Prop} (hl : liveAt M i v c = true) (h : lendAt E M i v c Q) : lendAt E (M.map (backB M)) i 0 0 Q := by
  obtain ⟨t, xs, hM⟩ := liveAt_eq hl
  unfold lendAt at h ⊢
  rw [hM] at h
  rw [map_get, hM]
  exact ⟨Nat.le_refl _, fun _ => ⟨Nat.le_refl _, fun _ => (h.2 rfl).2 rfl⟩⟩
theorem inRow_back {i ver c n k o : Nat} {u : Value} (hl : liveAt M i ver c = true) (h : inRow W E M i ver c n k o u) : inRow W E (M.map (backB M)) i 0 0 n k o u := by
  obtain ⟨b, h1, h2⟩ := h
  obtain ⟨t, xs, hM⟩ := liveAt_eq hl
  refine ⟨b, atRow_back (r := ⟨t, xs, c⟩) ?_ h1, lendAt_back hl h2⟩
  unfold rowAt
  rw [hM]
  simp
theorem backC_rep : ∀ {c : AC} {v : Value}, RepC X W E M c v → RepC X W E (M.map (backB M)) (backC M c) v
  | .int _ _, _, h => h
  | .bool _, _, h => h
  | .str _, _, h => h
  | .opq _, _, h => h
  | .hs .no t xs, v, h => h
  | .hs (.at i u c) t xs, v, h => by
    show RepC X W E _ (bif liveAt M i u c then _ else _) v
    cases hl : liveAt M i u c with
    | false => exact h.1
    | true => exact ⟨h.1, lendAt_back hl h.2⟩
  | .bp _ _, _, h => h
  | .ep .no t xs k o, v, h => h
  | .ep (.at i u c) t xs k o, v, h => by
    show RepC X W E _ (bif liveAt M i u c then _ else _) v
    cases hl : liveAt M i u c with
    | false => exact h.1
    | true => exact ⟨h.1, lendAt_back hl h.2⟩
  | .row i ver, v, h => by
    show RepC X W E _ (bif (rowAt M i ver).isSome then _ else _) v
    cases hl : rowAt M i ver with
    | none => exact h.1
    | some r => exact ⟨h.1, atRow_back hl h.2⟩
  | .sl i ver c n k o, v, h => by
    show RepC X W E _ (bif liveAt M i ver c then _ else _) v
    cases hl : liveAt M i ver c with
    | false => exact h.1
    | true => exact ⟨h.1, inRow_back hl h.2⟩
  | .sp i ver c n k o m x q, v, ⟨h0, b, l, cap, h1, h2⟩ => by
    show RepC X W E _ (bif liveAt M i ver c then _ else _) v
    cases hl : liveAt M i ver c with
    | false => exact h0
    | true => exact ⟨h0, b, l, cap, inRow_back hl h1, h2⟩
  | .rp i ver n k o, v, h => by
    show RepC X W E _ (bif (rowAt M i ver).isSome then _ else _) v
    cases hl : rowAt M i ver with
    | none => exact h.1
    | some r => exact ⟨h.1, atRow_back hl h.2⟩
  | .tl i ver n k, v, h => h.1
  | .mp _, _, h => h
  | .fn f caps, v, h => h
  | .raw _, _, h => h
  | .junk, _, h => h
theorem backL_rep : ∀ {l : List AC} {vs : List Value}, RepL X W E M l vs → RepL X W E (M.map (backB M)) (l.map (backC M)) vs
  | [], _, h => h
  | _ :: _, _, ⟨v, r, e, h1, h2⟩ => ⟨v, r, e, backC_rep h1, backL_rep h2⟩
theorem backW_rep : ∀ {x : AW} {v : Value}, RepW X W E M x v → RepW X W E (M.map (backB M)) (backW M x) v
  | .c _, _, h => backC_rep h
  | .ag _, _, ⟨cs, e, h⟩ => ⟨cs, e, backL_rep h⟩
theorem backWs_rep : ∀ {l : List AW} {vs : List Value}, RepWs X W E M l vs → RepWs X W E (M.map (backB M)) (l.map (backW M)) vs
  | [], _, h => h
  | _ :: _, _, ⟨v, r, e, h1, h2⟩ => ⟨v, r, e, backW_rep h1, backWs_rep h2⟩
theorem backV_rep : ∀ {x : AV} {v : Value}, RepV X W E M x v → RepV X W E (M.map (backB M)) (backV M x) v
  | .w _, _, h => backW_rep h
  | .tp _, _, ⟨vs, e, h⟩ => ⟨vs, e, backWs_rep h⟩
  | .any, _, _ => trivial
theorem backT_rep : ∀ {l : List AV} {vs : List Value}, RepT X W E M l vs → RepT X W E (M.map (backB M)) (l.map (backV M)) vs
  | [], _, h => h
  | _ :: _, _, ⟨v, r, e, h1, h2⟩ => ⟨v, r, e, backV_rep h1, backT_rep h2⟩
theorem RepA.back (hr : RepA X tm M a W E) (hno : noHoles M = true) : RepA X (tm.map (backV M)) (M.map (backB M)) a W E := by
  refine ⟨⟨by rw [List.length_map]; exact hr.mem.len, hr.mem.nodup, fun i b e hb he => ?_, hr.mem.lt, hr.mem.xlt, hr.mem.xsz⟩, backT_rep hr.tmps, hr.dfr⟩
  rw [map_get] at hb
  cases hM : M[i]? with
  | none => rw [hM] at hb; cases hb
  | some b' =>
    rw [hM] at hb
    obtain rfl : backB M b' = b := by simpa using hb
    have h := hr.mem.at_ i b' e hM he
    cases b' with
    | box l =>
      obtain ⟨q1, cs, T, q2, q3⟩ := h
      exact ⟨q1, cs, T, q2, backL_rep q3⟩
    | row t xs v c hh =>
      cases hh with
      | none => exact h
      | some _ => have := List.all_eq_true.1 hno _ (List.mem_of_getElem? hM); cases this
    | mp _ => exact h
    | dead => exact h
theorem RepT.put : ∀ {l : List AV} {vs : List Value} (j : Nat) {x : AV}, RepT X W E M l vs → (∀ v, vs[j]? = some v → RepV X W E M x v) → RepT X W E M (l.set j x) vs
  | [], _, _, _, h, _ => h
  | _ :: _, _, 0, _, ⟨v, r, e, h1, h2⟩, h => ⟨v, r, e, h v (by rw [e]; rfl), h2⟩
  | _ :: _, _, j + 1, _, ⟨v, r, e, h1, h2⟩, h => ⟨v, r, e, h1, RepT.put j h2 (fun u hu => h u (by rw [e]; simpa using hu))⟩
theorem RepL.put : ∀ {l : List AC} {vs : List Value} (j : Nat) {x : AC}, RepL X W E M l vs → (∀ v, vs[j]? = some v → RepC X W E M x v) → RepL X W E M (l.set j x) vs
  | [], _, _, _, h, _ => h
  | _ :: _, _, 0, _, ⟨v, r, e, h1, h2⟩, h => ⟨v, r, e, h v (by rw [e]; rfl), h2⟩
  | _ :: _, _, j + 1, _, ⟨v, r, e, h1, h2⟩, h => ⟨v, r, e, h1, RepL.put j h2 (fun u hu => h u (by rw [e]; simpa using hu))⟩
/-- one more row, empty -/
theorem RepA.nilrow (hr : RepA X tm M a W E) (t : Ty) : ∃ E', Grow W E W E' ∧ MemOk W E M W E' (M ++ [.row t [] 0 0 none]) ∧ RepA X tm (M ++ [.row t [] 0 0 none]) a W E' ∧ RepC X W E' (M ++ [.row t [] 0 0 none]) (.row M.length 0) (.slice none 0 0) := by
  obtain ⟨E', g, m, rm, rc⟩ := rows_new (W' := W) (js := []) (t := t) (ys := []) (v := .slice none 0 0) (T := 0) (cells := []) (own := []) (G := []) hr.mem rfl (by simp) ⟨rfl, rfl, rfl, Nat.le_refl _, fun _ _ _ => rfl⟩ (World.ownsRow_nil W 0 0 t.n) ⟨rfl, rfl⟩ rfl (.inl rfl)
  exact ⟨E', g, m, ⟨rm, hr.tmps.mono g m hr.mem.len, hr.dfr⟩, rc⟩
theorem RepA.boxput {b i : Nat} {l : List AC} {x : AC} {v : Value} (hr : RepA X tm M a W E) (hb : M[b]? = some (.box l)) (hl : l[i]? = some (.raw v)) (hx : RepC X W E M x v) : MemOk W E M W E (M.set b (.box (l.set i x))) ∧ RepA X tm (M.set b (.box (l.set i x))) a W E := by
  have hbl := (List.getElem?_eq_some_iff.1 hb).1
  have m : MemOk W E M W E (M.set b (.box (l.set i x))) := fun j => by
    by_cases hj : b = j
    · subst hj; rw [hb]; trivial
    · rw [List.getElem?_set_ne hj]
      exact MemOk.refl W E M j
  have g := Grow.refl W E
  refine ⟨m, ⟨by simp [hr.mem.len], hr.mem.nodup, fun j b' e hb' he => ?_, hr.mem.lt, hr.mem.xlt, hr.mem.xsz⟩, hr.tmps.mono g m hr.mem.len, hr.dfr⟩
  by_cases hj : b = j
  · subst hj
    rw [List.getElem?_set_self hbl] at hb'
    obtain rfl := Option.some.inj hb'
    obtain ⟨q1, cs, T, q2, q3⟩ := hr.mem.at_ _ _ e hb he
    refine ⟨q1, cs, T, q2, RepL.mono g m hr.mem.len (RepL.put i q3 (fun u hu => ?_))⟩
    obtain ⟨w, h1, h2⟩ := q3.get hl
    obtain rfl : w = u := Option.some.inj (h1.symm.trans hu)
    rw [h2.1]
    exact hx
  · rw [List.getElem?_set_ne hj] at hb'
    exact (hr.mem.at_ j b' e hb' he).keep g m hr.mem.len (fun _ _ => rfl)
theorem pro1_rep (hr : RepA X tm M a W E) (p : Pro) : ∃ E', Grow W E W E' ∧ MemOk W E M W E' (pro1 tm M p).2 ∧ RepA X (pro1 tm M p).1 (pro1 tm M p).2 a W E' := by
  obtain ⟨b, i, t⟩ := p
  cases b with
  | none =>
    show ∃ E', Grow W E W E' ∧ MemOk W E M W E' (bif isNilV (tm.getD i .any) then (tm.set i (AV.c (AC.row M.length 0)), M ++ [Blk.row t [] 0 0 none]) else (tm, M)).2 ∧ RepA X (bif isNilV (tm.getD i .any) then (tm.set i (AV.c (AC.row M.length 0)), M ++ [Blk.row t [] 0 0 none]) else (tm, M)).1 (bif isNilV (tm.getD i .any) then (tm.set i (AV.c (AC.row M.length 0)), M ++ [Blk.row t [] 0 0 none]) else (tm, M)).2 a W E'
    cases hn : isNilV (tm.getD i .any) with
    | false => exact ⟨E, Grow.refl W E, MemOk.refl W E M, hr⟩
    | true =>
      obtain ⟨E', g, m, r, rc⟩ := hr.nilrow t
      refine ⟨E', g, m, ⟨r.mem, RepT.put i r.tmps (fun u hu => ?_), r.dfr⟩⟩
      have e := isNilV_eq hn
      rw [List.getD_eq_getElem?_getD] at e
      cases hq : tm[i]? with
      | none => rw [hq] at e; cases e
      | some x =>
        rw [hq] at e
        obtain rfl : x = _ := e
        obtain ⟨w, h1, h2⟩ := hr.tmps.get hq
        obtain rfl : w = u := Option.some.inj (h1.symm.trans hu)
        have h2 : RepC X W E M (.raw (.slice none 0 0)) w := h2
        rw [h2.1]
        exact rc
  | some b =>
    show ∃ E', Grow W E W E' ∧ MemOk W E M W E' (match M[b]? with | some (.box l) => bif isNilC (l.getD i .junk) then (tm, M.set b (Blk.box (l.set i (AC.row M.length 0))) ++ [Blk.row t [] 0 0 none]) else (tm, M) | _ => (tm, M)).2 ∧ RepA X (match M[b]? with | some (.box l) => bif isNilC (l.getD i .junk) then (tm, M.set b (Blk.box (l.set i (AC.row M.length 0))) ++ [Blk.row t [] 0 0 none]) else (tm, M) | _ => (tm, M)).1
      (match M[b]? with | some (.box l) => bif isNilC (l.getD i .junk) then (tm, M.set b (Blk.box (l.set i (AC.row M.length 0))) ++ [Blk.row t [] 0 0 none]) else (tm, M) | _ => (tm, M)).2 a W E'
    split
    · rename_i l hb
      cases hn : isNilC (l.getD i .junk) with
      | false => exact ⟨E, Grow.refl W E, MemOk.refl W E M, hr⟩
      | true =>
        obtain ⟨E', g, m, r, rc⟩ := hr.nilrow t
        have e := isNilC_eq hn
        have hl : l[i]? = some (.raw (.slice none 0 0)) := by
          rw [List.getD_eq_getElem?_getD] at e
          cases hq : l[i]? with
          | none => rw [hq] at e; cases e
          | some x => rw [hq] at e; exact congrArg some e
        have hbl := (List.getElem?_eq_some_iff.1 hb).1
        obtain ⟨m2, r2⟩ := r.boxput (b := b) (i := i) (l := l) (by rw [List.getElem?_append_left hbl]; exact hb) hl rc
        rw [List.set_append_left _ _ hbl] at r2 m2
        exact ⟨E', g, m.trans m2, r2⟩
    · exact ⟨E, Grow.refl W E, MemOk.refl W E M, hr⟩
theorem proA_rep : ∀ (ps : List Pro) {tm : List AV} {M : Mem} {E : Env}, RepA X tm M a W E → ∃ E', Grow W E W E' ∧ MemOk W E M W E' (proA tm M ps).2 ∧ RepA X (proA tm M ps).1 (proA tm M ps).2 a W E'
  | [], _, M, E, hr => ⟨E, Grow.refl W E, MemOk.refl W E M, hr⟩
  | p :: ps, tm, M, E, hr => by
    obtain ⟨E1, g1, m1, r1⟩ := pro1_rep hr p
    obtain ⟨E2, g2, m2, r2⟩ := proA_rep ps r1
    exact ⟨E2, g1.trans g2, m1.trans m2, r2⟩
theorem RepA.boxput2 {b i : Nat} {l : List AC} {x : AC} (hr : RepA X tm M a W E) (hb : M[b]? = some (.box l)) (hx : ∀ e cs T, E[b]? = some e → W.heap[e.blk]? = some (.cells cs T (0, 0)) → ∀ u, cs.toList[i]? = some u → RepC X W E M x u) : MemOk W E M W E (M.set b (.box (l.set i x))) ∧ RepA X tm (M.set b (.box (l.set i x))) a W E := by
  have hbl := (List.getElem?_eq_some_iff.1 hb).1
  have m : MemOk W E M W E (M.set b (.box (l.set i x))) := fun j => by
    by_cases hj : b = j
    · subst hj; rw [hb]; trivial
    · rw [List.getElem?_set_ne hj]
      exact MemOk.refl W E M j
  have g := Grow.refl W E
  refine ⟨m, ⟨by simp [hr.mem.len], hr.mem.nodup, fun j b' e hb' he => ?_, hr.mem.lt, hr.mem.xlt, hr.mem.xsz⟩, hr.tmps.mono g m hr.mem.len, hr.dfr⟩
  by_cases hj : b = j
  · subst hj
    rw [List.getElem?_set_self hbl] at hb'
    obtain rfl := Option.some.inj hb'
    obtain ⟨q1, cs, T, q2, q3⟩ := hr.mem.at_ _ _ e hb he
    exact ⟨q1, cs, T, q2, RepL.mono g m hr.mem.len (RepL.put i q3 (hx e cs T he q2))⟩
  · rw [List.getElem?_set_ne hj] at hb'
    exact (hr.mem.at_ j b' e hb' he).keep g m hr.mem.len (fun _ _ => rfl)
theorem steal1_rep (hr : RepA X tm M a W E) (b c k : Nat) : ∃ E', Grow W E W E' ∧ MemOk W E M W E' (steal1 M b c k) ∧ RepA X tm (steal1 M b c k) a W E' := by
  have stay : ∃ E', Grow W E W E' ∧ MemOk W E M W E' M ∧ RepA X tm M a W E' := ⟨E, Grow.refl W E, MemOk.refl W E M, hr⟩
  unfold steal1
  split
  · rename_i l hb
    split
    · rename_i j v hc
      cases hjk : Nat.beq j k with
      | true => exact stay
      | false =>
        simp only [cond_false]
        split
        · rename_i t ys vj cj t' xs vk ck hj hk
          cases hv : Nat.beq v vj with
          | false => exact stay
          | true =>
            simp only [cond_true]
            split
            · rename_i ht
              subst ht
              obtain rfl := Nat.eq_of_beq_eq_true hv
              have hne : j ≠ k := fun e => by rw [e, Nat.beq_refl] at hjk; cases hjk
              obtain ⟨E', g, m, rm, rc⟩ := rows_steal hr.mem hk hj hne
              have hbj : b ≠ j := fun e => by rw [e, hj] at hb; cases hb
              have hbk : b ≠ k := fun e => by rw [e, hk] at hb; cases hb
              have hb' : ((killM M [j]).set k (.row t' ys (vk + 1) (ck + 1) none))[b]? = some (.box l) := by
                rw [List.getElem?_set_ne (Ne.symm hbk), killM_other (fun q hq e => hbj (by rw [← List.mem_singleton.1 hq]; exact e.symm))]
                exact hb
              obtain ⟨m2, r2⟩ := RepA.boxput2 (X := X) (tm := tm) (a := a) (i := c) (x := .row k (vk + 1)) ⟨rm, hr.tmps.mono g m hr.mem.len, hr.dfr⟩ hb' (fun e cs T he hcs u hu => by
                have hble : b < E.length := by rw [← hr.mem.len]; exact (List.getElem?_eq_some_iff.1 hb).1
                obtain ⟨e0, he0⟩ : ∃ e0, E[b]? = some e0 := ⟨_, List.getElem?_eq_getElem hble⟩
                obtain ⟨e', h1, h2⟩ := g.blk b e0 he0
                obtain rfl := Option.some.inj (h1.symm.trans he)
                obtain ⟨_, cs0, T0, q2, q3⟩ := hr.mem.at_ _ _ e0 hb he0
                rw [h2] at hcs
                have hcc := Option.some.inj (q2.symm.trans hcs)
                injection hcc with hcc
                subst hcc
                obtain ⟨w, w1, w2⟩ := q3.get hc
                obtain rfl := Option.some.inj (w1.symm.trans hu)
                have h3 := (w2 : RepC X W E M (.row j v) w).2
                unfold atRow at h3
                rw [hj] at h3
                obtain ⟨ej, p1, p2⟩ := h3.2 rfl
                rw [p2]
                exact rc ej p1)
              exact ⟨E', g, m.trans m2, r2⟩
            · exact stay
        · exact stay
    · exact stay
  · exact stay
theorem stealL_rep (b : Nat) : ∀ (l : List AC) (c : Nat) {M : Mem} {E : Env}, RepA X tm M a W E → ∃ E', Grow W E W E' ∧ MemOk W E M W E' (stealL M b c l) ∧ RepA X tm (stealL M b c l) a W E'
  | [], _, M, E, hr => ⟨E, Grow.refl W E, MemOk.refl W E M, hr⟩
  | x :: l, c, M, E, hr => by
    cases x with
    | row k _ =>
      obtain ⟨E1, g1, m1, r1⟩ := steal1_rep hr b c k
      obtain ⟨E2, g2, m2, r2⟩ := stealL_rep b l (c + 1) r1
      exact ⟨E2, g1.trans g2, m1.trans m2, r2⟩
    | _ => exact stealL_rep b l (c + 1) hr
theorem stealA_rep : ∀ (b : Nat) (h : Mem) {M : Mem} {E : Env}, RepA X tm M a W E → ∃ E', Grow W E W E' ∧ MemOk W E M W E' (stealA M b h) ∧ RepA X tm (stealA M b h) a W E'
  | _, [], M, E, hr => ⟨E, Grow.refl W E, MemOk.refl W E M, hr⟩
  | b, x :: h, M, E, hr => by
    cases x with
    | box l =>
      obtain ⟨E1, g1, m1, r1⟩ := stealL_rep b l 0 hr
      obtain ⟨E2, g2, m2, r2⟩ := stealA_rep (b + 1) h r1
      exact ⟨E2, g1.trans g2, m1.trans m2, r2⟩
    | _ => exact stealA_rep (b + 1) h hr
theorem repT_put : ∀ {l : List AV} {vs : List Value} (i : Nat) {x : AV}, RepT X W E M l vs → (∀ u, vs[i]? = some u → RepV X W E M x u) → RepT X W E M (l.set i x) vs
  | [], _, _, _, h, _ => h
  | _ :: _, _, 0, _, ⟨v, r, e, _, h2⟩, hx => ⟨v, r, e, hx v (by rw [e]; rfl), h2⟩
  | _ :: _, _, i + 1, _, ⟨v, r, e, h1, h2⟩, hx => ⟨v, r, e, h1, repT_put i h2 (fun u hu => hx u (by rw [e]; simpa using hu))⟩
theorem steal1T_rep {q : List AV × Mem} (hr : RepA X q.1 q.2 a W E) (i k : Nat) : ∃ E', Grow W E W E' ∧ MemOk W E q.2 W E' (steal1T q i k).2 ∧ RepA X (steal1T q i k).1 (steal1T q i k).2 a W E' := by
  have stay : ∃ E', Grow W E W E' ∧ MemOk W E q.2 W E' q.2 ∧ RepA X q.1 q.2 a W E' := ⟨E, Grow.refl W E, MemOk.refl W E q.2, hr⟩
  unfold steal1T
  split
  · rename_i j v hc
    cases hjk : Nat.beq j k with
    | true => exact stay
    | false =>
      simp only [cond_false]
      split
      · rename_i t ys vj cj t' xs vk ck hj hk
        cases hv : Nat.beq v vj with
        | false => exact stay
        | true =>
          simp only [cond_true]
          split
          · rename_i ht
            subst ht
            obtain rfl := Nat.eq_of_beq_eq_true hv
            have hne : j ≠ k := fun e => by rw [e, Nat.beq_refl] at hjk; cases hjk
            obtain ⟨E', g, m, rm, rc⟩ := rows_steal hr.mem hk hj hne
            refine ⟨E', g, m, rm, repT_put i (hr.tmps.mono g m hr.mem.len) (fun u hu => ?_), hr.dfr⟩
            obtain ⟨w, w1, w2⟩ := hr.tmps.get hc
            obtain rfl := Option.some.inj (w1.symm.trans hu)
            have h3 := (w2 : RepC X W E q.2 (.row j v) w).2
            unfold atRow at h3
            rw [hj] at h3
            obtain ⟨ej, p1, p2⟩ := h3.2 rfl
            rw [p2]
            exact rc ej p1
          · exact stay
      · exact stay
  · exact stay
theorem stealT_rep : ∀ (h : List AV) (i : Nat) {q : List AV × Mem} {E : Env}, RepA X q.1 q.2 a W E → ∃ E', Grow W E W E' ∧ MemOk W E q.2 W E' (stealT q i h).2 ∧ RepA X (stealT q i h).1 (stealT q i h).2 a W E'
  | [], _, q, E, hr => ⟨E, Grow.refl W E, MemOk.refl W E q.2, hr⟩
  | x :: h, i, q, E, hr => by
    cases x with
    | w z =>
      cases z with
      | c c0 =>
        cases c0 with
        | row k ver =>
          obtain ⟨E1, g1, m1, r1⟩ := steal1T_rep hr i k
          obtain ⟨E2, g2, m2, r2⟩ := stealT_rep h (i + 1) r1
          exact ⟨E2, g1.trans g2, m1.trans m2, r2⟩
        | _ => exact stealT_rep h (i + 1) hr
      | ag l => exact stealT_rep h (i + 1) hr
    | tp l => exact stealT_rep h (i + 1) hr
    | any => exact stealT_rep h (i + 1) hr
/-- at a loop's head -/
theorem leS_no {n0 : Nat} {inp : List Nat} {tm0 tm' : List AV} {M0 M' : Mem} {h : List AV × Mem} (hle : leS n0 inp tm0 M0 tm' M' h) : noHoles M0 = true := by
  obtain ⟨_, _, h3⟩ := hle
  simp only [Bool.and_eq_true] at h3
  exact h3.2.2.2
theorem Since.head {W0 : World} {E0 : Env} {tm' : List AV} {h : List AV × Mem} (hT : TabOk X W0 E0 T) (hs : Since T W0 E0 W E M) (hle : leS T.n0 T.inp tm M tm' (M.map (backB M)) h) : Since T W0 E0 W (E.take h.2.length) h.2 := by
  obtain ⟨h1, h2, h3⟩ := hle
  rw [Bool.and_eq_true, Bool.and_eq_true (a := Nat.ble _ _)] at h3
  obtain ⟨_, hn, hi⟩ := h3
  rw [Bool.and_eq_true] at hi
  replace hi := hi.1
  have hn := Nat.le_of_ble_eq_true hn
  rw [hT.2.1] at hn
  refine ⟨grow_take hn hs.g, fun i hii => ?_⟩
  obtain ⟨z, e⟩ := leM_eq h2
  have hlt : i < h.2.length := Nat.lt_of_lt_of_le (hT.2.2.1 i hii) hn
  have e1 : h.2[i]? = (M.map (backB M))[i]? := by rw [e, List.getElem?_append_left hlt]
  have hv := List.all_eq_true.1 hi i hii
  rcases hs.kept i hii with hd | ⟨t, xs, v, c, hh, k1, k2⟩
  · rw [hd] at hv; cases hv
  · rw [k1] at hv
    cases hh with
    | some _ => cases hv
    | none =>
    obtain rfl := Nat.eq_of_beq_eq_true (show Nat.beq v 0 = true from hv)
    refine .inr ⟨t, xs, 0, 0, none, by rw [e1, map_get, k1]; rfl, fun _ e0 he0 => ?_⟩
    obtain ⟨e', q1, q2⟩ := k2 rfl e0 he0
    exact ⟨e', by rw [List.getElem?_take, if_pos hlt]; exact q1, q2⟩
theorem joinK_sound {W0 : World} {E0 : Env} (hT : TabOk X W0 E0 T) {A : LoopA} {K : Exit → List AV → Mem → Prop} {Q : Exit → Act → World → Prop} (hS : ∀ e tm M a W E, K e tm M → RepA X tm M a W E → Since T W0 E0 W E M → Q e a W)
    (h2 : ∀ q, A.inv q → K .normal (A.hd q).1 (A.hd q).2) : ∀ e tm M a W E, joinK T A K e tm M → RepA X tm M a W E → Since T W0 E0 W E M → Q e a W := fun e tm' M' a' W' E' hk hr' hg' => by
  cases e with
  | normal =>
    obtain ⟨q, hi, hl⟩ := hk
    obtain ⟨E2, g2, m2, r2⟩ := stealA_rep 0 (A.hd q).2 hr'
    obtain ⟨E3, g3, m3, r3⟩ := stealT_rep (A.hd q).1 0 (q := (tm', stealA M' 0 (A.hd q).2)) r2
    exact hS _ _ _ _ _ _ (h2 q hi) ((r3.back (leS_no hl)).le hl) (((hg'.step g2 m2).step g3 m3).head hT hl)
  | _ => exact hS _ _ _ _ _ _ hk hr' hg'
theorem vcCode_sound {L : Nat → List AV → Mem → LoopA} {W0 : World} {E0 : Env} (hT : TabOk X W0 E0 T) : ∀ (c : Code) (tm : List AV) (M : Mem) (a : Act) (W : World) (E : Env) (K : Exit → List AV → Mem → Prop) (Q : Exit → Act → World → Prop),
    (∀ e tm M a W E, K e tm M → RepA X tm M a W E → Since T W0 E0 W E M → Q e a W) → vcCode T L c tm M K → RepA X tm M a W E → Since T W0 E0 W E M → c.wp P Q a W := by
  intro c
  induction c with
  | skip => intro tm M a W E K Q hS h hr hg; exact wp_skip (hS _ _ _ _ _ _ h hr hg)
  | label l => intro tm M a W E K Q hS h hr hg; exact wp_label (hS _ _ _ _ _ _ h hr hg)
  | exit id => intro tm M a W E K Q hS h hr hg; exact wp_exit (hS _ _ _ _ _ _ h hr hg)
  | ret => intro tm M a W E K Q hS h hr hg; exact wp_ret (hS _ _ _ _ _ _ h hr hg)
  | region id ops draw =>
    intro tm M a W E K Q hS h0 hr hg
    have h : bif draw then (P.follows .mixedOrders = true ∧ okA T ops (schedA T ops ops.size (Array.replicate ops.size false)) false (Array.replicate ops.size false) = true) ∧ vcOpsD T ops (schedA T ops ops.size (Array.replicate ops.size false)) tm M (fun tm M => K .normal tm M) else (match T.pro (id + 2000000) with | [] => vcOps T ops.toList ops.toList tm M (fun tm M => K .normal tm M) | _ :: _ => let A := L (id + 2000000) (tm.map (backV M)) (M.map (backB M)); vcOps T ops.toList ops.toList tm M (fun tm M => joinK T A K .normal tm M) ∧ ∀ q, A.inv q → K .normal (A.hd q).1 (A.hd q).2) := by
      have h0 : bif ops.toList.any isPanic then False else (bif draw then (P.follows .mixedOrders = true ∧ okA T ops (schedA T ops ops.size (Array.replicate ops.size false)) false (Array.replicate ops.size false) = true) ∧ vcOpsD T ops (schedA T ops ops.size (Array.replicate ops.size false)) tm M (fun tm M => K .normal tm M) else (match T.pro (id + 2000000) with | [] => vcOps T ops.toList ops.toList tm M (fun tm M => K .normal tm M) | _ :: _ => let A := L (id + 2000000) (tm.map (backV M)) (M.map (backB M)); vcOps T ops.toList ops.toList tm M (fun tm M => joinK T A K .normal tm M) ∧ ∀ q, A.inv q → K .normal (A.hd q).1 (A.hd q).2)) := h0
      cases hp : ops.toList.any isPanic with
      | true => rw [hp] at h0; exact h0.elim
      | false => rw [hp] at h0; exact h0
    cases draw with
    | false =>
      have h1 : (match T.pro (id + 2000000) with | [] => vcOps T ops.toList ops.toList tm M (fun tm M => K .normal tm M) | _ :: _ => let A := L (id + 2000000) (tm.map (backV M)) (M.map (backB M)); vcOps T ops.toList ops.toList tm M (fun tm M => joinK T A K .normal tm M) ∧ ∀ q, A.inv q → K .normal (A.hd q).1 (A.hd q).2) := h
      split at h1
      · exact wp_region_list (vcOps_sound hT (K := fun tm M => K .normal tm M) (fun tm M a W E hk hr hg => hS _ _ _ _ _ _ hk hr hg) ops.toList tm M a W E h1 hr hg)
      · simp only at h1
        obtain ⟨h1, h2⟩ := h1
        obtain ⟨A, hA⟩ : ∃ A, A = L (id + 2000000) (tm.map (backV M)) (M.map (backB M)) := ⟨_, rfl⟩
        rw [← hA] at h1 h2
        have hS' := joinK_sound hT hS h2
        exact wp_region_list (vcOps_sound hT (K := fun tm M => joinK T A K .normal tm M) (fun tm M a W E hk hr hg => hS' _ _ _ _ _ _ hk hr hg) ops.toList tm M a W E h1 hr hg)
    | true =>
      obtain ⟨⟨hm, hB⟩, h⟩ := (h : (P.follows .mixedOrders = true ∧ okA T ops (schedA T ops ops.size (Array.replicate ops.size false)) false (Array.replicate ops.size false) = true) ∧ vcOpsD T ops (schedA T ops ops.size (Array.replicate ops.size false)) tm M (fun tm M => K .normal tm M))
      have := anyA_fuel _ ops.size _ _ _ ((vcOpsD_any (T := T) (ops := ops) _ _ tm M (closed_none ops.size) h).1 hB) (schedA_len _ _)
      exact wp_region_any hm (any_of_A (T := T) (X := X) (W0 := W0) hT (fun tm M a W E hk hr hg => hS _ _ _ _ _ _ hk hr hg) _ _ tm M a _ E hr.drew (hg.step (grow_drew hr.mem) (memOk_drew hr.mem)) this)
  | seq x y ihx ihy =>
    intro tm M a W E K Q hS h hr hg
    refine wp_seq (ihx tm M a W E _ _ (fun e tm M a W E hk hr hg => ?_) h hr hg)
    cases e with
    | normal => exact ihy tm M a W E K Q hS hk hr hg
    | _ => exact hS _ _ _ _ _ _ hk hr hg
  | cond c x y ihx ihy =>
    intro tm M a W E K Q hS h hr hg
    unfold vcCode at h
    split at h
    · skip
      cases c with
      | tmp t =>
        simp only at h
        split at h
        · rename_i g hq
          have hl := hr.lit hq
          have he := evalA_rep hr.tmps (.tmp t)
          have he' : a.eval (.tmp t) = .bool g := by
            have : evalA tm (.tmp t) = .w (.c (.bool g)) := hq
            rw [this] at he
            exact he
          cases g with
          | true => exact wp_cond_true he' (ihx _ M a W E K Q hS h hl hg)
          | false => exact wp_cond_false he' (ihy _ M a W E K Q hS h hl hg)
        · exact h.elim
      | const v =>
        split at h
        · rename_i t hq; cases hq
        · rename_i g hq
          obtain rfl : v = .bool g := by injection hq
          cases g with
          | true => exact wp_cond_true rfl (ihx _ M a W E K Q hS h hr hg)
          | false => exact wp_cond_false rfl (ihy _ M a W E K Q hS h hr hg)
        · exact h.elim
      | global g => exact h.elim
      | func f => exact h.elim
    · simp only at h
      obtain ⟨h, h2⟩ := h
      obtain ⟨A, hA⟩ : ∃ A, A = L (firstReg x + 1000000) (tm.map (backV M)) (M.map (backB M)) := ⟨_, rfl⟩
      rw [← hA] at h h2
      have hS' := joinK_sound hT hS h2
      cases c with
      | tmp t =>
        simp only at h
        split at h
        · rename_i g hq
          have hl := hr.lit hq
          have he := evalA_rep hr.tmps (.tmp t)
          have he' : a.eval (.tmp t) = .bool g := by
            have : evalA tm (.tmp t) = .w (.c (.bool g)) := hq
            rw [this] at he
            exact he
          cases g with
          | true => exact wp_cond_true he' (ihx _ M a W E _ Q hS' h hl hg)
          | false => exact wp_cond_false he' (ihy _ M a W E _ Q hS' h hl hg)
        · exact h.elim
      | const v => exact h.elim
      | global g => exact h.elim
      | func f => exact h.elim
  | block id x ih =>
    intro tm M a W E K Q hS h hr hg
    have key : ∀ K' : Exit → List AV → Mem → Prop, (∀ e tm M a W E, K' e tm M → RepA X tm M a W E → Since T W0 E0 W E M → Q e a W) →
        vcCode T L x tm M (fun e tm M => match e with | .exit id' => (bif Nat.beq id' id then K' .normal tm M else K (.exit id') tm M) | e => K' e tm M) → (Code.block id x).wp P Q a W := fun K' hS' h => by
      refine wp_block (ih tm M a W E _ _ (fun e tm M a W E hk hr hg => ?_) h hr hg)
      cases e with
      | exit id' =>
        show (if id' = id then Q .normal a W else Q (.exit id') a W)
        have hk : (bif Nat.beq id' id then K' .normal tm M else K (.exit id') tm M) := hk
        by_cases hid : id' = id
        · rw [if_pos hid]
          rw [hid, Nat.beq_refl] at hk
          exact hS' _ _ _ _ _ _ hk hr hg
        · rw [if_neg hid]
          have hb : Nat.beq id' id = false := by
            cases hb : Nat.beq id' id with
            | false => rfl
            | true => exact absurd (Nat.eq_of_beq_eq_true hb) hid
          rw [hb] at hk
          exact hS _ _ _ _ _ _ hk hr hg
      | _ => exact hS' _ _ _ _ _ _ hk hr hg
    unfold vcCode at h
    split at h
    · exact key K hS h
    · simp only at h
      obtain ⟨h, h2⟩ := h
      exact key _ (joinK_sound hT hS h2) h
  | loop x ih =>
    intro tm M a W E K Q hS h hr hg
    unfold vcCode at h
    obtain ⟨E1, g1, m1, r1⟩ := proA_rep (T.pro (firstReg x)) hr
    obtain ⟨tm1, htm1⟩ : ∃ z, z = (proA tm M (T.pro (firstReg x))).1 := ⟨_, rfl⟩
    obtain ⟨M1, hM1⟩ : ∃ z, z = (proA tm M (T.pro (firstReg x))).2 := ⟨_, rfl⟩
    rw [← htm1, ← hM1] at r1
    rw [← hM1] at m1
    have hs1 := hg.step g1 m1
    obtain ⟨A, hA⟩ : ∃ A, A = L (firstReg x) (tm1.map (backV M1)) (M1.map (backB M1)) := ⟨_, rfl⟩
    have h : (∃ y, A.inv y ∧ leS T.n0 T.inp tm1 M1 (tm1.map (backV M1)) (M1.map (backB M1)) (A.hd y)) ∧
        ∀ y, A.inv y → vcCode T L x (A.hd y).1 (A.hd y).2 (fun e tm' M' => match e with | .normal => ∃ y', A.inv y' ∧ A.μ y' < A.μ y ∧ (let p := stealT (tm', stealA M' 0 (A.hd y).2) 0 (A.hd y).1; leS T.n0 T.inp p.1 p.2 (p.1.map (backV p.2)) (p.2.map (backB p.2)) (A.hd y')) | e => K e tm' M') := by rw [hA, htm1, hM1]; exact h
    obtain ⟨⟨y0, hi0, hl0⟩, hround⟩ := h
    refine wp_loop_ghost (fun n a' w' => ∃ y E', A.inv y ∧ A.μ y = n ∧ RepA X (A.hd y).1 (A.hd y).2 a' w' E' ∧ Since T W0 E0 w' E' (A.hd y).2) (A.μ y0) ⟨y0, _, hi0, rfl, (r1.back (leS_no hl0)).le hl0, hs1.head hT hl0⟩ ?_
    intro n a' w' hI
    obtain ⟨y, E', hiy, rfl, hry, hgy⟩ := hI
    refine ih _ _ a' w' E' _ _ (fun e tm' M' a' W' E' hk hr' hg' => ?_) (hround y hiy) hry hgy
    cases e with
    | normal =>
      obtain ⟨y', hi', hlt, hl'⟩ := hk
      obtain ⟨E2, g2, m2, r2⟩ := stealA_rep 0 (A.hd y).2 hr'
      obtain ⟨E3, g3, m3, r3⟩ := stealT_rep (A.hd y).1 0 (q := (tm', stealA M' 0 (A.hd y).2)) r2
      exact ⟨_, hlt, y', _, hi', rfl, (r3.back (leS_no hl')).le hl', ((hg'.step g2 m2).step g3 m3).head hT hl'⟩
    | _ => exact hS _ _ _ _ _ _ hk hr' hg'
  | _ => intro tm M a W E K Q hS h hr hg; exact h.elim
/-- what is handed back -/
theorem resW_run {r : ResultVar} {x : AW} (hM : RepM X W E M) (ht : RepT X W E M tm a.tmps.toList) (h : resW P tm M r = some x) :
    ∃ v, ((match r with | .tmp t => pure (a.tmps.getD t undef) | .cell p t => do loadVar t (← asAddr (a.tmps.getD p undef)) : Sem Value)).run P W = .ok v W ∧ RepW X W E M x v := by
  unfold resW at h
  split at h
  · rename_i t
    have he := evalA_rep ht (.tmp t)
    have he : RepV X W E M (tm.getD t .any) (a.tmps.getD t undef) := he
    split at h
    · rename_i y hy
      obtain rfl := Option.some.inj h
      rw [hy] at he
      exact ⟨_, rfl, he⟩
    · cases h
  · rename_i p t
    have he := evalA_rep ht (.tmp p)
    have he : RepV X W E M (tm.getD p .any) (a.tmps.getD p undef) := he
    split at h
    · rename_i i q hy
      rw [hy] at he
      obtain ⟨e, hei, hv⟩ := (he : boxAt E i _ q)
      split at h
      · rename_i l hb
        split at h
        · rename_i z hz
          obtain rfl := Option.some.inj h
          obtain ⟨_, cs, T, hgc, hl⟩ := hM.at_ i _ e hb hei
          obtain ⟨u, h1, h2⟩ := load_blk (P := P) hgc hl hz
          refine ⟨u, ?_, h2⟩
          simp only [Sem.run_bind]
          rw [hv]
          simp only [asAddr, Sem.run_pure, Result.andThen_ok]
          exact h1
        · cases h
      · cases h
    · cases h
theorem resA_run (hM : RepM X W E M) (ht : RepT X W E M tm a.tmps.toList) : ∀ {rs : List ResultVar} {l : List AW}, resA P tm M rs = some l →
    ∃ vs, (rs.mapM (fun r => (match r with | .tmp t => pure (a.tmps.getD t undef) | .cell p t => do loadVar t (← asAddr (a.tmps.getD p undef)) : Sem Value))).run P W = .ok vs W ∧ RepWs X W E M l vs
  | [], l, h => by
    obtain rfl := Option.some.inj h
    exact ⟨[], rfl, rfl⟩
  | r :: rs, l, h => by
    unfold resA at h
    cases hx : resW P tm M r with
    | none => rw [hx] at h; cases h
    | some x =>
      rw [hx] at h
      simp only at h
      cases hxs : resA P tm M rs with
      | none => rw [hxs] at h; cases h
      | some xs =>
        rw [hxs] at h
        obtain rfl := Option.some.inj h
        obtain ⟨v, h1, h2⟩ := resW_run hM ht hx
        obtain ⟨vs, h3, h4⟩ := resA_run hM ht hxs
        refine ⟨v :: vs, ?_, v, vs, rfl, h2, h4⟩
        rw [List.mapM_cons]
        simp only [Sem.run_bind, h1, Result.andThen_ok, h3, Sem.run_pure]
theorem RepWs.len : ∀ {l : List AW} {vs : List Value}, RepWs X W E M l vs → vs.length = l.length
  | [], _, h => by rw [show _ = _ from h]; rfl
  | _ :: _, _, ⟨v, r, e, _, h2⟩ => by rw [e, List.length_cons, RepWs.len h2, List.length_cons]
theorem results_run {fn : Func} {l : List AW} (hM : RepM X W E M) (ht : RepT X W E M tm a.tmps.toList) (h : resA P tm M fn.results.toList = some l) : ∃ v, (results fn a.tmps).run P W = .ok v W ∧ RepV X W E M (tupA l) v := by
  obtain ⟨vs, h1, h2⟩ := resA_run hM ht h
  have hlen := h2.len
  have hrun : (results fn a.tmps).run P W = .ok (if h : vs.toArray.size = 1 then vs.toArray[0] else .tuple vs.toArray) W := by
    unfold results
    rw [Array.mapM_eq_mapM_toList]
    simp only [Sem.run_bind, Sem.run_map]
    exact Eq.trans (congrArg (fun z : Result (List Value) => (z.andThen (fun a w' => Result.ok a.toArray w')).andThen (fun a w' => Sem.run P (pure (if h : a.size = 1 then a[0] else Value.tuple a)) w')) h1) rfl
  refine ⟨_, hrun, ?_⟩
  cases l with
  | nil =>
    obtain rfl : vs = [] := h2
    exact ⟨[], rfl, rfl⟩
  | cons x l =>
    cases l with
    | nil =>
      obtain ⟨v, r, rfl, q1, rfl⟩ := h2
      exact q1
    | cons y l =>
      have : ¬ vs.toArray.size = 1 := by simp at hlen ⊢; omega
      rw [dif_neg this]
      exact ⟨vs, rfl, h2⟩
theorem initT_rep : ∀ {args : List AW} {vs : List Value} (n : Nat), RepWs X W E M args vs → RepT X W E M (args.map .w ++ List.replicate n undefA) (vs ++ List.replicate n undef)
  | [], vs, n, h => by
    obtain rfl : vs = [] := h
    induction n with
    | zero => rfl
    | succ n ih => exact ⟨_, _, rfl, undefA_rep, ih⟩
  | _ :: _, _, n, ⟨v, r, e, h1, h2⟩ => by rw [e]; exact ⟨v, _, rfl, h1, initT_rep n h2⟩
theorem nilM (hsz : ∀ b ∈ X, b < W.heap.size) : RepM X W [] [] := ⟨rfl, List.nodup_nil, fun i b e h => by simp at h, fun b hb => by simp [foots] at hb, fun b _ => by simp [foots], hsz⟩
theorem vcFun_sound {L : Nat → List AV → Mem → LoopA} {f : FuncId} {fn : Func} {args : List AW} {vs : List Value} {M0 : Mem} {E0 : Env} {Q : AV → Mem → Prop} (hf : P.funcs[f]? = some fn) (hT : TabOk X W E0 T) (h : vcFun T L fn args M0 Q) (hM0 : RepM X W E0 M0) (hr : RepWs X W E0 M0 args vs)
    (hinp : ∀ i ∈ T.inp, ∃ t xs v c, M0[i]? = some (.row t xs v c none)) :
    Calls P f vs.toArray W (fun e W' => ∃ v E' M' r, e = .returned v ∧ Since T W E0 W' E' M' ∧ RepM X W' E' M' ∧ RepV X W' E' M' r v ∧ Q r M') := by
  unfold vcFun at h
  cases hb : fn.body with
  | none => rw [hb] at h; exact h.elim
  | some c =>
    rw [hb] at h
    simp only at h
    refine calls_of_wp hf hb (vcCode_sound (T := T) (L := L) (X := X) (W0 := W) hT c (initT fn.ntmps args) M0 _ W E0 _ _ (fun e tm M a W' E' hk hr' hg => ?_) h ⟨hM0, ?_, rfl⟩ ⟨Grow.refl _ _, fun i hi => ?_⟩)
    · have fin : ∀ (hk : match resA P tm M fn.results.toList with | some l => Q (tupA l) M | none => False), a.defers = [] ∧ ∃ v, (results fn a.tmps).run P W' = .ok v W' ∧ ∃ v' E' M' r, Ending.returned v = .returned v' ∧ Since T W E0 W' E' M' ∧ RepM X W' E' M' ∧ RepV X W' E' M' r v' ∧ Q r M' := fun hk => by
        split at hk
        · rename_i l hl
          obtain ⟨v, h1, h2⟩ := results_run hr'.mem hr'.tmps hl
          exact ⟨hr'.dfr, v, h1, v, E', M, _, rfl, hg, hr'.mem, h2, hk⟩
        · exact hk.elim
      cases e with
      | normal => exact fin hk
      | ret => exact fin hk
      | _ => exact hk.elim
    · have := initT_rep (fn.ntmps - vs.length) hr
      have hl := hr.len
      unfold initT
      rw [hl] at this
      have e1 : (vs.toArray ++ Array.replicate (fn.ntmps - vs.toArray.size) undef).toList = vs ++ List.replicate (fn.ntmps - args.length) undef := by simp [hl]
      show RepT X W E0 M0 _ (vs.toArray ++ Array.replicate (fn.ntmps - vs.toArray.size) undef).toList
      rw [e1]
      exact this
    · obtain ⟨t, xs, v, c, hi'⟩ := hinp i hi
      exact .inr ⟨t, xs, v, c, none, hi', fun _ e0 he0 => ⟨e0, he0, rfl⟩⟩
end
end Go.Proofs.YtoigkpkafgjeaaaGreatDoor
set_option linter.unusedSimpArgs false
set_option linter.unusedVariables false
namespace Go.Proofs.YtoigkpkafgjeaaaGreatDoor
open Go.ChangeShapes Go.WideShapes Go.ChangeAt Go.RowKit Go.Joins Go.Deep
open GoRep (rep bulk)

def AllL {α : Type} (p : α → Prop) (l : List α) : Prop := ∀ x ∈ l, p x
def WfT : (t : Ty) → t.den → Prop
  | .int k, x => (Lit.int k x).wf = true
  | .bool, _ => True
  | .str, s => ByteArray.size s ≤ maxLen
  | .opq, _ => True
  | .prod a b, x => WfT a x.1 ∧ WfT b x.2
  | .list a, xs => List.length (α := a.den) xs ≤ maxLen ∧ AllL (α := a.den) (WfT a) xs
def WfC : AC → Prop
  | .int k x => (Lit.int k x).wf = true
  | .str s => s.size ≤ maxLen
  | .hs .no t xs => xs.length ≤ maxLen ∧ AllL (WfT t) xs
  | .ep .no t xs _ _ => AllL (WfT t) xs
  | _ => True
def WfL : List AC → Prop
  | [] => True
  | c :: l => WfC c ∧ WfL l
def WfW : AW → Prop
  | .c a => WfC a
  | .ag l => WfL l
def WfA : List AW → Prop
  | [] => True
  | x :: l => WfW x ∧ WfA l
theorem row_wf {α : Type} [GoRep α] {W : World} {p : α → Prop} (hp : ∀ x cs F, rep W x cs F → p x) {b : Nat} : ∀ {xs : List α} {off : Nat} {G : List Nat}, RowRep W b off xs G → ∀ x ∈ xs, p x
  | [], _, _, _, x, hx => by simp at hx
  | y :: xs, _, _, ⟨cs, G1, G2, h1, _, h3, _⟩, x, hx => by
    rcases List.mem_cons.1 hx with rfl | hx
    · exact hp _ _ _ h1
    · exact row_wf hp h3 x hx
theorem rep_wf {W : World} : ∀ (t : Ty) {x : t.den} {cs : List Value} {F : List Nat}, rep W x cs F → WfT t x
  | .int _, _, _, _, h => h.2.1
  | .bool, _, _, _, _ => trivial
  | .str, _, _, _, h => h.2.1
  | .opq, _, _, _, _ => trivial
  | .prod a b, _, _, _, ⟨_, _, _, _, h1, h2, _, _⟩ => ⟨rep_wf a h1, rep_wf b h2⟩
  | .list a, xs, _, _, ⟨A, c, _, h1, h2, h3⟩ => by
    refine ⟨Nat.le_trans h1 h2, fun x hx => ?_⟩
    rcases h3 with ⟨rfl, _⟩ | ⟨_, b, off, G, _, _, hr⟩
    · simp at hx
    · exact row_wf (fun x cs F h => rep_wf a h) hr x hx
section
variable {P : Program} {X : List Nat} {W : World} {E : Env} {M : Mem}
theorem repC_wf : ∀ {c : AC} {v : Value}, RepC X W E M c v → WfC c
  | .int _ _, _, h => h.2
  | .bool _, _, _ => trivial
  | .str _, _, h => h.2
  | .opq _, _, _ => trivial
  | .hs .no t xs, v, ⟨_, F, h, _⟩ => rep_wf (.list t) h
  | .hs (.at _ _ _) _ _, _, _ => trivial
  | .bp _ _, _, _ => trivial
  | .ep .no t xs k o, v, ⟨_, F, ⟨b, off, G, _, _, _, h⟩, _⟩ => fun x hx => row_wf (fun x cs F h => rep_wf t h) h x hx
  | .ep (.at _ _ _) _ _ _ _, _, _ => trivial
  | .row _ _, _, _ => trivial
  | .rp _ _ _ _ _, _, _ => trivial
  | .sl _ _ _ _ _ _, _, _ => trivial
  | .sp _ _ _ _ _ _ _ _ _, _, _ => trivial
  | .tl _ _ _ _, _, _ => trivial
  | .mp _, _, _ => trivial
  | .junk, _, _ => trivial
  | .fn _ _, _, _ => trivial
  | .raw _, _, _ => trivial
theorem repL_wf : ∀ {l : List AC} {vs : List Value}, RepL X W E M l vs → WfL l
  | [], _, _ => trivial
  | _ :: _, _, ⟨_, _, _, h1, h2⟩ => ⟨repC_wf h1, repL_wf h2⟩
theorem repWs_wf : ∀ {l : List AW} {vs : List Value}, RepWs X W E M l vs → WfA l
  | [], _, _ => trivial
  | .c _ :: _, _, ⟨_, _, _, h1, h2⟩ => ⟨repC_wf h1, repWs_wf h2⟩
  | .ag _ :: _, _, ⟨_, _, _, ⟨_, _, h1⟩, h2⟩ => ⟨repL_wf h1, repWs_wf h2⟩
theorem matchR_rep {r res : AV} {new : Mem} {us : List (Option Nat)} {v : Value} (hM : RepM X W E M) (hr : RepV X W E M r v) (hn : (matchR M new r res).need) (hus : us = (matchR M new r res).used) :
    UsedOk X X W E M new us 0 (matchR M new r res).used ∧ RepV X W (pickE E us) new res v := by
  have hV : matchR M new r res = matchV M new [] r res → UsedOk X X W E M new us 0 (matchR M new r res).used ∧ RepV X W (pickE E us) new res v := fun e => by
    rw [e] at hn hus ⊢
    exact matchV_rep (X' := X) (us := us) (acc := []) hM (fun b hb => .inl hb) (fun q u h => by simp at h) hn hr (fun q u h => by rw [hus]; simpa using h)
  cases r with
  | w a =>
    cases res with
    | w b =>
      have e : matchR M new (.w a) (.w b) = matchP M new [] a b := rfl
      rw [e] at hn hus ⊢
      exact matchP_rep (X' := X) (us := us) (acc := []) hM (fun b hb => .inl hb) (fun q u h => by simp at h) hn hr (fun q u h => by rw [hus]; simpa using h)
    | tp l => exact hV rfl
    | any => exact hV rfl
  | tp l => exact hV rfl
  | any => exact hV rfl
/-- at the end: only the rows that are handed over -/
theorem end_rep {W0 : World} {res r : AV} {new : Mem} {v : Value} {T : Tab P} (hM : RepM X W E M) (hg : Grow W0 [] W E) (hr : RepV X W E M r v) (h : endA res new r M) : ∃ E', Grow W0 [] W E' ∧ RepM X W E' new ∧ RepV X W E' new res v := by
  obtain ⟨hn, hc⟩ := h
  obtain ⟨us, hus⟩ : ∃ us, us = (matchR M new r res).used := ⟨_, rfl⟩
  rw [← hus] at hc
  rw [Bool.and_eq_true] at hc
  have hlen := Nat.eq_of_beq_eq_true hc.1
  obtain ⟨hu, hv⟩ := matchR_rep hM hr hn hus
  rw [← hus] at hu
  have hu : UsedOk X X W E M new us 0 us := hu
  refine ⟨pickE E us, ⟨hg.os, hg.tape, hg.output, hg.size, hg.keep, fun b hb => hg.new b (pickE_in b hb), fun i e h => by simp at h⟩, pick_repM hM hu hlen hc.2 (fun b hb hf => hM.xlt b hb (pickE_in b hf)) hM.xsz, hv⟩
theorem boxIdx_mem : ∀ {l : Mem} {k j : Nat} {c : List AC}, l[j]? = some (.box c) → k + j ∈ boxIdx k l
  | [], _, _, _, h => by simp at h
  | .box _ :: l, k, 0, c, h => List.mem_cons_self
  | b :: l, k, j + 1, c, h => by
    have := boxIdx_mem (l := l) (k := k + 1) (j := j) (c := c) (by simpa using h)
    rw [show k + 1 + j = k + (j + 1) by omega] at this
    cases b <;> first | exact List.mem_cons_of_mem _ this | exact this
  | .row _ _ _ _ none :: l, k, 0, c, h => by cases h
  | .mp _ :: l, k, 0, c, h => by cases h
  | .dead :: l, k, 0, c, h => by cases h
theorem fixOk_get {us : List (Option Nat)} {l : List Nat} (h : fixOk us l = true) {j : Nat} (hj : j ∈ l) : us[j]? = some (some j) := by
  have h1 := List.all_eq_true.1 h j hj
  unfold accAt at h1
  split at h1
  · rename_i i hi
    rw [hi, Nat.eq_of_beq_eq_true h1]
  · cases h1
/-- the blocks that were lent, at the end -/
theorem pairs_rep {X' : List Nat} {new : Mem} {us : List (Option Nat)} (hM : RepM X W E M) (hX : ∀ b ∈ X', b ∈ X ∨ b ∈ foots E) : ∀ {ps : List (AW × AW)} {acc : List (Option Nat)}, (∀ (q : Nat) (u : Option Nat), acc[q]? = some u → us[q]? = some u) → (matchPs M new acc ps).need →
    (∀ (q : Nat) (u : Option Nat), (matchPs M new acc ps).used[q]? = some u → us[acc.length + q]? = some u) → (∀ p ∈ ps, ∃ v, RepW X W E M p.1 v) → UsedOk X X' W E M new us acc.length (matchPs M new acc ps).used
  | [], _, _, _, _, _ => trivial
  | p :: ps, acc, hacc, ⟨h1, h2⟩, hus, hv => by
    have hus : ∀ (q : Nat) (u : Option Nat), ((matchP M new acc p.1 p.2).used ++ (matchPs M new (acc ++ (matchP M new acc p.1 p.2).used) ps).used)[q]? = some u → us[acc.length + q]? = some u := hus
    have hu1 : ∀ (q : Nat) (u : Option Nat), (matchP M new acc p.1 p.2).used[q]? = some u → us[acc.length + q]? = some u := fun q u hq => hus q u (by rw [List.getElem?_append_left (List.getElem?_eq_some_iff.1 hq).1]; exact hq)
    have hacc2 : ∀ (q : Nat) (u : Option Nat), (acc ++ (matchP M new acc p.1 p.2).used)[q]? = some u → us[q]? = some u := fun q u hq => by
      by_cases hl : q < acc.length
      · rw [List.getElem?_append_left hl] at hq; exact hacc q u hq
      · rw [List.getElem?_append_right (by omega)] at hq
        have := hu1 _ u hq
        rwa [show acc.length + (q - acc.length) = q by omega] at this
    obtain ⟨v, hv1⟩ := hv p List.mem_cons_self
    obtain ⟨q1, _⟩ := matchP_rep hM hX hacc h1 hv1 hu1
    have p1 := pairs_rep hM hX hacc2 h2 (fun q u hq => by
      have := hus ((matchP M new acc p.1 p.2).used.length + q) u (by rw [List.getElem?_append_right (by omega), Nat.add_sub_cancel_left]; exact hq)
      rwa [List.length_append, Nat.add_assoc]) (fun p hp => hv p (List.mem_cons_of_mem _ hp))
    rw [List.length_append] at p1
    exact q1.app p1
/-- what the pairs of lent blocks name: a box, a row written in place, a nil slice -/
theorem pairs_name : ∀ {ins : List MTy} {k : Nat} {p : AW × AW}, p ∈ pairs k ins → (∃ j, p.1 = .c (.bp j 0) ∧ j < k + (ins.map MTy.nb).sum) ∨ (∃ j ∈ inpM k ins, p.1 = .c (.row j 0)) ∨ p.1 = .c (.raw (.slice none 0 0))
  | [], _, _, h => by simp [pairs] at h
  | y :: l, k, p, h => by
    have seq_lt : ∀ (n k j : Nat), j ∈ seqN k n → j < k + n := by
      intro n
      induction n with
      | zero => intro k j h; simp [seqN] at h
      | succ n ih =>
        intro k j h
        rcases List.mem_cons.1 h with rfl | h
        · omega
        · have := ih (k + 1) j h; omega
    have up : ∀ {n : Nat} {inp : List Nat}, n = y.nb → inpM k (y :: l) = inp ++ inpM (k + n) l → p ∈ pairs (k + n) l → (∃ j, p.1 = .c (.bp j 0) ∧ j < k + ((y :: l).map MTy.nb).sum) ∨ (∃ j ∈ inpM k (y :: l), p.1 = .c (.row j 0)) ∨ p.1 = .c (.raw (.slice none 0 0)) := fun {n inp} hn hi hp => by
      rcases pairs_name hp with ⟨j, h1, h2⟩ | ⟨j, h1, h2⟩ | h
      · exact .inl ⟨j, h1, by rw [List.map_cons, List.sum_cons, ← hn]; omega⟩
      · exact .inr (.inl ⟨j, by rw [hi]; exact List.mem_append_right _ h1, h2⟩)
      · exact .inr (.inr h)
    cases y with
    | a y => exact up (n := 0) (inp := []) rfl rfl h
    | m t =>
      rcases List.mem_cons.1 h with rfl | h
      · exact .inl ⟨k, rfl, by rw [List.map_cons, List.sum_cons]; simp only [MTy.nb]; omega⟩
      · exact up (inp := []) rfl rfl h
    | e t =>
      rcases List.mem_cons.1 h with rfl | h
      · exact .inr (.inl ⟨k, List.mem_cons_self, rfl⟩)
      · exact up (inp := [k]) rfl rfl h
    | q g t =>
      rcases List.mem_append.1 h with h | h
      · obtain ⟨j, hj, rfl⟩ := List.mem_map.1 h
        exact .inr (.inl ⟨j, List.mem_append_left _ hj, rfl⟩)
      · exact up (inp := seqN k t.nl) rfl rfl h
    | g g t =>
      rcases List.mem_append.1 h with h | h
      · obtain ⟨j, hj, rfl⟩ := List.mem_map.1 h
        exact .inr (.inr rfl)
      · exact up (inp := []) rfl rfl h
    | b t =>
      rcases List.mem_cons.1 h with rfl | h
      · exact .inl ⟨k, rfl, by rw [List.map_cons, List.sum_cons]; simp only [MTy.nb]; omega⟩
      · exact up (inp := []) rfl rfl h
    | f g c =>
      rcases List.mem_append.1 h with h | h
      · obtain ⟨j, hj, rfl⟩ := List.mem_map.1 h
        refine .inl ⟨j, rfl, ?_⟩
        have := seq_lt _ _ _ hj
        rw [List.map_cons, List.sum_cons]
        show j < k + (c.length + _)
        omega
      · exact up (inp := []) rfl rfl h
theorem capM_len : ∀ {l : List CapK} {x : capD l}, (capM l x).length = l.length
  | [], _ => rfl
  | .b t :: l, x => congrArg (· + 1) (capM_len (l := l) (x := x.2))
  | .ptr j :: l, x => congrArg (· + 1) (capM_len (l := l) (x := (x : capD l)))
theorem rowsOf_len : ∀ {t : Ty} {x : t.den}, (rowsOf t x).length = t.nl
  | .int _, _ => rfl
  | .bool, _ => rfl
  | .str, _ => rfl
  | .opq, _ => rfl
  | .prod a b, x => (List.length_append).trans (congr (congrArg Nat.add (rowsOf_len (t := a))) (rowsOf_len (t := b)))
  | .list _, _ => rfl
theorem preM1_len {k : Nat} : ∀ {y : MTy} {x : y.D}, (preM1 k y x).length = y.nb
  | .a _, _ => rfl
  | .m t, x => congrArg (· + 1) (rowsOf_len (t := t))
  | .e _, _ => rfl
  | .q _ t, x => rowsOf_len (t := t)
  | .g _ t, x => rowsOf_len (t := t)
  | .b _, _ => rfl
  | .f _ l, x => capM_len (l := l)
theorem preM_len : ∀ {ins : List MTy} {k : Nat} {x : MD ins}, (preM k ins x).length = (ins.map MTy.nb).sum
  | [], _, _ => rfl
  | y :: l, k, x => by
    show (preM1 k y x.1 ++ preM (k + y.nb) l x.2).length = _
    rw [List.length_append, preM1_len, preM_len, List.map_cons, List.sum_cons]
theorem rowsOf_row : ∀ {t : Ty} {x : t.den} {b : Blk}, b ∈ rowsOf t x → ∃ (t' : Ty) (xs : List t'.den), b = .row t' xs 0 0 none
  | .int _, _, _, h => by simp [rowsOf] at h
  | .bool, _, _, h => by simp [rowsOf] at h
  | .str, _, _, h => by simp [rowsOf] at h
  | .opq, _, _, h => by simp [rowsOf] at h
  | .prod a b, x, _, h => (List.mem_append.1 h).elim (rowsOf_row (t := a)) (rowsOf_row (t := b))
  | .list a, xs, _, h => ⟨a, xs, List.mem_singleton.1 h⟩
theorem seqN_mem : ∀ {n k j : Nat}, j ∈ seqN k n → k ≤ j ∧ j < k + n
  | 0, _, _, h => by simp [seqN] at h
  | n + 1, k, j, h => by
    rcases List.mem_cons.1 h with rfl | h
    · omega
    · have := seqN_mem h; omega
theorem preM_inp : ∀ {ins : List MTy} {k : Nat} {x : MD ins} {i : Nat}, i ∈ inpM k ins → k ≤ i ∧ ∃ (t : Ty) (xs : List t.den) (v c : Nat), (preM k ins x)[i - k]? = some (.row t xs v c none)
  | [], _, _, _, h => by simp [inpM] at h
  | y :: l, k, x, i, h => by
    have up : i ∈ inpM (k + y.nb) l → k ≤ i ∧ ∃ (t : Ty) (xs : List t.den) (v c : Nat), (preM k (y :: l) x)[i - k]? = some (.row t xs v c none) := fun h => by
      obtain ⟨h1, t, xs, v, c, h2⟩ := preM_inp (x := x.2) h
      refine ⟨by omega, t, xs, v, c, ?_⟩
      show (preM1 k y x.1 ++ preM (k + y.nb) l x.2)[i - k]? = _
      rw [List.getElem?_append_right (by rw [preM1_len]; omega), preM1_len, ← h2]
      congr 1
      omega
    have here : i ∈ seqN k y.nb → (∀ b ∈ preM1 k y x.1, ∃ (t' : Ty) (xs : List t'.den), b = .row t' xs 0 0 none) → k ≤ i ∧ ∃ (t : Ty) (xs : List t.den) (v c : Nat), (preM k (y :: l) x)[i - k]? = some (.row t xs v c none) := fun h hb => by
      obtain ⟨h1, h2⟩ := seqN_mem h
      refine ⟨h1, ?_⟩
      have hl : i - k < (preM1 k y x.1).length := by rw [preM1_len]; omega
      obtain ⟨t, xs, e⟩ := hb _ (List.getElem_mem hl)
      refine ⟨t, xs, 0, 0, ?_⟩
      show (preM1 k y x.1 ++ preM (k + y.nb) l x.2)[i - k]? = _
      rw [List.getElem?_append_left hl, List.getElem?_eq_getElem hl, e]
    cases y with
    | e t =>
      rcases List.mem_cons.1 h with h | h
      · exact here (by rw [h]; exact List.mem_cons_self) (fun b hb => ⟨t, _, List.mem_singleton.1 hb⟩)
      · exact up h
    | q g t =>
      rcases List.mem_append.1 h with h | h
      · exact here h (fun b hb => rowsOf_row (t := t) hb)
      · exact up h
    | a _ => exact up h
    | m _ => exact up h
    | g _ _ => exact up h
    | b _ => exact up h
    | f _ _ => exact up h
/-- what the caller's blocks hold is well-formed -/
def WfB : Blk → Prop
  | .row t xs _ _ none => WfT (.list t) xs
  | .box l => WfL l
  | _ => True
def WfM : Mem → Prop
  | [] => True
  | b :: l => WfB b ∧ WfM l
theorem olist_wf {t : Ty} {xs : List t.den} {v : Value} {F : List Nat} (h : OList W (ORep W t) t.n xs v F) : WfT (.list t) xs := by
  obtain ⟨F', h1, _⟩ := ORep.rep (.list t) (x := xs) (cs := [v]) ⟨v, rfl, h⟩
  exact rep_wf (.list t) h1
theorem repB_wf {b : Blk} {e : EB} (h : RepB X W E M b e) : WfB b := by
  cases b with
  | row t xs v c hh =>
    cases hh with
    | none => exact olist_wf h
    | some _ => trivial
  | box l => obtain ⟨_, cs, T, _, h⟩ := h; exact repL_wf h
  | mp _ => trivial
  | dead => trivial
theorem repM_wf (hM : RepM X W E M) : WfM M := by
  have : ∀ b ∈ M, WfB b := fun b hb => by
    obtain ⟨i, hi⟩ := List.mem_iff_getElem?.1 hb
    have hl : i < E.length := by rw [← hM.len]; exact (List.getElem?_eq_some_iff.1 hi).1
    exact repB_wf (hM.at_ i b _ hi (List.getElem?_eq_getElem hl))
  clear hM
  induction M with
  | nil => trivial
  | cons b l ih => exact ⟨this b List.mem_cons_self, ih (fun b hb => this b (List.mem_cons_of_mem _ hb))⟩
/-- A function's condition gives its contract. -/
theorem bcalls_of {T : Tab P} {L : Nat → List AV → Mem → LoopA} {f : FuncId} {fn : Func} {args : List AW} {res : AV} {new : Mem} (hf : P.funcs[f]? = some fn) (hC : (T.C = none ∧ T.n0 = 0) ∧ T.inp = []) (h : WfA args → vcFun T L fn args [] (endA res new)) : BCalls P f args res new := fun X W vs hsz hgl hr =>
  (vcFun_sound (E0 := []) hf ⟨.inl hC.1.1, hC.1.2, (fun i hi => by rw [hC.2] at hi; cases hi), hgl⟩ (h (repWs_wf hr)) (nilM hsz) hr (fun i hi => by rw [hC.2] at hi; cases hi)).mono fun e W' hq => by
    obtain ⟨v, E', M', r, rfl, g, m, hv, hend⟩ := hq
    obtain ⟨E2, g2, m2, hv2⟩ := end_rep (T := T) m g.g hv hend
    exact ⟨v, E2, rfl, g2, m2, hv2⟩
/-- the same for a function that takes a closure -/
theorem hcalls_of {T : Tab P} {L : Nat → List AV → Mem → LoopA} {f : FuncId} {fn : Func} {args : List AW} {res : AV} {vs : List Value} (hf : P.funcs[f]? = some fn) (hn0 : T.n0 = 0 ∧ T.inp = []) (hT : ∀ c, T.C = some c → CEok X W c) (hsz : ∀ b ∈ X, b < W.heap.size) (hgl : Glob W []) (hr : RepWs X W [] [] args vs)
    (h : WfA args → vcFun T L fn args [] (endA res [])) :
    Calls P f vs.toArray W (fun e W' => ∃ v E', e = .returned v ∧ Grow W [] W' E' ∧ RepM X W' E' [] ∧ RepV X W' E' [] res v) :=
  (vcFun_sound (E0 := []) hf ⟨.inr ⟨rfl, hT⟩, hn0.1, (fun i hi => by rw [hn0.2] at hi; cases hi), hgl⟩ (h (repWs_wf hr)) (nilM hsz) hr (fun i hi => by rw [hn0.2] at hi; cases hi)).mono fun e W' hq => by
    obtain ⟨v, E', M', r, rfl, g, m, hv, hend⟩ := hq
    obtain ⟨E2, g2, m2, hv2⟩ := end_rep (T := T) m g.g hv hend
    exact ⟨v, E2, rfl, g2, m2, hv2⟩
/-- A function's condition gives its contract on what the caller owns. -/
theorem mcalls_of {T : Tab P} {L : Nat → List AV → Mem → LoopA} {f : FuncId} {fn : Func} {ins : List MTy} {x y : MD ins} {res : AV} {new : Mem} (hf : P.funcs[f]? = some fn) (hC : T.C = none) (hn0 : T.n0 = (preM 0 ins x).length) (hinp : T.inp = inpM 0 ins)
    (hsame : sameLs (preM 0 ins x) (postM 0 ins y ++ new) = true)
    (h : WfA (argsM 0 ins x) → WfM (preM 0 ins x) → vcFun T L fn (argsM 0 ins x) (preM 0 ins x) (endM ins (postM 0 ins y ++ new) res)) : MCalls P f (argsM 0 ins x) (preM 0 ins x) (postM 0 ins y ++ new) (inpM 0 ins) res := fun X W E0 vs hgl hM0 hr => by
  have hrow : ∀ i ∈ T.inp, ∃ (t : Ty) (xs : List t.den) (v c : Nat), (preM 0 ins x)[i]? = some (.row t xs v c none) := fun i hi => by
    rw [hinp] at hi
    obtain ⟨_, h⟩ := preM_inp (x := x) hi
    exact h
  have hl0 : (preM 0 ins x).length = E0.length := hM0.len
  refine (vcFun_sound (T := T) hf ⟨.inl hC, by rw [hn0, hl0], (fun i hi => by
    obtain ⟨t, xs, v, c, h⟩ := hrow i hi
    rw [← hl0]
    exact (List.getElem?_eq_some_iff.1 h).1), hgl⟩ (h (repWs_wf hr) (repM_wf hM0)) hM0 hr hrow).mono fun e W' hq => ?_
  obtain ⟨v, E', M', r, rfl, hs, m, hv, hn, hchk⟩ := hq
  obtain ⟨qm, hqm⟩ : ∃ qm, qm = postM 0 ins y ++ new := ⟨_, rfl⟩
  rw [← hqm] at hn hchk hsame ⊢
  obtain ⟨us1, hus1⟩ : ∃ us1, us1 = (matchPs M' qm [] (pairs 0 ins)).used := ⟨_, rfl⟩
  rw [← hus1] at hn hchk
  obtain ⟨us2, hus2⟩ : ∃ us2, us2 = (matchV M' qm us1 r res).used := ⟨_, rfl⟩
  rw [← hus2] at hchk
  simp only [Bool.and_eq_true] at hchk
  obtain ⟨⟨c1, c2⟩, c3, c4⟩ := hchk
  have c1 := Nat.eq_of_beq_eq_true c1
  have hlE : ∀ j, j < (preM 0 ins x).length → ∃ ej e0, E'[j]? = some ej ∧ E0[j]? = some e0 ∧ ej.blk = e0.blk := fun j hj => by
    have h0 : E0[j]? = some (E0[j]'(by omega)) := List.getElem?_eq_getElem (by omega)
    obtain ⟨ej, q1, q2⟩ := hs.g.blk j _ h0
    exact ⟨ej, _, q1, h0, q2⟩
  have hu1 : UsedOk X X W' E' M' qm (us1 ++ us2) 0 us1 := by
    have := pairs_rep (X' := X) (us := us1 ++ us2) (acc := []) m (fun b hb => .inl hb) (fun q u h => by simp at h) hn.1 (fun q u h => by rw [← hus1] at h; rw [List.length_nil, Nat.zero_add, List.getElem?_append_left (List.getElem?_eq_some_iff.1 h).1]; exact h) (fun p hp => by
      rcases pairs_name hp with ⟨j, h1, h2⟩ | ⟨j, h1, h2⟩ | h1
      · rw [h1]
        obtain ⟨ej, e0, q1, _⟩ := hlE j (by rw [preM_len]; omega)
        exact ⟨_, ej, q1, rfl⟩
      · rw [h2]
        have hv0 := List.all_eq_true.1 c4 j h1
        rcases hs.kept j (by rw [hinp]; exact h1) with hd | ⟨t, xs, v', c, hh, k1, _⟩
        · rw [hd] at hv0; cases hv0
        · rw [k1] at hv0
          cases hh with
          | some _ => cases hv0
          | none =>
          obtain rfl := Nat.eq_of_beq_eq_true (show Nat.beq v' 0 = true from hv0)
          obtain ⟨_, t2, xs2, v2, c2, h3⟩ := preM_inp (x := x) h1
          obtain ⟨ej, e0, q1, _⟩ := hlE j (by have := (List.getElem?_eq_some_iff.1 h3).1; omega)
          have hol : OList W' (ORep W' t) t.n xs ej.val ej.foot := m.at_ j _ ej k1 q1
          obtain ⟨A, c', hsl⟩ := olist_slice hol
          refine ⟨ej.val, by rw [hsl]; rfl, ?_⟩
          unfold atRow
          rw [k1]
          exact ⟨Nat.le_refl _, fun _ => ⟨ej, q1, rfl⟩⟩
      · rw [h1]
        exact ⟨.slice none 0 0, rfl, rfl⟩)
    rw [← hus1] at this
    exact this
  obtain ⟨hu2, hv2⟩ := matchV_rep (X' := X) (us := us1 ++ us2) (acc := us1) m (fun b hb => .inl hb) (fun q u h => by rw [List.getElem?_append_left (List.getElem?_eq_some_iff.1 h).1]; exact h) hn.2 hv (fun q u h => by rw [← hus2] at h; rw [List.getElem?_append_right (by omega), Nat.add_sub_cancel_left]; exact h)
  rw [← hus2] at hu2
  have hu : UsedOk X X W' E' M' qm (us1 ++ us2) 0 (us1 ++ us2) := hu1.app (by rw [Nat.zero_add]; exact hu2)
  refine ⟨v, pickE E' (us1 ++ us2), rfl, ⟨hs.g.os, hs.g.tape, hs.g.output, hs.g.size, hs.g.keep, fun b hb => hs.g.new b (pickE_in b hb)⟩, fun i l e0 hb he0 => ?_, fun i hi e0 he0 => ?_, pick_repM m hu c1 c2 (fun b hb hf => m.xlt b hb (pickE_in b hf)) m.xsz, hv2⟩
  · have hq : ∃ l', qm[i]? = some (.box l') := sameLs_box' hsame hb
    obtain ⟨l', hq⟩ := hq
    have hin : i ∈ boxIdx 0 qm := by have := boxIdx_mem (k := 0) hq; rwa [Nat.zero_add] at this
    have hus := fixOk_get c3 (List.mem_append_left _ hin)
    obtain ⟨ej, e0', q1, q2, q3⟩ := hlE i (List.getElem?_eq_some_iff.1 hb).1
    rw [he0] at q2
    obtain rfl := Option.some.inj q2
    exact ⟨ej, pickE_some hus q1, q3⟩
  · have hus := fixOk_get c3 (List.mem_append_right _ hi)
    have hv0 := List.all_eq_true.1 c4 i hi
    rcases hs.kept i (by rw [hinp]; exact hi) with hd | ⟨t, xs, v', c, hh, k1, k2⟩
    · rw [hd] at hv0; cases hv0
    · rw [k1] at hv0
      cases hh with
      | some _ => cases hv0
      | none =>
      obtain rfl := Nat.eq_of_beq_eq_true (show Nat.beq v' 0 = true from hv0)
      obtain ⟨ej, q1, q2⟩ := k2 rfl e0 he0
      exact ⟨ej, pickE_some hus q1, q2⟩
theorem RV.of_b {f : FuncId} {args : List AW} {c : AC} {w : World} {vs : List Value} {u : Value} (h : BCalls P f args (.c c) []) (hgl : Glob w []) (hr : RepWs [] w [] [] args vs) (hc : ∀ W' E' v, RepC [] W' E' [] c v → v = u) : Calls P f vs.toArray w (RV u w) :=
  (h [] w vs (by simp) hgl hr).mono fun e W' hq => by
    obtain ⟨v, E', rfl, g, m, hv⟩ := hq
    obtain rfl := hc _ _ _ hv
    exact ⟨rfl, ext_of_below g.below⟩
theorem repW_held1 {w : World} (t : Ty) {xs : List t.den} {v : Value} (h : Held w xs [v]) : RepW [] w [] [] (.c (.hs .no t xs)) v := by
  obtain ⟨F, h⟩ := h
  exact ⟨by have := GoRep.one h; simpa using this, F, h, fun b hb => ⟨by simp [foots], GoRep.lt h b hb⟩⟩
end
theorem cond_iff {b : Bool} {p q : Prop} : (bif b then p else q) ↔ ((b = true → p) ∧ (b = false → q)) := by cases b <;> simp
end Go.Proofs.YtoigkpkafgjeaaaGreatDoor
set_option linter.unusedSimpArgs false
set_option linter.unusedVariables false
namespace Go.Proofs.YtoigkpkafgjeaaaGreatDoor
open Go.ChangeShapes Go.WideShapes Go.ChangeAt Go.RowKit Go.Joins Go.Deep
open GoRep (rep bulk)

section
variable {P : Program} {X X2 : List Nat} {W W' : World} {E : Env} {M : Mem}
def Ty.quo : Ty → Ty
  | .int k => .int k
  | .bool => .bool
  | .str => .str
  | .opq => .opq
  | .prod a b => .prod a.quo b.quo
  | .list _ => .opq
/-- the slices of x are the cells of q; these are their blocks -/
def QRel (W : World) : (t : Ty) → t.den → t.quo.den → List Nat → Prop
  | .int _, x, q, F => @Eq Int x q ∧ F = []
  | .bool, x, q, F => @Eq Bool x q ∧ F = []
  | .str, x, q, F => @Eq ByteArray x q ∧ F = []
  | .opq, x, q, F => @Eq Value x q ∧ F = []
  | .prod a b, x, q, F => ∃ F1 F2, QRel W a x.1 q.1 F1 ∧ QRel W b x.2 q.2 F2 ∧ F = F1 ++ F2
  | .list a, xs, q, F => OList W (ORep W a) a.n xs q F
theorem quo_n : ∀ t : Ty, t.quo.n = t.n
  | .int _ => rfl
  | .bool => rfl
  | .str => rfl
  | .opq => rfl
  | .prod a b => by
    show a.quo.n + b.quo.n = a.n + b.n
    rw [quo_n a, quo_n b]
  | .list _ => rfl
theorem quo_flat : ∀ t : Ty, t.quo.flat = true
  | .int _ => rfl
  | .bool => rfl
  | .str => rfl
  | .opq => rfl
  | .prod a b => by
    show (a.quo.flat && b.quo.flat) = true
    rw [quo_flat a, quo_flat b]
    rfl
  | .list _ => rfl
theorem orep_quo : ∀ (t : Ty) {x : t.den} {cs : List Value} {F : List Nat}, ORep W t x cs F → ∃ q : t.quo.den, ORep W t.quo q cs [] ∧ QRel W t x q F
  | .int _, x, _, _, h => ⟨x, ⟨h.1, h.2.1, rfl⟩, rfl, h.2.2⟩
  | .bool, x, _, _, h => ⟨x, ⟨h.1, rfl⟩, rfl, h.2⟩
  | .str, x, _, _, h => ⟨x, ⟨h.1, h.2.1, rfl⟩, rfl, h.2.2⟩
  | .opq, x, _, _, h => ⟨x, ⟨h.1, h.2.1, rfl⟩, rfl, h.2.2⟩
  | .prod a b, x, _, _, ⟨c1, c2, F1, F2, h1, h2, e1, e2⟩ => by
    obtain ⟨q1, r1, k1⟩ := orep_quo a h1
    obtain ⟨q2, r2, k2⟩ := orep_quo b h2
    exact ⟨(q1, q2), ⟨c1, c2, [], [], r1, r2, e1, rfl⟩, F1, F2, k1, k2, e2⟩
  | .list a, xs, _, _, ⟨v, e, h⟩ => by
    obtain ⟨T, cells, G, h0, h1, h2⟩ := h
    exact ⟨v, ⟨e, ownsRow_one h0, rfl⟩, T, cells, G, h0, h1, h2⟩
theorem orep_back : ∀ (t : Ty) {x : t.den} {q : t.quo.den} {cs : List Value} {F : List Nat}, ORep W t.quo q cs [] → QRel W t x q F → ORep W t x cs F
  | .int _, x, q, _, _, h, ⟨k1, k2⟩ => by
    have k1 : x = q := k1
    subst k1
    exact ⟨h.1, h.2.1, k2⟩
  | .bool, x, q, _, _, h, ⟨k1, k2⟩ => by
    have k1 : x = q := k1
    subst k1
    exact ⟨h.1, k2⟩
  | .str, x, q, _, _, h, ⟨k1, k2⟩ => by
    have k1 : x = q := k1
    subst k1
    exact ⟨h.1, h.2.1, k2⟩
  | .opq, x, q, _, _, h, ⟨k1, k2⟩ => by
    have k1 : x = q := k1
    subst k1
    exact ⟨h.1, h.2.1, k2⟩
  | .prod a b, x, q, _, _, ⟨c1, c2, G1, G2, h1, h2, e1, e2⟩, ⟨F1, F2, k1, k2, e3⟩ => by
    have e2 : [] = G1 ++ G2 := e2
    obtain ⟨rfl, rfl⟩ := List.append_eq_nil_iff.1 e2.symm
    exact ⟨c1, c2, F1, F2, orep_back a h1 k1, orep_back b h2 k2, e1, e3⟩
  | .list a, xs, q, _, _, h, k => ⟨q, h.1, k⟩
theorem OList.keep2 {t : Ty} {xs : List t.den} {v : Value} {F : List Nat} (h : OList W (ORep W t) t.n xs v F) (hk : ∀ b ∈ F, W'.heap[b]? = W.heap[b]?) : OList W' (ORep W' t) t.n xs v F := OList.keep h hk
theorem QRel.keep : ∀ (t : Ty) {x : t.den} {q : t.quo.den} {F : List Nat}, QRel W t x q F → (∀ b ∈ F, W'.heap[b]? = W.heap[b]?) → QRel W' t x q F
  | .int _, _, _, _, h, _ => h
  | .bool, _, _, _, h, _ => h
  | .str, _, _, _, h, _ => h
  | .opq, _, _, _, h, _ => h
  | .prod a b, _, _, _, ⟨F1, F2, h1, h2, e⟩, hk => ⟨F1, F2, QRel.keep a h1 (fun p hp => hk p (by rw [e]; simp [hp])), QRel.keep b h2 (fun p hp => hk p (by rw [e]; simp [hp])), e⟩
  | .list a, _, _, _, h, hk => OList.keep2 (t := a) h hk
def QRows (W : World) (t : Ty) : List t.den → List t.quo.den → List Nat → Prop
  | [], [], G => G = []
  | x :: xs, q :: qs, G => ∃ G1 G2, QRel W t x q G1 ∧ QRows W t xs qs G2 ∧ G = G1 ++ G2
  | _, _, _ => False
theorem rows_quo {t : Ty} : ∀ {xs : List t.den} {cells : List Value} {G : List Nat}, ORows (ORep W t) xs cells G → ∃ qs : List t.quo.den, ORows (ORep W t.quo) qs cells [] ∧ QRows W t xs qs G
  | [], _, _, h => ⟨[], ⟨h.1, rfl⟩, h.2⟩
  | _ :: _, _, _, ⟨c1, c2, G1, G2, h1, h2, e1, e2⟩ => by
    obtain ⟨q, r1, k1⟩ := orep_quo t h1
    obtain ⟨qs, r2, k2⟩ := rows_quo h2
    exact ⟨q :: qs, ⟨c1, c2, [], [], r1, r2, e1, rfl⟩, G1, G2, k1, k2, e2⟩
theorem rows_back {t : Ty} : ∀ {xs : List t.den} {qs : List t.quo.den} {cells : List Value} {G : List Nat}, ORows (ORep W t.quo) qs cells [] → QRows W t xs qs G → ORows (ORep W t) xs cells G
  | [], [], _, _, h, k => ⟨h.1, k⟩
  | [], _ :: _, _, _, _, k => k.elim
  | _ :: _, [], _, _, _, k => k.elim
  | _ :: _, _ :: _, _, _, ⟨c1, c2, H1, H2, h1, h2, e1, e2⟩, ⟨G1, G2, k1, k2, e3⟩ => by
    obtain ⟨rfl, rfl⟩ := List.append_eq_nil_iff.1 e2.symm
    exact ⟨c1, c2, G1, G2, orep_back t h1 k1, rows_back h2 k2, e1, e3⟩
theorem QRows.app {t : Ty} : ∀ {xs ys : List t.den} {qs rs : List t.quo.den} {G H : List Nat}, QRows W t xs qs G → QRows W t ys rs H → QRows W t (xs ++ ys) (qs ++ rs) (G ++ H)
  | [], _, [], _, _, _, h, k => by
    obtain rfl : _ = [] := h
    exact k
  | [], _, _ :: _, _, _, _, h, _ => h.elim
  | _ :: _, _, [], _, _, _, h, _ => h.elim
  | _ :: _, _, _ :: _, _, _, _, ⟨G1, G2, h1, h2, e⟩, k => ⟨G1, _, h1, QRows.app h2 k, by rw [e, List.append_assoc]⟩
theorem QRows.split {t : Ty} : ∀ (k : Nat) {xs : List t.den} {qs : List t.quo.den} {G : List Nat}, QRows W t xs qs G → ∃ G1 G2, G = G1 ++ G2 ∧ QRows W t (xs.take k) (qs.take k) G1 ∧ QRows W t (xs.drop k) (qs.drop k) G2
  | 0, _, _, G, h => ⟨[], G, rfl, rfl, h⟩
  | _ + 1, [], [], G, h => ⟨[], G, rfl, rfl, h⟩
  | _ + 1, [], _ :: _, _, h => h.elim
  | _ + 1, _ :: _, [], _, h => h.elim
  | k + 1, _ :: _, _ :: _, _, ⟨G1, G2, h1, h2, e⟩ => by
    obtain ⟨A, B, e1, q1, q2⟩ := QRows.split k h2
    exact ⟨G1 ++ A, B, by rw [e, e1, List.append_assoc], ⟨G1, A, h1, q1, rfl⟩, q2⟩
theorem QRows.out {t : Ty} (k : Nat) {xs : List t.den} {qs : List t.quo.den} {G : List Nat} (h : QRows W t xs qs G) : ∃ G1 Gd G3, G = G1 ++ (Gd ++ G3) ∧ QRows W t (xs.take k ++ xs.drop (k + 1)) (qs.take k ++ qs.drop (k + 1)) (G1 ++ G3) := by
  obtain ⟨G1, G2, e1, q1, q2⟩ := h.split k
  obtain ⟨Gd, G3, e2, q3, q4⟩ := q2.split 1
  rw [List.drop_drop, List.drop_drop] at q4
  exact ⟨G1, Gd, G3, by rw [e1, e2], q1.app q4⟩
theorem QRows.len {t : Ty} : ∀ {xs : List t.den} {qs : List t.quo.den} {G : List Nat}, QRows W t xs qs G → qs.length = xs.length
  | [], [], _, _ => rfl
  | [], _ :: _, _, h => h.elim
  | _ :: _, [], _, h => h.elim
  | _ :: _, _ :: _, _, ⟨_, _, _, h, _⟩ => by rw [List.length_cons, List.length_cons, QRows.len h]
theorem QRows.keep {t : Ty} : ∀ {xs : List t.den} {qs : List t.quo.den} {G : List Nat}, QRows W t xs qs G → (∀ b ∈ G, W'.heap[b]? = W.heap[b]?) → QRows W' t xs qs G
  | [], [], _, h, _ => h
  | [], _ :: _, _, h, _ => h.elim
  | _ :: _, [], _, h, _ => h.elim
  | _ :: _, _ :: _, _, ⟨G1, G2, h1, h2, e⟩, hk => ⟨G1, G2, QRel.keep t h1 (fun p hp => hk p (by rw [e]; simp [hp])), h2.keep (fun p hp => hk p (by rw [e]; simp [hp])), e⟩
theorem QRows.map {t : Ty} {β : Type} (f : t.den → β) (g : t.quo.den → β) (hfg : ∀ x q F, QRel W t x q F → g q = f x) : ∀ {xs : List t.den} {qs : List t.quo.den} {G : List Nat}, QRows W t xs qs G → qs.map g = xs.map f
  | [], [], _, _ => rfl
  | [], _ :: _, _, h => h.elim
  | _ :: _, [], _, h => h.elim
  | _ :: _, _ :: _, _, ⟨_, _, h1, h2, _⟩ => by rw [List.map_cons, List.map_cons, hfg _ _ _ h1, QRows.map f g hfg h2]
theorem olist_quo {t : Ty} {xs : List t.den} {v : Value} {F : List Nat} (h : OList W (ORep W t) t.n xs v F) : ∃ (qs : List t.quo.den) (G : List Nat), F = v.ownBlock.toList ++ G ∧ OList W (ORep W t.quo) t.quo.n qs v v.ownBlock.toList ∧ QRows W t xs qs G := by
  obtain ⟨T, cells, G, h0, h1, h2⟩ := h
  obtain ⟨qs, r1, r2⟩ := rows_quo h1
  exact ⟨qs, G, h2, ⟨T, cells, [], by rw [quo_n, r2.len]; exact h0, r1, by simp⟩, r2⟩
theorem olist_back {t : Ty} {xs : List t.den} {qs : List t.quo.den} {v : Value} {F G : List Nat} (h : OList W (ORep W t.quo) t.quo.n qs v F) (k : QRows W t xs qs G) : OList W (ORep W t) t.n xs v (F ++ G) ∧ F = v.ownBlock.toList := by
  obtain ⟨T, cells, G0, h0, h1, h2⟩ := h
  have e0 : G0 = [] := by
    have hz := h1.all (Q := fun _ => False) (fun x cs F h b hb => by rw [flat_foot t.quo (quo_flat t) h] at hb; cases hb)
    cases G0 with
    | nil => rfl
    | cons b l => exact (hz b (by simp)).elim
  subst e0
  rw [List.append_nil] at h2
  rw [quo_n, k.len] at h0
  exact ⟨⟨T, cells, G, h0, rows_back h1 k, by rw [h2]⟩, h2⟩
theorem RepM.row {i : Nat} {t : Ty} {xs : List t.den} {v c : Nat} {e : EB} (hM : RepM X W E M) (hi : M[i]? = some (.row t xs v c none)) (he : E[i]? = some e) : OList W (ORep W t) t.n xs e.val e.foot := hM.at_ i _ e hi he
/-- what is borrowed: the row's block is none of those that are kept away -/
theorem repC_quo {t : Ty} {qs : List t.quo.den} {v : Value} (h : OList W (ORep W t.quo) t.quo.n qs v v.ownBlock.toList) (hx : ∀ b ∈ v.ownBlock.toList, b ∉ X2) : RepC X2 W [] [] (.hs .no t.quo qs) v := by
  obtain ⟨F', ⟨A, c, e1, hs⟩, hF⟩ := ORep.rep (.list t.quo) (x := qs) (cs := [v]) (F := v.ownBlock.toList) ⟨v, rfl, h⟩
  have hlt := ORep.lt (.list t.quo) (x := qs) (cs := [v]) (F := v.ownBlock.toList) ⟨v, rfl, h⟩
  have e2 : v = .slice A qs.length c := by simpa using e1
  refine ⟨by rw [e2]; rfl, F', ⟨A, c, by rw [e2], hs⟩, fun b hb => ⟨⟨by simp [foots], hx b (hF b hb)⟩, hlt b (hF b hb)⟩⟩
/-- rows that were given away -/
def nilE (n : Nat) : Env := List.replicate n ⟨0, .slice none 0 0, []⟩
theorem foots_nilE (n : Nat) : foots (nilE n) = [] := by
  unfold foots nilE
  rw [List.flatMap_replicate]
  simp
/-- the result, its elements' slices the ones that came -/
theorem q_done {pm : Mem} {t : Ty} {ts : List Ty} {E' : Env} {v : Value} {rs : List t.quo.den} {ys : List t.den} {G : List Nat} (hM : RepM X W E pm) (hg : Grow W [] W' E') (hm : RepM X2 W' E' [.row t.quo rs 0 0 none])
    (hv : RepC X2 W' E' [.row t.quo rs 0 0 none] (.row 0 0) v) (hX : ∀ b ∈ X, b ∈ X2) (hq : QRows W t ys rs G) (hn : G.Nodup) (hG : ∀ b ∈ G, b ∈ foots E) :
    ∃ E2, GrowX W E W' E2 ∧ RepM X W' E2 (ts.map (fun a => Blk.row a [] 0 0 none) ++ [.row t ys 0 0 none]) ∧ RepC X W' E2 (ts.map (fun a => Blk.row a [] 0 0 none) ++ [.row t ys 0 0 none]) (.row ts.length 0) v := by
  have hl : E'.length = 1 := by rw [← hm.len]; rfl
  obtain ⟨e1, rfl⟩ : ∃ e1, E' = [e1] := by
    match E', hl with
    | [e], _ => exact ⟨e, rfl⟩
  have hrow : OList W' (ORep W' t.quo) t.quo.n rs e1.val e1.foot := hm.row (i := 0) rfl rfl
  have hve : v = e1.val := by
    have := hv.2
    unfold atRow at this
    obtain ⟨e, he, h⟩ := this.2 rfl
    obtain rfl : e1 = e := Option.some.inj he
    exact h
  have hGlt : ∀ b ∈ G, b < W.heap.size := fun b hb => hM.lt b (hG b hb)
  have hq' : QRows W' t ys rs G := hq.keep (fun b hb => hg.keep b (hGlt b hb) (by simp [foots]))
  obtain ⟨ho, hf⟩ := olist_back hrow hq'
  have hfe : ∀ b ∈ e1.foot, W.heap.size ≤ b := fun b hb => (hg.new b (by simp [foots, hb])).resolve_left (by simp [foots])
  have hfoot : foots (nilE ts.length ++ [⟨0, e1.val, e1.foot ++ G⟩]) = e1.foot ++ G := by rw [foots_append, foots_nilE]; simp [foots]
  have hlenE : (nilE ts.length).length = ts.length := by simp [nilE]
  refine ⟨nilE ts.length ++ [⟨0, e1.val, e1.foot ++ G⟩], ⟨hg.os, hg.tape, hg.output, hg.size, fun b hb _ => hg.keep b hb (by simp [foots]), fun b hb => ?_⟩, ⟨by simp [nilE], ?_, fun i b e hb he => ?_, fun b hb => ?_, fun b hb => ?_, fun b hb => ?_⟩, ?_⟩
  · rw [hfoot] at hb
    rcases List.mem_append.1 hb with hb | hb
    · exact .inr (hfe b hb)
    · exact .inl (hG b hb)
  · rw [hfoot, List.nodup_append]
    refine ⟨?_, hn, fun a ha b hb e => ?_⟩
    · have := hm.nodup
      simpa [foots] using this
    · subst e
      have := hfe a ha
      have := hGlt a hb
      omega
  · by_cases hi : i < ts.length
    · rw [List.getElem?_append_left (by simpa using hi), List.getElem?_map] at hb
      rw [List.getElem?_append_left (by rw [hlenE]; exact hi)] at he
      have he : e = ⟨0, .slice none 0 0, []⟩ := by
        unfold nilE at he
        rw [List.getElem?_replicate, if_pos hi] at he
        exact (Option.some.inj he).symm
      subst he
      rw [List.getElem?_eq_getElem hi] at hb
      obtain rfl := Option.some.inj hb
      exact ⟨0, [], [], World.ownsRow_nil W' 0 0 _, ⟨rfl, rfl⟩, rfl⟩
    · rw [List.getElem?_append_right (by simp; omega)] at hb
      rw [List.getElem?_append_right (by rw [hlenE]; omega), hlenE] at he
      simp only [List.length_map] at hb
      have h0 : i - ts.length = 0 := by
        have := (List.getElem?_eq_some_iff.1 hb).1
        simp at this
        omega
      rw [h0] at hb he
      obtain rfl := Option.some.inj hb
      obtain rfl := Option.some.inj he
      exact ho
  · rw [hfoot] at hb
    rcases List.mem_append.1 hb with hb | hb
    · exact hm.lt b (by simp [foots, hb])
    · exact Nat.lt_of_lt_of_le (hGlt b hb) hg.size
  · rw [hfoot]
    intro hb'
    rcases List.mem_append.1 hb' with hb' | hb'
    · exact hm.xlt b (hX b hb) (by simp [foots, hb'])
    · exact hM.xlt b hb (hG b hb')
  · exact Nat.lt_of_lt_of_le (hM.xsz b hb) hg.size
  · refine ⟨by rw [hve]; obtain ⟨T, cells, G0, h0, _⟩ := ho; exact ownsRow_one h0, ?_⟩
    unfold atRow
    rw [List.getElem?_append_right (by simp), List.getElem?_append_right (by simp [nilE])]
    simp [hve, nilE]
end
end Go.Proofs.YtoigkpkafgjeaaaGreatDoor
set_option linter.unusedSimpArgs false
set_option linter.unusedVariables false
namespace Go.Proofs.YtoigkpkafgjeaaaGreatDoor
open Go.ChangeShapes Go.WideShapes Go.ChangeAt Go.RowKit Go.Joins Go.Deep
open GoRep (rep bulk)

/-- own rows from the n-th on are nobody's now -/
def frC (n : Nat) (M : Mem) : AC → AC
  | .int k x => .int k x
  | .bool b => .bool b
  | .str s => .str s
  | .row i 0 => match M[i]? with
    | some (.row t xs 0 0 none) => bif Nat.ble n i then .hs .no t xs else .junk
    | _ => .junk
  | _ => .junk
def frW (n : Nat) (M : Mem) : AW → AW
  | .c a => .c (frC n M a)
  | .ag l => .ag (l.map (frC n M))
def frV (n : Nat) (M : Mem) : AV → AV
  | .w x => .w (frW n M x)
  | .tp l => .tp (l.map (frW n M))
  | .any => .any
section
variable {X : List Nat} {W : World} {E : Env} {M : Mem} {P : Program}
theorem frC_rep {n : Nat} (hM : RepM X W E M) : ∀ {c : AC} {v : Value}, RepC X W E M c v → RepC X W (E.take n) (M.take n) (frC n M c) v := fun {c v} h => by
  have one := RepC.one h
  cases c with
  | int k x => exact h
  | bool b => exact h
  | str s => exact h
  | row i ver =>
    cases ver with
    | succ _ => exact one
    | zero =>
      show RepC X W (E.take n) (M.take n) (match M[i]? with
        | some (.row t xs 0 0 none) => bif Nat.ble n i then .hs .no t xs else .junk
        | _ => .junk) v
      split
      · rename_i t xs hi
        cases hn : Nat.ble n i with
        | false => exact one
        | true =>
          have hn := Nat.le_of_ble_eq_true hn
          obtain ⟨_, h2⟩ := h
          unfold atRow at h2
          rw [hi] at h2
          obtain ⟨e, he, rfl⟩ := h2.2 rfl
          obtain ⟨F, r1, r2⟩ := ORep.rep (.list t) (x := xs) ⟨e.val, rfl, hM.at_ i _ e hi he⟩
          have hfe : ∀ b ∈ F, b ∈ foots E := fun b hb => mem_foots.2 ⟨e, List.mem_of_getElem? he, r2 b hb⟩
          refine ⟨one, F, r1, fun b hb => ⟨⟨fun hq => ?_, fun hx => hM.xlt b hx (hfe b hb)⟩, hM.lt b (hfe b hb)⟩⟩
          have hnd := hM.nodup
          rw [← List.take_append_drop n E, foots_append, List.nodup_append] at hnd
          refine hnd.2.2 b hq b (mem_foots.2 ⟨e, List.mem_of_getElem? (i := i - n) ?_, r2 b hb⟩) rfl
          rw [List.getElem?_drop, show n + (i - n) = i by omega]
          exact he
      · exact one
  | _ => exact one
theorem frL_rep {n : Nat} (hM : RepM X W E M) : ∀ {l : List AC} {vs : List Value}, RepL X W E M l vs → RepL X W (E.take n) (M.take n) (l.map (frC n M)) vs
  | [], _, h => h
  | _ :: _, _, ⟨v, r, e, h1, h2⟩ => ⟨v, r, e, frC_rep hM h1, frL_rep hM h2⟩
theorem frW_rep {n : Nat} (hM : RepM X W E M) : ∀ {x : AW} {v : Value}, RepW X W E M x v → RepW X W (E.take n) (M.take n) (frW n M x) v
  | .c _, _, h => frC_rep hM h
  | .ag _, _, ⟨cs, e, h⟩ => ⟨cs, e, frL_rep hM h⟩
theorem frWs_rep {n : Nat} (hM : RepM X W E M) : ∀ {l : List AW} {vs : List Value}, RepWs X W E M l vs → RepWs X W (E.take n) (M.take n) (l.map (frW n M)) vs
  | [], _, h => h
  | _ :: _, _, ⟨v, r, e, h1, h2⟩ => ⟨v, r, e, frW_rep hM h1, frWs_rep hM h2⟩
theorem frV_rep {n : Nat} (hM : RepM X W E M) : ∀ {x : AV} {v : Value}, RepV X W E M x v → RepV X W (E.take n) (M.take n) (frV n M x) v
  | .w _, _, h => frW_rep hM h
  | .tp _, _, ⟨vs, e, h⟩ => ⟨vs, e, frWs_rep hM h⟩
  | .any, _, _ => trivial
end
theorem BCalls.free {P : Program} {f : FuncId} {args : List AW} {r : AV} {new : Mem} (h : BCalls P f args r new) : BCalls P f args (frV 0 new r) [] := fun X W vs hX hgl hr => (h X W vs hX hgl hr).mono fun e W' q => by
  obtain ⟨v, E', he, g, hM, hv⟩ := q
  have hv' := frV_rep (n := 0) hM hv
  rw [List.take_zero, List.take_zero] at hv'
  exact ⟨v, [], he, ⟨g.os, g.tape, g.output, g.size, fun b hb _ => g.keep b hb (by simp [foots]), fun b hb => by simp [foots] at hb, fun i e h => by simp at h⟩, nilM hM.xsz, hv'⟩
def freeE {P : Program} (e : Entry P) : Entry P := ⟨e.f, e.ins, e.pre, fun x => frV 0 (e.new x) (e.res x), fun _ => [], fun x hx => (e.ok x hx).free, e.ent⟩
theorem MCalls.free {P : Program} {f : FuncId} {args : List AW} {pm qm new : Mem} {inp : List Nat} {r : AV} (hl : qm.length = pm.length) (hk : qm.all (okB qm.length) = true) (hin : ∀ i ∈ inp, i < qm.length) (h : MCalls P f args pm (qm ++ new) inp r) : MCalls P f args pm (qm ++ []) inp (frV qm.length (qm ++ new) r) := fun X W E vs hgl hM hr => (h X W E vs hgl hM hr).mono fun e W' q => by
  obtain ⟨v, E', he, g, hb, hi, hM', hv⟩ := q
  have hm := repM_cut hM' hk
  have hv' := frV_rep (n := qm.length) hM' hv
  rw [List.take_left] at hv'
  rw [List.append_nil]
  have hcut : ∀ (i : Nat) (e' : EB), i < qm.length → E'[i]? = some e' → (E'.take qm.length)[i]? = some e' := fun i e' hlt h => by rw [List.getElem?_take, if_pos hlt]; exact h
  refine ⟨v, E'.take qm.length, he, ⟨g.os, g.tape, g.output, g.size, g.keep, fun b hb => g.new b (foots_take _ b hb)⟩, fun i l e0 h1 h2 => ?_, fun i hi' e0 h2 => ?_, hm, hv'⟩
  · obtain ⟨e', q1, q2⟩ := hb i l e0 h1 h2
    exact ⟨e', hcut i e' (by rw [hl]; exact (List.getElem?_eq_some_iff.1 h1).1) q1, q2⟩
  · obtain ⟨e', q1, q2⟩ := hi i hi' e0 h2
    exact ⟨e', hcut i e' (hin i hi') q1, q2⟩
def freeM {P : Program} (e : MEntry P) (hl : ∀ x y, (postM 0 e.ins x).length = (preM 0 e.ins y).length) (hk : ∀ x, (postM 0 e.ins x).all (okB (postM 0 e.ins x).length) = true) (hin : ∀ x, ∀ i ∈ inpM 0 e.ins, i < (postM 0 e.ins x).length) : MEntry P :=
  ⟨e.f, e.ins, e.pre, e.post, fun x => frV (postM 0 e.ins (e.post x)).length (postM 0 e.ins (e.post x) ++ e.new x) (e.res x), fun _ => [], fun x hx => (e.ok x hx).free (hl _ _) (hk _) (hin _), e.ent⟩
end Go.Proofs.YtoigkpkafgjeaaaGreatDoor
