/-
  Steps, regions, code: the abstract condition gives the model's.
  Plain: no program. No condition.
-/
import Derived.Test.YtkompmgleojmlaaDoorEBmY
import Derived.Test.YtkompmgleojmlaaDoorEBmP
import Derived.Deep.LoopGhost
import Derived.Still
set_option linter.unusedSimpArgs false
set_option linter.unusedVariables false
namespace Go.Proofs.YtkompmgleojmlaaDoor
open Go.ChangeShapes Go.WideShapes Go.ChangeAt Go.RowKit Go.Joins Go.Deep
open GoRep (rep bulk)

section
variable {P : Program} {X : List Nat} {W : World} {E : Env} {M : Mem} {a : Act} {tm : List AV} {o : Oper} {T : Tab P}
/-- only new memory was made, and nothing of it is ours -/
theorem grow_drop {W' : World} {E' : Env} (g : Grow W [] W' E') : Grow W E W' E where
  os := g.os
  tape := g.tape
  output := g.output
  size := g.size
  keep b hb _ := g.keep b hb (by simp [foots])
  new b hb := .inl hb
  blk i e he := ⟨e, he, rfl⟩
theorem memOk_drop {W' : World} {E' : Env} (g : Grow W [] W' E') (hM : RepM X W E M) : MemOk W E M W' E M := by
  have := memOk_append (W := W) (W' := W') (grow_drop g) hM (fun b hb => g.keep b (hM.lt b hb) (by simp [foots])) [] []
  rwa [List.append_nil, List.append_nil] at this
theorem repM_drop {W' : World} {E' : Env} (g : Grow W [] W' E') (hM : RepM X W E M) : RepM X W' E M :=
  ⟨hM.len, hM.nodup, fun i b e hb he => (hM.at_ i b e hb he).keep (grow_drop g) (memOk_drop g hM) hM.len (fun q hq => g.keep q (hM.lt q (mem_foots.2 ⟨e, List.mem_of_getElem? he, hq⟩)) (by simp [foots])),
    fun b hb => Nat.lt_of_lt_of_le (hM.lt b hb) g.size, hM.xlt, fun b hb => Nat.lt_of_lt_of_le (hM.xsz b hb) g.size⟩
theorem decA_cons {y : ATy} {l : List ATy} {x : AV} {xs : List AV} {d : AD (y :: l)} (h : decA M (y :: l) (x :: xs) = some d) : decA1 M y x = some d.1 ∧ decA M l xs = some d.2 := by
  unfold decA at h
  cases hq : decA1 M y x with
  | none => rw [hq] at h; cases h
  | some z =>
    rw [hq] at h
    simp only at h
    cases hz : decA M l xs with
    | none => rw [hz] at h; cases h
    | some ys =>
      rw [hz] at h
      obtain rfl : (z, ys) = d := Option.some.inj h
      exact ⟨rfl, rfl⟩
theorem nilMj {W : World} (hsz : ∀ b ∈ X, b < W.heap.size) : RepM X W [] [] := ⟨rfl, List.nodup_nil, fun i b e h => by simp at h, fun b hb => by simp [foots] at hb, fun b _ => by simp [foots], hsz⟩
theorem decT_M {M M' : Mem} : ∀ (t : Ty) {l : List AC}, (∀ c ∈ l, rawC c = false) → decT M t l = decT M' t l
  | .int _, _, _ => rfl
  | .bool, _, _ => rfl
  | .str, _, _ => rfl
  | .opq, _, _ => rfl
  | .prod a b, l, hl => by
    unfold decT
    rw [decT_M (M := M) (M' := M') a hl]
    cases ha : decT M' a l with
    | none => rfl
    | some q =>
      obtain ⟨y, l1⟩ := q
      have h1 := decT_eq a hl ha
      simp only
      rw [decT_M (M := M) (M' := M') b (fun c hc => hl c (by rw [h1]; simp [hc]))]
  | .list a, l, hl => by
    show decList M a l = decList M' a l
    cases l with
    | nil => rfl
    | cons c l =>
      have hc := hl c List.mem_cons_self
      cases c with
      | hs L t xs =>
        cases L with
        | no => rfl
        | «at» i v c => cases hc
      | int k x => rfl
      | bool b => rfl
      | str s => rfl
      | opq s => rfl
      | _ => cases hc
theorem decEl_M {M M' : Mem} {y : ATy} {agg : Bool} {t : Ty} {x : t.den} {d : y.ty.den} (h : decA1 M y (encEl agg t x) = some d) (hp : ∀ t, y ≠ .p t) : decA1 M' y (encEl agg t x) = some d := by
  cases y with
  | p t' => exact absurd rfl (hp t')
  | v t' =>
    cases agg with
    | true => cases h
    | false =>
      have h : (match decT M t' [enc1 t x] with | some (x, []) => some x | _ => none) = some d := h
      show (match decT M' t' [enc1 t x] with | some (x, []) => some x | _ => none) = some d
      rw [decT_M (M := M') (M' := M) t' (fun c hc => by obtain rfl := List.mem_singleton.1 hc; exact enc1_raw)]
      exact h
  | s t' =>
    cases agg with
    | false => cases h
    | true =>
      have h : (match decT M t' (cellsOf t x) with | some (x, []) => some x | _ => none) = some d := h
      show (match decT M' t' (cellsOf t x) with | some (x, []) => some x | _ => none) = some d
      rw [decT_M (M := M') (M' := M) t' (cellsOf_raw t x)]
      exact h
/-- an element names no block -/
theorem decA_nil : ∀ {l : List ATy} {agg : Bool} {t : Ty} {x : t.den} {d : AD l}, decA M l [encEl agg t x] = some d → decA [] l [encEl agg t x] = some d
  | [], _, _, _, _, h => by simp [decA] at h
  | y :: l, agg, t, x, d, h => by
    obtain ⟨h1, h2⟩ := decA_cons h
    have h3 : decA1 [] y (encEl agg t x) = some d.1 := by
      have hel := decA1_el h1
      cases y with
      | v t' => exact decEl_M h1 (fun t h => by cases h)
      | s t' => exact decEl_M h1 (fun t h => by cases h)
      | p t' =>
        exfalso
        revert hel
        cases agg with
        | true => intro hel; cases hel
        | false =>
          intro hel
          have hr := enc1_raw (t := t) (x := x)
          have he : encEl false t x = .w (.c (enc1 t x)) := rfl
          rw [he] at hel
          injection hel with h4
          injection h4 with h5
          rw [h5] at hr
          cases hr
    have h4 : decA [] l [] = some d.2 := by
      cases l with
      | nil => exact h2
      | cons _ _ => cases h2
    unfold decA
    rw [h3]
    simp only [h4]
    rfl
theorem capsV_monoj {W' : World} {E' : Env} (g : Grow W [] W' E') : ∀ {cs : List CV} {vs : List Value}, capsV X W cs vs → RepWs X W' [] [] (cs.map CV.arg) vs
  | [], _, h => h
  | c :: cs, _, ⟨v, r, e, ⟨h1, F, ⟨b, off, G, q0, q1, q2, q3⟩, q4⟩, h2⟩ => by
    subst q0
    refine ⟨v, r, e, ⟨h1, b :: G, ⟨b, off, G, rfl, q1, q2, q3.keep (g.keep b (q4 b (by simp)).2 (by simp [foots])) (fun k hk => g.keep k (q4 k (by simp [hk])).2 (by simp [foots]))⟩, fun k hk => ⟨(q4 k hk).1, Nat.lt_of_lt_of_le (q4 k hk).2 g.size⟩⟩, capsV_monoj g h2⟩
theorem elW_rep {agg : Bool} {t : Ty} {x : t.den} {v : Value} (h : RepW X W E M (elW agg t x) v) : RepV X W E M (encEl agg t x) v := by cases agg <;> exact h
theorem closOk_of {fg : FuncId} {cs : List CV} {caps : List Value} {agg : Bool} {t : Ty} {p : t.den → Bool} (hsz : ∀ b ∈ X, b < W.heap.size) (hgl : Glob W []) (hc : capsV X W cs caps) (ent : ∀ args w, (callFunc fg args).run P w = .ok (.enter fg args) w)
    (h : ∀ x, BCalls P fg (elW agg t x :: cs.map CV.arg) (.c (.bool (p x))) []) : ClosOk X W P (.func (.func fg) #[] caps.toArray) agg t p :=
  ⟨fg, caps, rfl, ent, fun W' E' x v g hx => h x X W' (v :: caps) (fun b hb => Nat.lt_of_lt_of_le (hsz b hb) g.size) (hgl.grow g).nil ⟨v, caps, rfl, hx, capsV_monoj g hc⟩⟩
theorem closOk2_of {fg : FuncId} {cs : List CV} {caps : List Value} {agg : Bool} {t : Ty} {p : t.den → t.den → Bool} (hsz : ∀ b ∈ X, b < W.heap.size) (hgl : Glob W []) (hc : capsV X W cs caps) (ent : ∀ args w, (callFunc fg args).run P w = .ok (.enter fg args) w)
    (h : ∀ x y, BCalls P fg (elW agg t x :: elW agg t y :: cs.map CV.arg) (.c (.bool (p x y))) []) : ClosOk2 X W P (.func (.func fg) #[] caps.toArray) agg t p :=
  ⟨fg, caps, rfl, ent, fun W' E' x y v v2 g hx hy => h x y X W' (v :: v2 :: caps) (fun b hb => Nat.lt_of_lt_of_le (hsz b hb) g.size) (hgl.grow g).nil ⟨v, _, rfl, hx, v2, caps, rfl, hy, capsV_monoj g hc⟩⟩
theorem callB_sound {W0 : World} {E0 : Env} (hT : TabOk X W0 E0 T) (hg0 : Grow W0 E0 W E) {f : FuncId} {args : List AV} {vs : List Value} (hM : RepM X W E M) (hr : RepT X W E M args vs) (hn : (callB T M f args).need) :
    (∀ args w, (callFunc f args).run P w = .ok (.enter f args) w) ∧
    Calls P f vs.toArray W (fun e W' => ∃ u E', e = .returned u ∧ Grow W E W' E' ∧ MemOk W E M W' E' (callB T M f args).mem ∧ RepM X W' E' (callB T M f args).mem ∧ RepV X W' E' (callB T M f args).mem (callB T M f args).val u) := by
  have hgl : Glob W E := hT.2.2.2.grow hg0
  unfold callB at hn ⊢
  cases hH : findH f T.H with
  | some h =>
    rw [hH] at hn
    simp only at hn ⊢
    split at hn
    · rename_i c g ids
      split at hn
      · rename_i xs hxs
        obtain rfl := findH_eq hH
        obtain ⟨v, r, e, h1, v2, r2, e2, h2, h3⟩ := hr
        subst e
        subst e2
        obtain rfl : r2 = [] := h3
        obtain ⟨caps, rfl, hcaps⟩ := (h2 : ∃ vs, v2 = .func (.func g) #[] vs.toArray ∧ capsAt E ids vs)
        obtain ⟨hn, hsc⟩ := hn
        refine ⟨h.ent, ?_⟩
        have hxs' := repL_out (X' := X) hM (fun b hb => .inl hb) hxs (⟨v, [], rfl, h1, rfl⟩ : RepL X W E M [c] [v])
        obtain ⟨v', r', e', q1, _⟩ := hxs'
        obtain ⟨rfl, _⟩ : v = v' ∧ [] = r' := by simpa using e'
        -- the closure's contract
        have hd := hn h.t.dflt
        unfold closP at hn hd
        cases hg : findE g T.Γ with
        | none => rw [hg] at hd; exact hd.elim
        | some eg =>
          rw [hg] at hd hn
          obtain rfl := findE_eq hg
          obtain ⟨fg, ins, pre, res, new, ok, ent⟩ := eg
          simp only at hd hn ok ent
          cases ins with
          | nil => exact hd.elim
          | cons a0 ps =>
            have hcons : ∀ x, ∃ y : AD (a0 :: ps), decA M (a0 :: ps) ([encEl h.agg h.t x] ++ ids.map (fun i => .c (.bp i 0))) = some y ∧ new y = [] ∧ pre y ∧ isBoolV (res y) := fun x => by
              have := hn x
              cases hy : decA M (a0 :: ps) ([encEl h.agg h.t x] ++ ids.map (fun i => .c (.bp i 0))) with
              | none => rw [hy] at this; exact this.elim
              | some y =>
                rw [hy] at this
                simp only at this
                cases hnw : new y with
                | nil => rw [hnw] at this; exact ⟨y, rfl, hnw, this.1, this.2⟩
                | cons _ _ => rw [hnw] at this; exact this.elim
            obtain ⟨y0, hy0, _⟩ := hcons h.t.dflt
            obtain ⟨_, hds⟩ := decA_cons hy0
            obtain ⟨hce, hcv⟩ := decA_caps hM hds hcaps
            obtain ⟨p, hp⟩ : ∃ p : h.t.den → Bool, p = fun x => match closP T.Γ M fg [encEl h.agg h.t x] ids with | some (_, r) => boolV r | none => false := ⟨_, rfl⟩
            have hgoal := h.ok p xs _ X W v hM.xsz hgl.nil q1 (closOk_of hM.xsz hgl.nil hcv ent (fun x => ?_))
            · refine hgoal.mono fun en W' hq => ?_
              obtain ⟨u, E', rfl, g, r, hv⟩ := hq
              refine ⟨u, E, rfl, grow_drop g, memOk_drop g hM, repM_drop g hM, ?_⟩
              rw [hp] at hv
              exact scalV_rep (hsc _ _) hv
            · obtain ⟨y, hy, hnw, hpre, hb⟩ := hcons x
              obtain ⟨he, hds'⟩ := decA_cons hy
              have hy2 : y.2 = y0.2 := Option.some.inj (hds'.symm.trans hds)
              have hbc := ok y hpre
              have hpx : res y = .c (.bool (p x)) := by
                rw [hp]
                unfold closP
                rw [hg]
                simp only [hy, hnw]
                revert hb
                generalize res y = r
                intro hb
                unfold isBoolV at hb
                split at hb
                · rfl
                · exact hb.elim
              rw [hpx, hnw] at hbc
              have hel := decA1_el he
              unfold elW
              rw [hel]
              show BCalls P fg (encA1 a0 y.1 :: (cvsOf ps y0.2).map CV.arg) _ _
              rw [← hce, ← hy2]
              exact hbc
      · exact hn.elim
    · rename_i c u
      split at hn
      · rename_i ce xs hce hxs
        obtain ⟨rfl, hTc⟩ : E0 = [] ∧ ∀ c, T.C = some c → CEok X W0 c := hT.1.resolve_left (by rw [hce]; simp)
        obtain rfl := findH_eq hH
        obtain ⟨v, r, e, h1, v2, r2, e2, h2, h3⟩ := hr
        subst e
        subst e2
        obtain rfl : r2 = [] := h3
        obtain ⟨hu, hn, hsc⟩ := hn
        obtain rfl : v2 = u := h2.1
        subst hu
        refine ⟨h.ent, ?_⟩
        have hxs' := repL_out (X' := X) hM (fun b hb => .inl hb) hxs (⟨v, [], rfl, h1, rfl⟩ : RepL X W E M [c] [v])
        obtain ⟨v', r', e', q1, _⟩ := hxs'
        obtain ⟨rfl, _⟩ : v = v' ∧ [] = r' := by simpa using e'
        obtain ⟨p, hp⟩ : ∃ p : h.t.den → Bool, p = fun x => match decA M ce.ins [encEl h.agg h.t x] with | some y => boolV (ce.res y) | none => false := ⟨_, rfl⟩
        have hgoal := h.ok p xs ce.u X W v hM.xsz hgl.nil q1 ⟨ce.g, ce.caps, ce.hu, ce.ent, fun W' E' x vx g hx => ?_⟩
        · refine hgoal.mono fun en W' hq => ?_
          obtain ⟨u, E', rfl, g, r, hv⟩ := hq
          refine ⟨u, E, rfl, grow_drop g, memOk_drop g hM, repM_drop g hM, ?_⟩
          rw [hp] at hv
          exact scalV_rep (hsc _ _) hv
        · have hnx := hn x
          cases hy : decA M ce.ins [encEl h.agg h.t x] with
          | none => rw [hy] at hnx; exact hnx.elim
          | some y =>
            rw [hy] at hnx
            simp only at hnx
            have hpx : ce.res y = .c (.bool (p x)) := by
              rw [hp]
              simp only [hy]
              revert hnx
              generalize ce.res y = r
              intro hb
              unfold isBoolV at hb
              split at hb
              · rfl
              · exact hb.elim
            have hr1 : RepT X W' [] [] [encEl h.agg h.t x] [vx] := ⟨vx, [], rfl, elW_rep hx, rfl⟩
            have hgw : Grow W0 [] W' E' := by
              have g1 : Grow W0 [] W [] := ⟨hg0.os, hg0.tape, hg0.output, hg0.size, hg0.keep, fun b hb => by simp [foots] at hb, fun i e h => by simp at h⟩
              exact g1.trans g
            have ha := decA_rep (X' := X) (M := []) (nilMj (fun b hb => Nat.lt_of_lt_of_le (hM.xsz b hb) g.size)) (fun b hb => .inl hb) (decA_nil hy) hr1
            have := hTc ce hce W' E' y [vx] hgw ha
            rw [hpx] at this
            exact this
      · exact hn.elim
    · exact hn.elim
  | none =>
    rw [hH] at hn
    simp only at hn ⊢
    cases hH2 : findH2 f T.H2 with
    | some h =>
      rw [hH2] at hn
      simp only at hn ⊢
      split at hn
      · rename_i c c2 g ids
        split at hn
        · rename_i xs ys hxs hys
          obtain rfl := findH2_eq hH2
          obtain ⟨v, r, e, h1, v2, r2, e2, k1, v3, r3, e3, h2, h3⟩ := hr
          subst e
          subst e2
          subst e3
          obtain rfl : r3 = [] := h3
          obtain ⟨caps, rfl, hcaps⟩ := (h2 : ∃ vs, v3 = .func (.func g) #[] vs.toArray ∧ capsAt E ids vs)
          obtain ⟨hn, hsc⟩ := hn
          refine ⟨h.ent, ?_⟩
          have hxs' := repL_out (X' := X) hM (fun b hb => .inl hb) hxs (⟨v, [], rfl, h1, rfl⟩ : RepL X W E M [c] [v])
          obtain ⟨v', r', e', q1, _⟩ := hxs'
          obtain ⟨rfl, _⟩ : v = v' ∧ [] = r' := by simpa using e'
          have hys' := repL_out (X' := X) hM (fun b hb => .inl hb) hys (⟨v2, [], rfl, k1, rfl⟩ : RepL X W E M [c2] [v2])
          obtain ⟨v'', r'', e'', q2, _⟩ := hys'
          obtain ⟨rfl, _⟩ : v2 = v'' ∧ [] = r'' := by simpa using e''
          have hd := hn h.t.dflt h.t.dflt
          unfold closP at hn hd
          cases hg : findE g T.Γ with
          | none => rw [hg] at hd; exact hd.elim
          | some eg =>
            rw [hg] at hd hn
            obtain rfl := findE_eq hg
            obtain ⟨fg, ins, pre, res, new, ok, ent⟩ := eg
            simp only at hd hn ok ent
            cases ins with
            | nil => exact hd.elim
            | cons a0 ins =>
            cases ins with
            | nil =>
              have hz : decA M [a0] ([encEl h.agg h.t h.t.dflt, encEl h.agg h.t h.t.dflt] ++ ids.map (fun i => .c (.bp i 0))) = none := by
                show (match decA1 M a0 (encEl h.agg h.t h.t.dflt) with | some y => (match (none : Option Unit) with | some ys => some (y, ys) | none => none) | none => none) = none
                split <;> rfl
              rw [hz] at hd
              exact hd.elim
            | cons a1 ps =>
              have hcons : ∀ x y, ∃ d : AD (a0 :: a1 :: ps), decA M (a0 :: a1 :: ps) ([encEl h.agg h.t x, encEl h.agg h.t y] ++ ids.map (fun i => .c (.bp i 0))) = some d ∧ new d = [] ∧ pre d ∧ isBoolV (res d) := fun x y => by
                have := hn x y
                cases hy : decA M (a0 :: a1 :: ps) ([encEl h.agg h.t x, encEl h.agg h.t y] ++ ids.map (fun i => .c (.bp i 0))) with
                | none => rw [hy] at this; exact this.elim
                | some d =>
                  rw [hy] at this
                  simp only at this
                  cases hnw : new d with
                  | nil => rw [hnw] at this; exact ⟨d, rfl, hnw, this.1, this.2⟩
                  | cons _ _ => rw [hnw] at this; exact this.elim
              obtain ⟨y0, hy0, _⟩ := hcons h.t.dflt h.t.dflt
              obtain ⟨_, hds1⟩ := decA_cons hy0
              obtain ⟨_, hds⟩ := decA_cons hds1
              obtain ⟨hce, hcv⟩ := decA_caps hM hds hcaps
              obtain ⟨p, hp⟩ : ∃ p : h.t.den → h.t.den → Bool, p = fun x y => match closP T.Γ M fg [encEl h.agg h.t x, encEl h.agg h.t y] ids with | some (_, r) => boolV r | none => false := ⟨_, rfl⟩
              have hgoal := h.ok p xs ys _ X W v v2 hM.xsz hgl.nil q1 q2 (closOk2_of hM.xsz hgl.nil hcv ent (fun x y => ?_))
              · refine hgoal.mono fun en W' hq => ?_
                obtain ⟨u, E', rfl, g, r, hv⟩ := hq
                refine ⟨u, E, rfl, grow_drop g, memOk_drop g hM, repM_drop g hM, ?_⟩
                rw [hp] at hv
                exact scalV_rep (hsc _ _ _) hv
              · obtain ⟨d, hy, hnw, hpre, hb⟩ := hcons x y
                obtain ⟨he, hds1'⟩ := decA_cons hy
                obtain ⟨he2, hds'⟩ := decA_cons hds1'
                have hy2 : d.2.2 = y0.2.2 := Option.some.inj (hds'.symm.trans hds)
                have hbc := ok d hpre
                have hpx : res d = .c (.bool (p x y)) := by
                  rw [hp]
                  unfold closP
                  rw [hg]
                  simp only [hy, hnw]
                  revert hb
                  generalize res d = r
                  intro hb
                  unfold isBoolV at hb
                  split at hb
                  · rfl
                  · exact hb.elim
                rw [hpx, hnw] at hbc
                have hel := decA1_el he
                have hel2 := decA1_el he2
                unfold elW
                rw [hel, hel2]
                show BCalls P fg (encA1 a0 d.1 :: encA1 a1 d.2.1 :: (cvsOf ps y0.2.2).map CV.arg) _ _
                rw [← hce, ← hy2]
                exact hbc
        · exact hn.elim
      · exact hn.elim
    | none =>
    rw [hH2] at hn
    simp only at hn ⊢
    cases hE : findE f T.Γ with
    | none => rw [hE] at hn; exact hn.elim
    | some e =>
      rw [hE] at hn
      simp only at hn ⊢
      cases hd : decA M e.ins args with
      | none => rw [hd] at hn; exact hn.elim
      | some x =>
        rw [hd] at hn
        obtain rfl := findE_eq hE
        simp only at hn ⊢
        refine ⟨e.ent, ?_⟩
        cases hp : hasP e.ins || args.any ownAV with
        | true =>
          rw [hp] at hn
          simp only [cond_true] at hn ⊢
          have ha := decA_rep (X' := X) hM (fun b hb => .inl hb) hd hr
          refine (e.ok x hn.1 X W vs hM.xsz hgl.nil ha).mono fun en W' hq => ?_
          obtain ⟨u, E', rfl, g, r, hv⟩ := hq
          obtain ⟨m, rm⟩ := repM_call g (fun b hb => hb) hM r hn.2.2
          exact ⟨u, E ++ E', rfl, grow_call g hM, m, rm, shiftV_rep hM.len (fun b hb => hb) (.inl hn.2.1) hv⟩
        | false =>
          rw [hp] at hn
          simp only [cond_false] at hn ⊢
          rw [Bool.or_eq_false_iff] at hp
          have ha := decA_rep (X' := X ++ foots E) hM (fun b hb => (List.mem_append.1 hb).imp id (fun h => ⟨h, hp⟩)) hd hr
          refine (e.ok x hn.1 (X ++ foots E) W vs (fun b hb => (List.mem_append.1 hb).elim (hM.xsz b) (hM.lt b)) hgl.nil ha).mono fun en W' hq => ?_
          obtain ⟨u, E', rfl, g, r, hv⟩ := hq
          obtain ⟨m, rm⟩ := repM_call g (fun b hb => List.mem_append_left _ hb) hM r hn.2
          exact ⟨u, E ++ E', rfl, grow_call g hM, m, rm, shiftV_rep hM.len (fun b hb => List.mem_append_left _ hb) (.inr (fun b hb => List.mem_append_right _ hb)) hv⟩
theorem callA_sound {W0 : World} {E0 : Env} (hT : TabOk X W0 E0 T) (hg0 : Grow W0 E0 W E) {f : FuncId} {args : List AV} {vs : List Value} (hM : RepM X W E M) (hr : RepT X W E M args vs) (hn : (callA T M f args).need) :
    (∀ args w, (callFunc f args).run P w = .ok (.enter f args) w) ∧
    Calls P f vs.toArray W (fun e W' => ∃ u E', e = .returned u ∧ Grow W E W' E' ∧ MemOk W E M W' E' (callA T M f args).mem ∧ RepM X W' E' (callA T M f args).mem ∧ RepV X W' E' (callA T M f args).mem (callA T M f args).val u) := by
  unfold callA at hn ⊢
  cases hG : findMA f args T.G with
  | some e =>
    rw [hG] at hn
    simp only at hn ⊢
    obtain rfl := findMA_eq hG
    exact ⟨e.ent, callM_sound (hT.2.2.2.grow hg0) hM hr hn⟩
  | none =>
    rw [hG] at hn
    simp only at hn ⊢
    exact callB_sound hT hg0 hM hr hn
theorem evalA_caps {fn : Operand} {f : FuncId} {ids : List Nat} (ht : RepT X W E M tm a.tmps.toList) (h : evalA tm fn = .w (.c (.fn f ids))) : ∃ caps : List Value, a.eval fn = .func (.func f) #[] caps.toArray ∧ capsAt E ids caps := by
  have := evalA_rep ht fn
  rw [h] at this
  exact this
theorem step0_sound {W0 : World} {E0 : Env} (hT : TabOk X W0 E0 T) (hg : Grow W0 E0 W E) (hM : RepM X W E M) (ht : RepT X W E M tm a.tmps.toList) (hn : (step0 T tm M o).need) : DoesW X P o a W E M (step0 T tm M o).val (step0 T tm M o).mem := by
  unfold step0 at hn ⊢
  cases ho : o.op <;> simp only [ho] at hn ⊢
  case call c =>
    obtain ⟨cal, args, ts⟩ := c
    cases cal <;> simp only at hn ⊢
    case value fn =>
      split at hn
      · rename_i f ids hf
        obtain ⟨caps, hfe, hcaps⟩ := evalA_caps ht hf
        obtain ⟨hent, hc⟩ := callA_sound hT hg hM ((repT_map ht args.toList).append (bps_rep hcaps)) hn
        exact doesW_call ho hfe hent hc
      · rename_i u hu
        split at hn
        · rename_i ce hce
          obtain ⟨rfl, hTc⟩ : E0 = [] ∧ ∀ c, T.C = some c → CEok X W0 c := hT.1.resolve_left (by rw [hce]; simp)
          split at hn
          · rename_i x hx
            obtain ⟨hn, hsc⟩ := hn
            have he := evalA_rep (M := M) ht fn
            rw [hu] at he
            have hfe : a.eval fn = .func (.func ce.g) #[] ce.caps.toArray := by
              have : a.eval fn = u := he.1
              rw [this, hn]
              exact ce.hu
            have ha := decA_rep (X' := X) hM (fun b hb => .inl hb) hx (repT_map ht args.toList)
            refine doesW_call ho hfe ce.ent ((hTc ce hce W E x _ hg ha).mono fun en W' hq => ?_)
            obtain ⟨v, E', rfl, g, r, hv⟩ := hq
            exact ⟨v, E, rfl, grow_drop g, memOk_drop g hM, repM_drop g hM, scalV_rep hsc hv⟩
          · exact hn.elim
        · exact hn.elim
      · exact hn.elim
    all_goals exact (opA_sound hM ht hn).toW
  all_goals exact (opA_sound hM ht hn).toW
theorem liftArgs_rep : ∀ {l : List MTy} {xs : List Operand} {tm : List AV} {M : Mem} {E : Env}, RepM X W E M → RepT X W E M tm a.tmps.toList →
    ∃ E', Grow W E W E' ∧ MemOk W E M W E' (liftArgs l xs tm M).2 ∧ RepM X W E' (liftArgs l xs tm M).2 ∧ RepT X W E' (liftArgs l xs tm M).2 (liftArgs l xs tm M).1 a.tmps.toList
  | [], xs, tm, M, E, hM, ht => by unfold liftArgs; exact ⟨E, Grow.refl W E, MemOk.refl W E M, hM, ht⟩
  | y :: l, [], tm, M, E, hM, ht => by
    have e : liftArgs (y :: l) [] tm M = (tm, M) := by cases y <;> rfl
    rw [e]
    exact ⟨E, Grow.refl W E, MemOk.refl W E M, hM, ht⟩
  | y :: l, x :: xs, tm, M, E, hM, ht => by
    have go : ∀ t, liftArgs (y :: l) (x :: xs) tm M = liftArgs l xs (liftT tm M t).1 (liftT tm M t).2 → ∃ E', Grow W E W E' ∧ MemOk W E M W E' (liftArgs (y :: l) (x :: xs) tm M).2 ∧ RepM X W E' (liftArgs (y :: l) (x :: xs) tm M).2 ∧ RepT X W E' (liftArgs (y :: l) (x :: xs) tm M).2 (liftArgs (y :: l) (x :: xs) tm M).1 a.tmps.toList := fun t e => by
      rw [e]
      obtain ⟨E1, g1, m1, r1, t1⟩ := liftT_rep hM ht t
      obtain ⟨E2, g2, m2, r2, t2⟩ := liftArgs_rep (l := l) (xs := xs) r1 t1
      exact ⟨E2, g1.trans g2, m1.trans m2, r2, t2⟩
    have stay : liftArgs (y :: l) (x :: xs) tm M = liftArgs l xs tm M → ∃ E', Grow W E W E' ∧ MemOk W E M W E' (liftArgs (y :: l) (x :: xs) tm M).2 ∧ RepM X W E' (liftArgs (y :: l) (x :: xs) tm M).2 ∧ RepT X W E' (liftArgs (y :: l) (x :: xs) tm M).2 (liftArgs (y :: l) (x :: xs) tm M).1 a.tmps.toList := fun e => by
      rw [e]
      exact liftArgs_rep (l := l) (xs := xs) hM ht
    cases y with
    | q g t => cases x <;> first | exact go _ rfl | exact stay rfl
    | g g t => cases x <;> first | exact go _ rfl | exact stay rfl
    | a y => exact stay rfl
    | m t => exact stay rfl
    | e t => exact stay rfl
    | b t => exact stay rfl
    | f g c => exact stay rfl
theorem preG_rep (hM : RepM X W E M) (ht : RepT X W E M tm a.tmps.toList) : ∃ E', Grow W E W E' ∧ MemOk W E M W E' (preG T tm M o).2 ∧ RepM X W E' (preG T tm M o).2 ∧ RepT X W E' (preG T tm M o).2 (preG T tm M o).1 a.tmps.toList := by
  have stay : ∃ E', Grow W E W E' ∧ MemOk W E M W E' M ∧ RepM X W E' M ∧ RepT X W E' M tm a.tmps.toList := ⟨E, Grow.refl W E, MemOk.refl W E M, hM, ht⟩
  unfold preG
  split
  · exact liftT_rep hM ht _
  · split
    · split
      · exact liftT_rep hM ht _
      · exact stay
    · split
      · exact liftArgs_rep hM ht
      · exact stay
    · exact stay
  · exact stay
theorem cutS_does (hM : RepM X W E M) (ht : RepT X W E M tm a.tmps.toList) (hn : (cutS (P := P) tm M o).need) : Does X P o a W E M (cutS (P := P) tm M o).val (cutS (P := P) tm M o).mem := by
  unfold cutS at hn ⊢
  cases ho : o.op <;> simp only [ho] at hn ⊢
  case slice t x lo hi mx =>
    cases mx with
    | some _ => exact hn.elim
    | none => exact does_cut hM ht ho hn
  case call c =>
    obtain ⟨cal, xs, ts⟩ := c
    cases cal <;> simp only at hn ⊢
    case builtin b =>
      cases b <;> simp only at hn ⊢
      case clear =>
        split at hn
        · rename_i t x hts hxs
          exact does_clear hM ht ho hxs hts hn
        · exact hn.elim
      all_goals exact hn.elim
    all_goals exact hn.elim
  case makeMap t r =>
    cases r with
    | some _ => exact hn.elim
    | none => exact does_makeMap hM ho
  case lookup t m k c =>
    cases c with
    | true => exact hn.elim
    | false => exact does_look hM ht ho hn
  case mapUpdate t m k v => exact does_upd hM ht ho hn
  all_goals exact hn.elim
theorem stepA_sound {W0 : World} {E0 : Env} (hT : TabOk X W0 E0 T) (hg : Grow W0 E0 W E) (hM : RepM X W E M) (ht : RepT X W E M tm a.tmps.toList) (hn : (stepA T tm M o).need) : DoesW X P o a W E M (stepA T tm M o).val (stepA T tm M o).mem := by
  unfold stepA at hn ⊢
  cases hc : Nat.beq (clsO T o) 2 with
  | false => rw [hc] at hn; exact step0_sound hT hg hM ht hn
  | true =>
    rw [hc] at hn
    simp only [cond_true] at hn ⊢
    cases hcut : isCut T o with
    | true =>
      rw [hcut] at hn
      exact (cutS_does hM ht hn).toW
    | false =>
    rw [hcut] at hn
    simp only [cond_false] at hn ⊢
    obtain ⟨E1, g1, m1, r1, t1⟩ := preG_rep (T := T) (o := o) hM ht
    intro next Q hK
    refine step0_sound hT (hg.trans g1) r1 t1 hn next Q (fun u W' E' g m r hv => ?_)
    obtain ⟨E2, g2, m2, r2⟩ := closeAll_rep r
    exact hK u W' E2 (g1.trans (g.trans g2)) (m1.trans (m.trans m2)) r2 (hv.mono g2 m2 r.len)
theorem putA_rep {W' : World} {E' : Env} {M' : Mem} {v : AV} {u : Value} {dst : Option Tmp} (ht : RepT X W' E' M' tm a.tmps.toList) (hv : RepV X W' E' M' v u) : RepT X W' E' M' (putA tm dst v) (a.put dst u).tmps.toList := by
  cases dst with
  | none => exact ht
  | some d =>
    show RepT X W' E' M' (tm.set d v) (a.tmps.setIfInBounds d u).toList
    rw [Array.toList_setIfInBounds]
    exact ht.set d hv
theorem put_defers {v : Value} {dst : Option Tmp} : (a.put dst v).defers = a.defers := by cases dst <;> rfl
theorem set_same {l : List AV} {d : Nat} {v : AV} (h : l.getD d .any = v) (hv : v ≠ .any) : l.set d v = l := by
  rw [List.getD_eq_getElem?_getD] at h
  cases hq : l[d]? with
  | none => rw [hq] at h; exact absurd h.symm hv
  | some x =>
    rw [hq] at h
    obtain rfl : x = v := h
    obtain ⟨h1, h2⟩ := List.getElem?_eq_some_iff.1 hq
    rw [← h2]
    exact List.set_getElem_self h1
/-- what the guard's slot says -/
theorem yielded_of {all : List Oper} {j d : Nat} {g : Bool} (hd : (all[j]?).bind (·.dst) = some d) (ht : RepT X W E M tm a.tmps.toList) (hg : tm.getD d .any = .w (.c (.bool g))) : yielded all.toArray a.tmps j = some g := by
  rw [List.getD_eq_getElem?_getD] at hg
  cases hq : tm[d]? with
  | none => rw [hq] at hg; cases hg
  | some x =>
    rw [hq] at hg
    obtain rfl : x = _ := hg
    obtain ⟨v, h1, h2⟩ := ht.get hq
    have hv : v = .bool g := h2
    unfold yielded
    have e1 : (all.toArray[j]?).bind (·.dst) = some d := by rw [List.getElem?_toArray]; exact hd
    have e2 : a.tmps[d]? = some (.bool g) := by rw [← Array.getElem?_toList, h1, hv]
    rw [e1, Option.bind_some, e2]
theorem yielded_tp {all : List Oper} {j d : Nat} {l : List AW} (hd : (all[j]?).bind (·.dst) = some d) (ht : RepT X W E M tm a.tmps.toList) (hg : tm.getD d .any = .tp l) : yielded all.toArray a.tmps j = none := by
  rw [List.getD_eq_getElem?_getD] at hg
  cases hq : tm[d]? with
  | none => rw [hq] at hg; cases hg
  | some y =>
    rw [hq] at hg
    obtain rfl : y = .tp l := hg
    obtain ⟨v, k1, k2⟩ := ht.get hq
    unfold yielded
    have e1 : (all.toArray[j]?).bind (·.dst) = some d := by rw [List.getElem?_toArray]; exact hd
    have e2 : a.tmps[d]? = some v := by rw [← Array.getElem?_toList, k1]
    rw [e1, Option.bind_some, e2]
    obtain ⟨vs, rfl, _⟩ := k2
    rfl
end
end Go.Proofs.YtkompmgleojmlaaDoor
