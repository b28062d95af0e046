/-
  Calls of functions that write what the caller owns: the caller's memory behind the call.
  Plain: no program. No condition.
-/
import Derived.Test.YtkompmgleojmlaaDoorEBmW
set_option linter.unusedSimpArgs false
set_option linter.unusedVariables false
namespace Go.Proofs.YtkompmgleojmlaaDoor
open Go.ChangeShapes Go.WideShapes Go.ChangeAt Go.RowKit Go.Joins Go.Deep
open GoRep (rep bulk)

section
variable {P : Program} {X X' : List Nat} {W : World} {E : Env} {M : Mem} {a : Act} {tm : List AV} {o : Oper}
theorem used_lt {new : Mem} {us : List (Option Nat)} (hu : UsedOk X X' W E M new us 0 us) : ∀ i ∈ somes us, i < E.length := fun i hi => by
  obtain ⟨j, hj⟩ := somes_mem hi
  obtain ⟨e, he, _⟩ := hu.get hj
  exact (List.getElem?_eq_some_iff.1 he).1
theorem pick_nodup {us : List (Option Nat)} (hM : RepM X W E M) (hd : distinct (somes us) = true) (hl : ∀ i ∈ somes us, i < E.length) : (foots (pickE E us)).Nodup := by
  refine nodup_of_cnt fun x => ?_
  rw [pickE_foots]
  have c1 := cnt_kill (E := E) x hd hl
  have c2 := cnt_le hM x
  omega
/-- the blocks picked stand for the pattern -/
theorem pick_repM {new : Mem} {us : List (Option Nat)} (hM : RepM X W E M) (hu : UsedOk X X' W E M new us 0 us) (hl : us.length = new.length) (hd : distinct (somes us) = true) (hx : ∀ b ∈ X', b ∉ foots (pickE E us)) (hsz : ∀ b ∈ X', b < W.heap.size) : RepM X' W (pickE E us) new := by
  refine ⟨by rw [pickE_len]; exact hl.symm, pick_nodup hM hd (used_lt hu), fun i b e hb he => ?_, fun b hb => hM.lt b (pickE_in b hb), hx, hsz⟩
  rw [pickE_get] at he
  cases hq : us[i]? with
  | none => rw [hq] at he; cases he
  | some u =>
    rw [hq] at he
    have hget := hu.get hq
    rw [Nat.zero_add] at hget
    cases u with
    | none =>
      obtain ⟨t, ht⟩ := hget
      rw [ht] at hb
      obtain rfl := Option.some.inj hb
      obtain rfl := Option.some.inj he
      exact ⟨0, [], [], World.ownsRow_nil W 0 0 t.n, ⟨rfl, rfl⟩, rfl⟩
    | some j =>
      obtain ⟨e', h2, h3⟩ := hget
      have he : some (E.getD j ⟨0, undef, []⟩) = some e := he
      rw [List.getD_eq_getElem?_getD, h2] at he
      obtain rfl := Option.some.inj he
      rcases h3 with ⟨t, xs, v', c, h1, h4⟩ | ⟨l, l', h1, h4, h5⟩
      · rw [h4] at hb
        obtain rfl := Option.some.inj hb
        exact hM.at_ j _ e' h1 h2
      · rw [h4] at hb
        obtain rfl := Option.some.inj hb
        obtain ⟨q1, cs, T, q2, q3⟩ := hM.at_ j _ e' h1 h2
        exact ⟨q1, cs, T, q2, h5 _ q3⟩
/-- the caller's blocks behind the call -/
def updE (E : Env) (n : Nat) (ρ : List Nat) (E' : Env) : Env := updL (fun i => match look i ρ with
  | some j => (E'[j]?).map (fun e' => (⟨(match E[i]? with | some e => e.blk | none => e'.blk), e'.val, e'.foot⟩ : EB))
  | none => none) 0 (E ++ List.replicate n ⟨0, undef, []⟩)
set_option maxHeartbeats 1000000 in
theorem callM_sound {e : MEntry P} {args : List AV} {vs : List Value} (hgl : Glob W E) (hM : RepM X W E M) (hr : RepT X W E M args vs) (hn : (callM e M args).need) :
    Calls P e.f vs.toArray W (fun en W' => ∃ u E', en = .returned u ∧ Grow W E W' E' ∧ MemOk W E M W' E' (callM e M args).mem ∧ RepM X W' E' (callM e M args).mem ∧ RepV X W' E' (callM e M args).mem (callM e M args).val u) := by
  unfold callM at hn ⊢
  cases hd : decM M e.ins args with
  | none => rw [hd] at hn; exact hn.elim
  | some x =>
  rw [hd] at hn
  simp only at hn ⊢
  obtain ⟨⟨hpre, hneed⟩, hchk⟩ := hn
  simp only [Bool.and_eq_true] at hchk
  obtain ⟨⟨⟨c1, c2⟩, c3, c4⟩, ⟨c5, c6⟩, c7⟩ := hchk
  have c2 := Nat.eq_of_beq_eq_true c2
  have c3 := Nat.eq_of_beq_eq_true c3
  obtain ⟨pm, hpm⟩ : ∃ pm, pm = preM 0 e.ins x := ⟨_, rfl⟩
  rw [← hpm] at hneed c1 c2 c3 c4 c5 c6 c7 ⊢
  obtain ⟨us0, hus0⟩ : ∃ us, us = (matchAs M pm [] e.ins args (argsM 0 e.ins x)).used := ⟨_, rfl⟩
  rw [← hus0] at c1 c2 c3 c4 ⊢
  obtain ⟨qm, hqm⟩ : ∃ qm, qm = postM 0 e.ins (e.post x) ++ e.new x := ⟨_, rfl⟩
  rw [← hqm] at c3 c6 c7 ⊢
  obtain ⟨nam, hnam⟩ : ∃ nam, nam = namA M e.ins args := ⟨_, rfl⟩
  rw [← hnam] at c4 c5 c6
  obtain ⟨us, hus⟩ : ∃ us, us = us0 ++ List.replicate (e.new x).length none := ⟨_, rfl⟩
  rw [← hus] at c3 ⊢
  obtain ⟨inp, hinp⟩ : ∃ inp, inp = inpM 0 e.ins := ⟨_, rfl⟩
  rw [← hinp]
  -- the callee's view
  obtain ⟨Xc, hXc⟩ : ∃ Xc, Xc = if nam.isEmpty = true then X ++ (foots E).filter (fun b => !(foots (pickE E us0)).contains b) else X := ⟨_, rfl⟩
  have hXin : ∀ b ∈ Xc, b ∈ X ∨ b ∈ foots E := fun b hb => by
    rw [hXc] at hb
    split at hb
    · rcases List.mem_append.1 hb with h | h
      · exact .inl h
      · exact .inr (List.mem_filter.1 h).1
    · exact .inl hb
  have hXX : ∀ b ∈ X, b ∈ Xc := fun b hb => by
    rw [hXc]; split
    · exact List.mem_append_left _ hb
    · exact hb
  have hXp : ∀ b ∈ Xc, b ∉ foots (pickE E us0) := fun b hb hf => by
    rw [hXc] at hb
    split at hb
    · rcases List.mem_append.1 hb with h | h
      · exact hM.xlt b h (pickE_in b hf)
      · have := (List.mem_filter.1 h).2
        simp [hf] at this
    · exact hM.xlt b hb (pickE_in b hf)
  have hXsz : ∀ b ∈ Xc, b < W.heap.size := fun b hb => (hXin b hb).elim (hM.xsz b) (hM.lt b)
  have disj : ∀ (i : Nat) (ei : EB), E[i]? = some ei → i ∉ somes us0 → ∀ b ∈ ei.foot, b ∉ foots (pickE E us0) := fun i ei hi hni b hb hf => by
    rw [pickE_foots] at hf
    obtain ⟨j, hj, ej, hej, hbj⟩ := feet_mem hf
    exact foot_disj hM.nodup hi hej (fun h => hni (h ▸ hj)) hb hbj
  have c4' : ∀ i ∈ nam, i ∉ somes us0 := fun i hi hs => by
    have h1 := List.all_eq_true.1 c4 i hi
    have h2 := List.all_eq_true.1 h1 i hs
    simp at h2
  have hS : ∀ b ∈ Xc ++ foots (pickE E us0), b ∈ X ∨ (b ∈ foots E ∧ ∀ i ∈ namA M e.ins args, ∀ e, E[i]? = some e → b ∉ e.foot) := fun b hb => by
    rw [← hnam]
    rcases List.mem_append.1 hb with h | h
    · rw [hXc] at h
      split at h
      · rename_i hem
        have : nam = [] := List.isEmpty_iff.1 hem
        rcases List.mem_append.1 h with h | h
        · exact .inl h
        · exact .inr ⟨(List.mem_filter.1 h).1, fun i hi => by rw [this] at hi; cases hi⟩
      · exact .inl h
    · exact .inr ⟨pickE_in b h, fun i hi ei hei hbe => disj i ei hei (c4' i hi) b hbe h⟩
  obtain ⟨hu, hargs⟩ := matchAs_rep (X' := Xc) (new := pm) (us := us0) (k := 0) (acc := []) hM hXin (fun q u h => by simp at h) hd hneed hr (fun q u h => by rw [← hus0] at h; simpa using h) hS
  rw [← hus0] at hu
  have hu : UsedOk X Xc W E M pm us0 0 us0 := hu
  have hlt := used_lt hu
  have hpick := pick_repM hM hu c2 c1 hXp hXsz
  have hml : M.length = E.length := hM.len
  have hok := e.ok x hpre Xc W (pickE E us0) vs (hgl.sub (fun b hb => pickE_in b hb)) (by rw [← hpm]; exact hpick) (by rw [← hpm]; exact hargs)
  rw [← hpm, ← hqm, ← hinp] at hok
  refine hok.mono fun en W' hq => ?_
  obtain ⟨v, E', rfl, g, hblk, hval, rm, rv⟩ := hq
  -- numbers
  have hsn : somes us = somes us0 := by
    rw [hus]
    have : ∀ (l : List (Option Nat)) (n : Nat), somes (l ++ List.replicate n none) = somes l := fun l n => by
      induction l with
      | nil => induction n with
        | zero => rfl
        | succ n ih => simpa [List.replicate_succ, somes] using ih
      | cons q l ih => cases q <;> simp [somes, ih]
    exact this _ _
  have hus_lt : ∀ (j : Nat) (u : Option Nat), us0[j]? = some u → us[j]? = some u := fun j u h => by rw [hus, List.getElem?_append_left (List.getElem?_eq_some_iff.1 h).1]; exact h
  have hpl : pm.length = us0.length := c2.symm
  have hus_some : ∀ (j i : Nat), us[j]? = some (some i) → us0[j]? = some (some i) := fun j i h => by
    rw [hus] at h
    by_cases hl : j < us0.length
    · rwa [List.getElem?_append_left hl] at h
    · rw [List.getElem?_append_right (by omega)] at h
      have := List.mem_of_getElem? h
      rw [List.mem_replicate] at this
      cases this.2
  have hinj : ∀ {j k i : Nat}, (rhoL M.length us)[j]? = some i → (rhoL M.length us)[k]? = some i → j = k := fun {j k i} => rhoL_inj (by rw [hsn]; exact c1) (fun i hi => by rw [hsn] at hi; rw [hml]; exact hlt i hi)
  have hrlen : (rhoL M.length us).length = qm.length := by rw [rhoL_len, c3]
  have hE'len : E'.length = qm.length := rm.len.symm
  have hrange : ∀ (j i : Nat), (rhoL M.length us)[j]? = some i → i < M.length + nones us ∧ (i < M.length → us0[j]? = some (some i)) ∧ (¬ i < M.length → us[j]? = some none) := fun j i h => by
    have lj := (List.getElem?_eq_some_iff.1 h).1
    rw [rhoL_len] at lj
    have gj := rhoL_get (n := M.length) (List.getElem?_eq_getElem lj)
    rw [h] at gj
    cases hu' : us[j] with
    | some p =>
      rw [hu'] at gj
      obtain rfl : i = p := Option.some.inj gj
      have h1 : us[j]? = some (some i) := by rw [List.getElem?_eq_getElem lj, hu']
      have h2 := hus_some j i h1
      have h3 := hlt i (somes_get h2)
      exact ⟨by omega, fun _ => h2, fun h => absurd (by omega) h⟩
    | none =>
      rw [hu'] at gj
      have e1 : i = M.length + nones (us.take j) := Option.some.inj gj
      have h1 : us[j]? = some none := by rw [List.getElem?_eq_getElem lj, hu']
      have h2 := nones_lt h1
      exact ⟨by omega, fun h => by omega, fun _ => h1⟩
  obtain ⟨ρ, hρ⟩ : ∃ ρ, ρ = rhoL M.length us := ⟨_, rfl⟩
  rw [← hρ] at hrlen
  simp only [← hρ] at hinj hrange ⊢
  obtain ⟨ws, hws⟩ : ∃ ws, ws = verL M inp 0 ρ := ⟨_, rfl⟩
  obtain ⟨cs, hcs⟩ : ∃ cs, cs = cntsL M ρ := ⟨_, rfl⟩
  rw [← hws, ← hcs]
  obtain ⟨Mc, hMc⟩ : ∃ Mc, Mc = updM M (nones us) ρ ws cs qm := ⟨_, rfl⟩
  obtain ⟨Ec, hEc⟩ : ∃ Ec, Ec = updE E (nones us) ρ E' := ⟨_, rfl⟩
  rw [← hMc]
  have hMclen : Mc.length = M.length + nones us := by rw [hMc]; unfold updM; rw [updL_len]; simp
  have hEclen : Ec.length = M.length + nones us := by rw [hEc]; unfold updE; rw [updL_len]; simp [hml]
  -- what stands at a place
  have atM : ∀ (i j : Nat), ρ[j]? = some i → ∃ (b : Blk) (e' : EB), qm[j]? = some b ∧ E'[j]? = some e' ∧ Mc[i]? = some (renB ρ ws (ws.getD j 0) (cs.getD j 0) b) ∧ Ec[i]? = some ⟨(match E[i]? with | some e => e.blk | none => e'.blk), e'.val, e'.foot⟩ := fun i j hj => by
    have lj := (List.getElem?_eq_some_iff.1 hj).1
    have hqj : qm[j]? = some qm[j] := List.getElem?_eq_getElem (by omega)
    have hej : E'[j]? = some E'[j] := List.getElem?_eq_getElem (by omega)
    have hi := (hrange j i hj).1
    have hlk : look i ρ = some j := by
      cases hq : look i ρ with
      | none => exact absurd hj (look_none hq j)
      | some k => rw [hinj (look_get hq) hj]
    refine ⟨_, _, hqj, hej, ?_, ?_⟩
    · rw [hMc]
      unfold updM
      rw [updL_get, Nat.zero_add, hlk]
      simp only [hqj, Option.map_some]
      rw [List.getElem?_eq_getElem (by simpa using hi)]
      rfl
    · rw [hEc]
      unfold updE
      rw [updL_get, Nat.zero_add, hlk]
      simp only [hej, Option.map_some]
      have hlE : i < (E ++ List.replicate (nones us) (⟨0, undef, []⟩ : EB)).length := by rw [List.length_append, List.length_replicate]; omega
      rw [List.getElem?_eq_getElem hlE]
      rfl
  have offM : ∀ i : Nat, look i ρ = none → Mc[i]? = (M ++ List.replicate (nones us) .dead)[i]? ∧ Ec[i]? = (E ++ List.replicate (nones us) ⟨0, undef, []⟩)[i]? := fun i hlk => by
    refine ⟨?_, ?_⟩
    · rw [hMc]
      unfold updM
      rw [updL_get, Nat.zero_add, hlk]
      exact (congrFun (Option.map_id (α := _)) _)
    · rw [hEc]
      unfold updE
      rw [updL_get, Nat.zero_add, hlk]
      exact (congrFun (Option.map_id (α := _)) _)
  have notin : ∀ i : Nat, look i ρ = none → i < M.length → i ∉ somes us0 := fun i hlk hi hs => by
    obtain ⟨j, hj⟩ := somes_mem hs
    have h1 := hus_lt j _ hj
    have := rhoL_get (n := M.length) h1
    rw [← hρ] at this
    exact look_none hlk j this
  have keepR : ∀ b, b < W.heap.size → b ∉ foots (pickE E us0) → W'.heap[b]? = W.heap[b]? := g.keep
  -- where an own block behind the call comes from
  have footR : ∀ (i : Nat) (ei : EB), Ec[i]? = some ei → (∃ (j : Nat) (e' : EB), ρ[j]? = some i ∧ E'[j]? = some e' ∧ ei.foot = e'.foot) ∨ (look i ρ = none ∧ E[i]? = some ei ∧ i < M.length) ∨ ei.foot = [] := fun i ei hi => by
    cases hlk : look i ρ with
    | some j =>
      obtain ⟨b, e', _, h2, _, h4⟩ := atM i j (look_get hlk)
      rw [hi] at h4
      obtain rfl := Option.some.inj h4
      exact .inl ⟨j, e', look_get hlk, h2, rfl⟩
    | none =>
      rw [(offM i hlk).2] at hi
      by_cases hl : i < E.length
      · rw [List.getElem?_append_left hl] at hi
        exact .inr (.inl ⟨rfl, hi, by omega⟩)
      · rw [List.getElem?_append_right (by omega)] at hi
        have := List.mem_of_getElem? hi
        rw [List.mem_replicate] at this
        exact .inr (.inr (by rw [this.2]))
  have inEc : ∀ b ∈ foots Ec, b ∈ foots E' ∨ (b ∈ foots E ∧ b ∉ foots (pickE E us0)) := fun b hb => by
    obtain ⟨ei, hm, hbe⟩ := mem_foots.1 hb
    obtain ⟨i, hi⟩ := List.mem_iff_getElem?.1 hm
    rcases footR i ei hi with ⟨j, e', _, h2, h3⟩ | ⟨h1, h2, h3⟩ | h
    · rw [h3] at hbe
      exact .inl (mem_foots.2 ⟨e', List.mem_of_getElem? h2, hbe⟩)
    · exact .inr ⟨mem_foots.2 ⟨ei, List.mem_of_getElem? h2, hbe⟩, disj i ei h2 (notin i h1 h3) b hbe⟩
    · rw [h] at hbe; cases hbe
  have hgrow : Grow W E W' Ec := ⟨g.os, g.tape, g.output, g.size, fun b hb hnb => g.keep b hb (fun h => hnb (pickE_in b h)), fun b hb => (inEc b hb).elim (fun h => (g.new b h).imp (pickE_in b) id) (fun h => .inl h.1), fun i ei hi => by
    cases hlk : look i ρ with
    | some j =>
      obtain ⟨b, e', _, h2, _, h4⟩ := atM i j (look_get hlk)
      rw [hi] at h4
      exact ⟨_, h4, rfl⟩
    | none =>
      refine ⟨ei, ?_, rfl⟩
      rw [(offM i hlk).2, List.getElem?_append_left (List.getElem?_eq_some_iff.1 hi).1]
      exact hi⟩
  -- rows and boxes at their places
  have usedAt : ∀ (i j : Nat), ρ[j]? = some i → i < M.length → ∃ ei, E[i]? = some ei ∧ (pickE E us0)[j]? = some ei ∧ ((∃ (t : Ty) (xs : List t.den) (v c : Nat), M[i]? = some (.row t xs v c none) ∧ pm[j]? = some (.row t xs 0 0 none)) ∨ ∃ l l', M[i]? = some (.box l) ∧ pm[j]? = some (.box l')) := fun i j hj hi => by
    have h1 := (hrange j i hj).2.1 hi
    have h2 := hu.get h1
    rw [Nat.zero_add] at h2
    obtain ⟨ei, he, h3⟩ := h2
    refine ⟨ei, he, pickE_some h1 he, h3.imp id (fun ⟨l, l', q1, q2, _⟩ => ⟨l, l', q1, q2⟩)⟩
  have hmem : MemOk W E M W' Ec Mc := memOk_upd (fun i t xs v c hh hi => by
      have hil := (List.getElem?_eq_some_iff.1 hi).1
      cases hlk : look i ρ with
      | some j =>
        have hj := look_get hlk
        obtain ⟨ei, he, hpe, h3⟩ := usedAt i j hj hil
        rcases h3 with ⟨t', xs', v', c', q1, q2⟩ | ⟨l, l', q1, _⟩
        · rw [hi] at q1
          injection q1 with q1
          injection q1 with q1 q3 q4 q5 q6
          subst q1
          subst q4
          subst q5
          subst q6
          obtain ⟨ys, v2, c2', hq⟩ := sameLs_row c7 q2
          obtain ⟨b, e', r1, r2, r3, r4⟩ := atM i j hj
          rw [hq] at r1
          obtain rfl := Option.some.inj r1
          have hv := verL_get (M := M) (inp := inp) (k := 0) hj
          have hc := cntsL_get (M := M) hj
          rw [← hws, hi] at hv
          rw [← hcs, hi] at hc
          simp only [Nat.zero_add] at hv hc
          cases hin : inp.any (Nat.beq j) with
          | true =>
            rw [hin] at hv
            simp only [cond_true] at hv
            refine .inr (.inr (.inl ⟨ys, cs.getD j 0, none, by rw [r3, hv]; rfl, by omega, fun ei' hei' => ?_⟩))
            rw [he] at hei'
            obtain rfl := Option.some.inj hei'
            have hjin : j ∈ inp := by
              obtain ⟨z, hz1, hz2⟩ := List.any_eq_true.1 hin
              rw [Nat.eq_of_beq_eq_true hz2]
              exact hz1
            obtain ⟨e2, k1, k2⟩ := hval j hjin ei hpe
            rw [r2] at k1
            obtain rfl := Option.some.inj k1
            exact ⟨_, r4, k2⟩
          | false =>
            rw [hin] at hv
            simp only [cond_false] at hv
            exact .inr (.inl ⟨ys, ws.getD j 0, cs.getD j 0, none, by rw [r3]; rfl, by omega⟩)
        · rw [hi] at q1; cases q1
      | none =>
        obtain ⟨o1, o2⟩ := offM i hlk
        refine .inr (.inr (.inr ⟨by rw [o1, List.getElem?_append_left hil]; exact hi, fun ei hei => ⟨by rw [o2, List.getElem?_append_left (List.getElem?_eq_some_iff.1 hei).1]; exact hei, fun q hq => ?_⟩⟩))
        exact keepR q (hM.lt q (mem_foots.2 ⟨ei, List.mem_of_getElem? hei, hq⟩)) (disj i ei hei (notin i hlk hil) q hq)) (fun i hi => by
      have hil := (List.getElem?_eq_some_iff.1 hi).1
      cases hlk : look i ρ with
      | some j =>
        obtain ⟨ei, he, hpe, h3⟩ := usedAt i j (look_get hlk) hil
        rcases h3 with ⟨t', xs', v', c', q1, q2⟩ | ⟨l, l', q1, _⟩
        · rw [hi] at q1; cases q1
        · rw [hi] at q1; cases q1
      | none =>
        rw [(offM i hlk).1, List.getElem?_append_left hil]
        exact hi)
  -- cells, renumbered
  have blkOk : ∀ (j : Nat) (l' : List AC) (e' : EB), pm[j]? = some (.box l') → E'[j]? = some e' → ∀ i : Nat, ρ[j]? = some i → (match E[i]? with | some e => e.blk | none => e'.blk) = e'.blk := fun j l' e' hb he' i hj => by
    cases hEi : E[i]? with
    | none => rfl
    | some ei =>
      have hi : i < M.length := by rw [hml]; exact (List.getElem?_eq_some_iff.1 hEi).1
      obtain ⟨e2, k1, k2, _⟩ := usedAt i j hj hi
      rw [hEi] at k1
      obtain rfl := Option.some.inj k1
      obtain ⟨e3, q1, q2⟩ := hblk j l' ei hb k2
      rw [he'] at q1
      obtain rfl := Option.some.inj q1
      exact q2.symm
  have ρtot : ∀ j : Nat, j < qm.length → ρ[j]? = some (ρ.getD j 0) := fun j hj => by
    rw [List.getD_eq_getElem?_getD, List.getElem?_eq_getElem (by omega)]
    rfl
  have renC_rep : ∀ {c : AC} {u : Value}, okRenC pm nam.isEmpty c = true → RepC Xc W' E' qm c u → RepC X W' Ec Mc (renC ρ ws c) u := fun {c u} ho h => by
    cases c with
    | int k n => exact h
    | bool b => exact h
    | str s => exact h
    | opq s => exact h
    | raw r => exact h
    | mp j => cases ho
    | hs L t xs =>
      cases L with
      | «at» i v c => cases ho
      | no =>
        obtain ⟨h0, F, h1, h2⟩ := h
        refine ⟨h0, F, h1, fun b hb => ⟨⟨fun hm => ?_, fun hm => (h2 b hb).1.2 (hXX b hm)⟩, (h2 b hb).2⟩⟩
        rcases inEc b hm with h | ⟨h3, h4⟩
        · exact (h2 b hb).1.1 h
        · refine (h2 b hb).1.2 ?_
          have ho : nam.isEmpty = true := ho
          rw [hXc, if_pos ho]
          exact List.mem_append_right _ (List.mem_filter.2 ⟨h3, by simp [h4]⟩)
    | row j w =>
      obtain rfl := Nat.eq_of_beq_eq_true (show Nat.beq w 0 = true from ho)
      refine ⟨h.1, ?_⟩
      have h2 := h.2
      unfold atRow at h2
      cases hq : qm[j]? with
      | none => rw [hq] at h2; exact h2.elim
      | some b =>
        rw [hq] at h2
        have hj := ρtot j (List.getElem?_eq_some_iff.1 hq).1
        obtain ⟨b', e', r1, r2, r3, r4⟩ := atM _ j hj
        rw [hq] at r1
        obtain rfl := Option.some.inj r1
        have hob := List.all_eq_true.1 c6 b (List.mem_of_getElem? hq)
        show atRow Ec Mc (ρ.getD j 0) (ws.getD j 0) _
        unfold atRow
        rw [r3]
        cases b with
        | box l => exact h2.elim
        | mp _ => exact h2.elim
        | dead => cases hob
        | row t xs v c hh =>
          cases hh with
          | some _ => cases hob
          | none =>
            have hob : (Nat.beq v 0 && Nat.beq c 0) = true := hob
            rw [Bool.and_eq_true] at hob
            obtain rfl := Nat.eq_of_beq_eq_true hob.1
            refine ⟨Nat.le_refl _, fun _ => ⟨_, r4, ?_⟩⟩
            obtain ⟨e2, k1, k2⟩ := h2.2 rfl
            rw [r2] at k1
            obtain rfl := Option.some.inj k1
            exact k2
    | bp j o =>
      obtain ⟨e', h1, h2⟩ := (h : boxAt E' j u o)
      have ho : isBoxAt pm j = true := ho
      unfold isBoxAt at ho
      split at ho
      · rename_i l' hl'
        have hj := ρtot j (by rw [← hE'len]; exact (List.getElem?_eq_some_iff.1 h1).1)
        obtain ⟨b', e2, r1, r2, r3, r4⟩ := atM _ j hj
        rw [h1] at r2
        obtain rfl := Option.some.inj r2
        exact ⟨_, r4, by rw [h2]; simp only; rw [blkOk j l' e' hl' h1 _ hj]⟩
      · cases ho
    | ep L t xs k o => cases ho
    | rp i v n k o => cases ho
    | sl i v c n k o => cases ho
    | tl i v n k => cases ho
    | sp i v c n k o m x q => cases ho
    | fn f l => cases ho
    | junk => cases ho
  have renL_rep : ∀ {l : List AC} {us : List Value}, l.all (okRenC pm nam.isEmpty) = true → RepL Xc W' E' qm l us → RepL X W' Ec Mc (l.map (renC ρ ws)) us := fun {l} => by
    induction l with
    | nil => intro us _ h; exact h
    | cons c l ih =>
      intro us ho h
      obtain ⟨v, r, e, h1, h2⟩ := h
      rw [List.all_cons, Bool.and_eq_true] at ho
      exact ⟨v, r, e, renC_rep ho.1 h1, ih ho.2 h2⟩
  have renW_rep : ∀ {x : AW} {u : Value}, okRenW pm nam.isEmpty x = true → RepW Xc W' E' qm x u → RepW X W' Ec Mc (renW ρ ws x) u := fun {x u} ho h => by
    cases x with
    | c c => exact renC_rep ho h
    | ag l => obtain ⟨us, e, h⟩ := h; exact ⟨us, e, renL_rep ho h⟩
  have renWs_rep : ∀ {l : List AW} {us : List Value}, l.all (okRenW pm nam.isEmpty) = true → RepWs Xc W' E' qm l us → RepWs X W' Ec Mc (l.map (renW ρ ws)) us := fun {l} => by
    induction l with
    | nil => intro us _ h; exact h
    | cons c l ih =>
      intro us ho h
      obtain ⟨v, r, e, h1, h2⟩ := h
      rw [List.all_cons, Bool.and_eq_true] at ho
      exact ⟨v, r, e, renW_rep ho.1 h1, ih ho.2 h2⟩
  have hRepM : RepM X W' Ec Mc := by
    refine repM_new hM hgrow hmem (by rw [hMclen, hEclen]) (nodup_foots (fun i ei hi => ?_) (fun i k ei ek hik hi hk b hb hbk => ?_)) (fun i b ei hb hi => ?_) (fun b hb => ?_)
    · rcases footR i ei hi with ⟨j, e', _, h2, h3⟩ | ⟨_, h2, _⟩ | h
      · rw [h3]; exact foot_nodup rm.nodup h2
      · exact foot_nodup hM.nodup h2
      · rw [h]; exact List.nodup_nil
    · rcases footR i ei hi with ⟨j, e', j1, j2, j3⟩ | ⟨i1, i2, i3⟩ | h
      · rcases footR k ek hk with ⟨j', e'', k1, k2, k3⟩ | ⟨k1, k2, k3⟩ | h
        · rw [j3] at hb
          rw [k3] at hbk
          refine foot_disj rm.nodup j2 k2 (fun h => hik ?_) hb hbk
          subst h
          exact Option.some.inj (j1.symm.trans k1)
        · rw [j3] at hb
          have hb' : b ∈ foots E' := mem_foots.2 ⟨e', List.mem_of_getElem? j2, hb⟩
          have hkE : b ∈ foots E := mem_foots.2 ⟨ek, List.mem_of_getElem? k2, hbk⟩
          rcases g.new b hb' with h | h
          · exact disj k ek k2 (notin k k1 k3) b hbk h
          · have := hM.lt b hkE; omega
        · rw [h] at hbk; cases hbk
      · rcases footR k ek hk with ⟨j', e'', k1, k2, k3⟩ | ⟨k1, k2, k3⟩ | h
        · rw [k3] at hbk
          have hb' : b ∈ foots E' := mem_foots.2 ⟨e'', List.mem_of_getElem? k2, hbk⟩
          have hkE : b ∈ foots E := mem_foots.2 ⟨ei, List.mem_of_getElem? i2, hb⟩
          rcases g.new b hb' with h | h
          · exact disj i ei i2 (notin i i1 i3) b hb h
          · have := hM.lt b hkE; omega
        · exact foot_disj hM.nodup i2 k2 hik hb hbk
        · rw [h] at hbk; cases hbk
      · rw [h] at hb; cases hb
    · cases hlk : look i ρ with
      | some j =>
        have hj := look_get hlk
        obtain ⟨b', e', r1, r2, r3, r4⟩ := atM i j hj
        rw [hb] at r3
        rw [hi] at r4
        obtain rfl := Option.some.inj r3
        obtain rfl := Option.some.inj r4
        have h := rm.at_ j b' e' r1 r2
        have hob := List.all_eq_true.1 c6 b' (List.mem_of_getElem? r1)
        refine .inr ?_
        cases b' with
        | row t xs v c hh => cases hh with
          | none => exact h
          | some _ => cases hob
        | mp _ => cases hob
        | dead => cases hob
        | box l =>
          obtain ⟨q1, cs', T, q2, q3⟩ := h
          obtain ⟨l', hl'⟩ := sameLs_box c7 r1
          have hbk := blkOk j l' e' hl' r2 i hj
          refine ⟨by simp only; rw [hbk]; exact q1, cs', T, by simp only; rw [hbk]; exact q2, renL_rep hob q3⟩
      | none =>
        obtain ⟨o1, o2⟩ := offM i hlk
        rw [o1] at hb
        rw [o2] at hi
        by_cases hl : i < M.length
        · rw [List.getElem?_append_left hl] at hb
          rw [List.getElem?_append_left (by omega)] at hi
          exact .inl ⟨hb, hi, fun q hq => keepR q (hM.lt q (mem_foots.2 ⟨ei, List.mem_of_getElem? hi, hq⟩)) (disj i ei hi (notin i hlk hl) q hq)⟩
        · rw [List.getElem?_append_right (by omega)] at hb hi
          have h1 := List.mem_of_getElem? hb
          have h2 := List.mem_of_getElem? hi
          rw [List.mem_replicate] at h1 h2
          rw [h1.2, h2.2]
          exact .inr rfl
    · rcases inEc b hb with h | h
      · exact rm.lt b h
      · exact Nat.lt_of_lt_of_le (hM.lt b h.1) g.size
  refine ⟨v, Ec, rfl, hgrow, hmem, hRepM, ?_⟩
  cases hres : e.res x with
  | w z => rw [hres] at rv c5; exact renW_rep c5 rv
  | tp l => rw [hres] at rv c5; obtain ⟨us', e2, h⟩ := rv; exact ⟨us', e2, renWs_rep c5 h⟩
  | any => trivial
end
end Go.Proofs.YtkompmgleojmlaaDoor
