/-
  Several texts in one.
-/
import Derived.Test.YtigebfhekmjhmaaGreatXBmW
import Derived.Deep.LoopGhost
import Derived.Still
import Derived.Laws.Cover3
set_option linter.unusedSimpArgs false
set_option linter.unusedVariables false
namespace Go.Proofs.YtigebfhekmjhmaaGreat
open Go.ChangeShapes Go.WideShapes Go.ChangeAt Go.RowKit Go.Joins Go.Deep
open GoRep (rep bulk)

section
variable {P : Program} {X X' : List Nat} {W : World} {E : Env} {M : Mem} {a : Act} {tm : List AV} {o : Oper}
theorem sameLs_box' : ∀ {pm qm : Mem} {j : Nat} {l : List AC}, sameLs pm qm = true → pm[j]? = some (.box l) → ∃ l', qm[j]? = some (.box l')
  | [], _, _, _, _, h => by simp at h
  | .row _ _ _ _ none :: pm, .row _ _ _ _ none :: qm, 0, l, hs, h => by cases h
  | .row _ _ _ _ none :: pm, .row _ _ _ _ none :: qm, j + 1, l, hs, h => by
    unfold sameLs at hs
    rw [Bool.and_eq_true] at hs
    obtain ⟨l', hq⟩ := sameLs_box' hs.2 (show pm[j]? = some _ by simpa using h)
    exact ⟨l', by simpa using hq⟩
  | .box _ :: pm, .box l' :: qm, 0, l, hs, h => ⟨l', rfl⟩
  | .box _ :: pm, .box _ :: qm, j + 1, l, hs, h => by
    unfold sameLs at hs
    obtain ⟨l', hq⟩ := sameLs_box' hs (show pm[j]? = some _ by simpa using h)
    exact ⟨l', by simpa using hq⟩
  | .row _ _ _ _ none :: _, [], _, _, hs, _ => by cases hs
  | .row _ _ _ _ none :: _, .box _ :: _, _, _, hs, _ => by cases hs
  | .row _ _ _ _ none :: _, .dead :: _, _, _, hs, _ => by cases hs
  | .box _ :: _, [], _, _, hs, _ => by cases hs
  | .box _ :: _, .row _ _ _ _ none :: _, _, _, hs, _ => by cases hs
  | .box _ :: _, .dead :: _, _, _, hs, _ => by cases hs
  | .dead :: _, _, _, _, hs, _ => by cases hs
theorem used_lt {new : Mem} {us : List (Option Nat)} (hu : UsedOk X X' W E M new us 0 us) : ∀ i ∈ somes us, i < E.length := fun i hi => by
  obtain ⟨j, hj⟩ := somes_mem hi
  obtain ⟨e, he, _⟩ := hu.get hj
  exact (List.getElem?_eq_some_iff.1 he).1
theorem pick_nodup {us : List (Option Nat)} (hM : RepM X W E M) (hd : distinct (somes us) = true) (hl : ∀ i ∈ somes us, i < E.length) : (foots (pickE E us)).Nodup := by
  refine nodup_of_cnt fun x => ?_
  rw [pickE_foots]
  have c1 := cnt_kill (E := E) x hd hl
  have c2 := cnt_le hM x
  omega
/-- the blocks picked stand for the pattern -/
theorem pick_repM {new : Mem} {us : List (Option Nat)} (hM : RepM X W E M) (hu : UsedOk X X' W E M new us 0 us) (hl : us.length = new.length) (hd : distinct (somes us) = true) (hx : ∀ b ∈ X', b ∉ foots (pickE E us)) (hsz : ∀ b ∈ X', b < W.heap.size) : RepM X' W (pickE E us) new := by
  refine ⟨by rw [pickE_len]; exact hl.symm, pick_nodup hM hd (used_lt hu), fun i b e hb he => ?_, fun b hb => hM.lt b (pickE_in b hb), hx, hsz⟩
  rw [pickE_get] at he
  cases hq : us[i]? with
  | none => rw [hq] at he; cases he
  | some u =>
    rw [hq] at he
    have hget := hu.get hq
    rw [Nat.zero_add] at hget
    cases u with
    | none =>
      obtain ⟨t, ht⟩ := hget
      rw [ht] at hb
      obtain rfl := Option.some.inj hb
      obtain rfl := Option.some.inj he
      exact ⟨0, [], [], World.ownsRow_nil W 0 0 t.n, ⟨rfl, rfl⟩, rfl⟩
    | some j =>
      obtain ⟨e', h2, h3⟩ := hget
      have he : some (E.getD j ⟨0, undef, []⟩) = some e := he
      rw [List.getD_eq_getElem?_getD, h2] at he
      obtain rfl := Option.some.inj he
      rcases h3 with ⟨t, xs, v', c, h1, h4⟩ | ⟨l, l', h1, h4, h5⟩
      · rw [h4] at hb
        obtain rfl := Option.some.inj hb
        exact hM.at_ j _ e' h1 h2
      · rw [h4] at hb
        obtain rfl := Option.some.inj hb
        obtain ⟨q1, cs, T, q2, q3⟩ := hM.at_ j _ e' h1 h2
        exact ⟨q1, cs, T, q2, h5 _ q3⟩
/-- the caller's blocks behind the call -/
def updE (E : Env) (n : Nat) (ρ : List Nat) (E' : Env) : Env := updL (fun i => match look i ρ with
  | some j => (E'[j]?).map (fun e' => (⟨(match E[i]? with | some e => e.blk | none => e'.blk), e'.val, e'.foot⟩ : EB))
  | none => none) 0 (E ++ List.replicate n ⟨0, undef, []⟩)
set_option maxHeartbeats 1000000 in
theorem callM_sound {e : MEntry P} {args : List AV} {vs : List Value} (hgl : Glob W E) (hM : RepM X W E M) (hr : RepT X W E M args vs) (hn : (callM e M args).need) :
    Calls P e.f vs.toArray W (fun en W' => ∃ u E', en = .returned u ∧ Grow W E W' E' ∧ MemOk W E M W' E' (callM e M args).mem ∧ RepM X W' E' (callM e M args).mem ∧ RepV X W' E' (callM e M args).mem (callM e M args).val u) := by
  unfold callM at hn ⊢
  cases hd : decM M e.ins args with
  | none => rw [hd] at hn; exact hn.elim
  | some x =>
  rw [hd] at hn
  simp only at hn ⊢
  obtain ⟨⟨hpre, hneed⟩, hchk⟩ := hn
  simp only [Bool.and_eq_true] at hchk
  obtain ⟨⟨⟨c1, c2⟩, c3, c4⟩, ⟨c5, c6⟩, c7⟩ := hchk
  have c2 := Nat.eq_of_beq_eq_true c2
  have c3 := Nat.eq_of_beq_eq_true c3
  obtain ⟨pm, hpm⟩ : ∃ pm, pm = preM 0 e.ins x := ⟨_, rfl⟩
  rw [← hpm] at hneed c1 c2 c3 c4 c5 c6 c7 ⊢
  obtain ⟨us0, hus0⟩ : ∃ us, us = (matchAs M pm [] e.ins args (argsM 0 e.ins x)).used := ⟨_, rfl⟩
  rw [← hus0] at c1 c2 c3 c4 ⊢
  obtain ⟨qm, hqm⟩ : ∃ qm, qm = postM 0 e.ins (e.post x) ++ e.new x := ⟨_, rfl⟩
  rw [← hqm] at c3 c6 c7 ⊢
  obtain ⟨nam, hnam⟩ : ∃ nam, nam = namA M e.ins args := ⟨_, rfl⟩
  rw [← hnam] at c4 c5 c6
  obtain ⟨us, hus⟩ : ∃ us, us = us0 ++ List.replicate (e.new x).length none := ⟨_, rfl⟩
  rw [← hus] at c3 ⊢
  obtain ⟨inp, hinp⟩ : ∃ inp, inp = inpM 0 e.ins := ⟨_, rfl⟩
  rw [← hinp]
  -- the callee's view
  obtain ⟨Xc, hXc⟩ : ∃ Xc, Xc = if nam.isEmpty = true then X ++ (foots E).filter (fun b => !(foots (pickE E us0)).contains b) else X := ⟨_, rfl⟩
  have hXin : ∀ b ∈ Xc, b ∈ X ∨ b ∈ foots E := fun b hb => by
    rw [hXc] at hb
    split at hb
    · rcases List.mem_append.1 hb with h | h
      · exact .inl h
      · exact .inr (List.mem_filter.1 h).1
    · exact .inl hb
  have hXX : ∀ b ∈ X, b ∈ Xc := fun b hb => by
    rw [hXc]; split
    · exact List.mem_append_left _ hb
    · exact hb
  have hXp : ∀ b ∈ Xc, b ∉ foots (pickE E us0) := fun b hb hf => by
    rw [hXc] at hb
    split at hb
    · rcases List.mem_append.1 hb with h | h
      · exact hM.xlt b h (pickE_in b hf)
      · have := (List.mem_filter.1 h).2
        simp [hf] at this
    · exact hM.xlt b hb (pickE_in b hf)
  have hXsz : ∀ b ∈ Xc, b < W.heap.size := fun b hb => (hXin b hb).elim (hM.xsz b) (hM.lt b)
  have disj : ∀ (i : Nat) (ei : EB), E[i]? = some ei → i ∉ somes us0 → ∀ b ∈ ei.foot, b ∉ foots (pickE E us0) := fun i ei hi hni b hb hf => by
    rw [pickE_foots] at hf
    obtain ⟨j, hj, ej, hej, hbj⟩ := feet_mem hf
    exact foot_disj hM.nodup hi hej (fun h => hni (h ▸ hj)) hb hbj
  have c4' : ∀ i ∈ nam, i ∉ somes us0 := fun i hi hs => by
    have h1 := List.all_eq_true.1 c4 i hi
    have h2 := List.all_eq_true.1 h1 i hs
    simp at h2
  have hS : ∀ b ∈ Xc ++ foots (pickE E us0), b ∈ X ∨ (b ∈ foots E ∧ ∀ i ∈ namA M e.ins args, ∀ e, E[i]? = some e → b ∉ e.foot) := fun b hb => by
    rw [← hnam]
    rcases List.mem_append.1 hb with h | h
    · rw [hXc] at h
      split at h
      · rename_i hem
        have : nam = [] := List.isEmpty_iff.1 hem
        rcases List.mem_append.1 h with h | h
        · exact .inl h
        · exact .inr ⟨(List.mem_filter.1 h).1, fun i hi => by rw [this] at hi; cases hi⟩
      · exact .inl h
    · exact .inr ⟨pickE_in b h, fun i hi ei hei hbe => disj i ei hei (c4' i hi) b hbe h⟩
  obtain ⟨hu, hargs⟩ := matchAs_rep (X' := Xc) (new := pm) (us := us0) (k := 0) (acc := []) hM hXin (fun q u h => by simp at h) hd hneed hr (fun q u h => by rw [← hus0] at h; simpa using h) hS
  rw [← hus0] at hu
  have hu : UsedOk X Xc W E M pm us0 0 us0 := hu
  have hlt := used_lt hu
  have hpick := pick_repM hM hu c2 c1 hXp hXsz
  have hml : M.length = E.length := hM.len
  have hok := e.ok x hpre Xc W (pickE E us0) vs (hgl.sub (fun b hb => pickE_in b hb)) (by rw [← hpm]; exact hpick) (by rw [← hpm]; exact hargs)
  rw [← hpm, ← hqm, ← hinp] at hok
  refine hok.mono fun en W' hq => ?_
  obtain ⟨v, E', rfl, g, hblk, hval, rm, rv⟩ := hq
  -- numbers
  have hsn : somes us = somes us0 := by
    rw [hus]
    have : ∀ (l : List (Option Nat)) (n : Nat), somes (l ++ List.replicate n none) = somes l := fun l n => by
      induction l with
      | nil => induction n with
        | zero => rfl
        | succ n ih => simpa [List.replicate_succ, somes] using ih
      | cons q l ih => cases q <;> simp [somes, ih]
    exact this _ _
  have hus_lt : ∀ (j : Nat) (u : Option Nat), us0[j]? = some u → us[j]? = some u := fun j u h => by rw [hus, List.getElem?_append_left (List.getElem?_eq_some_iff.1 h).1]; exact h
  have hpl : pm.length = us0.length := c2.symm
  have hus_some : ∀ (j i : Nat), us[j]? = some (some i) → us0[j]? = some (some i) := fun j i h => by
    rw [hus] at h
    by_cases hl : j < us0.length
    · rwa [List.getElem?_append_left hl] at h
    · rw [List.getElem?_append_right (by omega)] at h
      have := List.mem_of_getElem? h
      rw [List.mem_replicate] at this
      cases this.2
  have hinj : ∀ {j k i : Nat}, (rhoL M.length us)[j]? = some i → (rhoL M.length us)[k]? = some i → j = k := fun {j k i} => rhoL_inj (by rw [hsn]; exact c1) (fun i hi => by rw [hsn] at hi; rw [hml]; exact hlt i hi)
  have hrlen : (rhoL M.length us).length = qm.length := by rw [rhoL_len, c3]
  have hE'len : E'.length = qm.length := rm.len.symm
  have hrange : ∀ (j i : Nat), (rhoL M.length us)[j]? = some i → i < M.length + nones us ∧ (i < M.length → us0[j]? = some (some i)) ∧ (¬ i < M.length → us[j]? = some none) := fun j i h => by
    have lj := (List.getElem?_eq_some_iff.1 h).1
    rw [rhoL_len] at lj
    have gj := rhoL_get (n := M.length) (List.getElem?_eq_getElem lj)
    rw [h] at gj
    cases hu' : us[j] with
    | some p =>
      rw [hu'] at gj
      obtain rfl : i = p := Option.some.inj gj
      have h1 : us[j]? = some (some i) := by rw [List.getElem?_eq_getElem lj, hu']
      have h2 := hus_some j i h1
      have h3 := hlt i (somes_get h2)
      exact ⟨by omega, fun _ => h2, fun h => absurd (by omega) h⟩
    | none =>
      rw [hu'] at gj
      have e1 : i = M.length + nones (us.take j) := Option.some.inj gj
      have h1 : us[j]? = some none := by rw [List.getElem?_eq_getElem lj, hu']
      have h2 := nones_lt h1
      exact ⟨by omega, fun h => by omega, fun _ => h1⟩
  obtain ⟨ρ, hρ⟩ : ∃ ρ, ρ = rhoL M.length us := ⟨_, rfl⟩
  rw [← hρ] at hrlen
  simp only [← hρ] at hinj hrange ⊢
  obtain ⟨ws, hws⟩ : ∃ ws, ws = verL M inp 0 ρ := ⟨_, rfl⟩
  obtain ⟨cs, hcs⟩ : ∃ cs, cs = cntsL M ρ := ⟨_, rfl⟩
  rw [← hws, ← hcs]
  obtain ⟨Mc, hMc⟩ : ∃ Mc, Mc = updM M (nones us) ρ ws cs qm := ⟨_, rfl⟩
  obtain ⟨Ec, hEc⟩ : ∃ Ec, Ec = updE E (nones us) ρ E' := ⟨_, rfl⟩
  rw [← hMc]
  have hMclen : Mc.length = M.length + nones us := by rw [hMc]; unfold updM; rw [updL_len]; simp
  have hEclen : Ec.length = M.length + nones us := by rw [hEc]; unfold updE; rw [updL_len]; simp [hml]
  -- what stands at a place
  have atM : ∀ (i j : Nat), ρ[j]? = some i → ∃ (b : Blk) (e' : EB), qm[j]? = some b ∧ E'[j]? = some e' ∧ Mc[i]? = some (renB ρ ws (ws.getD j 0) (cs.getD j 0) b) ∧ Ec[i]? = some ⟨(match E[i]? with | some e => e.blk | none => e'.blk), e'.val, e'.foot⟩ := fun i j hj => by
    have lj := (List.getElem?_eq_some_iff.1 hj).1
    have hqj : qm[j]? = some qm[j] := List.getElem?_eq_getElem (by omega)
    have hej : E'[j]? = some E'[j] := List.getElem?_eq_getElem (by omega)
    have hi := (hrange j i hj).1
    have hlk : look i ρ = some j := by
      cases hq : look i ρ with
      | none => exact absurd hj (look_none hq j)
      | some k => rw [hinj (look_get hq) hj]
    refine ⟨_, _, hqj, hej, ?_, ?_⟩
    · rw [hMc]
      unfold updM
      rw [updL_get, Nat.zero_add, hlk]
      simp only [hqj, Option.map_some]
      rw [List.getElem?_eq_getElem (by simpa using hi)]
      rfl
    · rw [hEc]
      unfold updE
      rw [updL_get, Nat.zero_add, hlk]
      simp only [hej, Option.map_some]
      have hlE : i < (E ++ List.replicate (nones us) (⟨0, undef, []⟩ : EB)).length := by rw [List.length_append, List.length_replicate]; omega
      rw [List.getElem?_eq_getElem hlE]
      rfl
  have offM : ∀ i : Nat, look i ρ = none → Mc[i]? = (M ++ List.replicate (nones us) .dead)[i]? ∧ Ec[i]? = (E ++ List.replicate (nones us) ⟨0, undef, []⟩)[i]? := fun i hlk => by
    refine ⟨?_, ?_⟩
    · rw [hMc]
      unfold updM
      rw [updL_get, Nat.zero_add, hlk]
      exact (congrFun (Option.map_id (α := _)) _)
    · rw [hEc]
      unfold updE
      rw [updL_get, Nat.zero_add, hlk]
      exact (congrFun (Option.map_id (α := _)) _)
  have notin : ∀ i : Nat, look i ρ = none → i < M.length → i ∉ somes us0 := fun i hlk hi hs => by
    obtain ⟨j, hj⟩ := somes_mem hs
    have h1 := hus_lt j _ hj
    have := rhoL_get (n := M.length) h1
    rw [← hρ] at this
    exact look_none hlk j this
  have keepR : ∀ b, b < W.heap.size → b ∉ foots (pickE E us0) → W'.heap[b]? = W.heap[b]? := g.keep
  -- where an own block behind the call comes from
  have footR : ∀ (i : Nat) (ei : EB), Ec[i]? = some ei → (∃ (j : Nat) (e' : EB), ρ[j]? = some i ∧ E'[j]? = some e' ∧ ei.foot = e'.foot) ∨ (look i ρ = none ∧ E[i]? = some ei ∧ i < M.length) ∨ ei.foot = [] := fun i ei hi => by
    cases hlk : look i ρ with
    | some j =>
      obtain ⟨b, e', _, h2, _, h4⟩ := atM i j (look_get hlk)
      rw [hi] at h4
      obtain rfl := Option.some.inj h4
      exact .inl ⟨j, e', look_get hlk, h2, rfl⟩
    | none =>
      rw [(offM i hlk).2] at hi
      by_cases hl : i < E.length
      · rw [List.getElem?_append_left hl] at hi
        exact .inr (.inl ⟨rfl, hi, by omega⟩)
      · rw [List.getElem?_append_right (by omega)] at hi
        have := List.mem_of_getElem? hi
        rw [List.mem_replicate] at this
        exact .inr (.inr (by rw [this.2]))
  have inEc : ∀ b ∈ foots Ec, b ∈ foots E' ∨ (b ∈ foots E ∧ b ∉ foots (pickE E us0)) := fun b hb => by
    obtain ⟨ei, hm, hbe⟩ := mem_foots.1 hb
    obtain ⟨i, hi⟩ := List.mem_iff_getElem?.1 hm
    rcases footR i ei hi with ⟨j, e', _, h2, h3⟩ | ⟨h1, h2, h3⟩ | h
    · rw [h3] at hbe
      exact .inl (mem_foots.2 ⟨e', List.mem_of_getElem? h2, hbe⟩)
    · exact .inr ⟨mem_foots.2 ⟨ei, List.mem_of_getElem? h2, hbe⟩, disj i ei h2 (notin i h1 h3) b hbe⟩
    · rw [h] at hbe; cases hbe
  have hgrow : Grow W E W' Ec := ⟨g.os, g.tape, g.output, g.size, fun b hb hnb => g.keep b hb (fun h => hnb (pickE_in b h)), fun b hb => (inEc b hb).elim (fun h => (g.new b h).imp (pickE_in b) id) (fun h => .inl h.1), fun i ei hi => by
    cases hlk : look i ρ with
    | some j =>
      obtain ⟨b, e', _, h2, _, h4⟩ := atM i j (look_get hlk)
      rw [hi] at h4
      exact ⟨_, h4, rfl⟩
    | none =>
      refine ⟨ei, ?_, rfl⟩
      rw [(offM i hlk).2, List.getElem?_append_left (List.getElem?_eq_some_iff.1 hi).1]
      exact hi⟩
  -- rows and boxes at their places
  have usedAt : ∀ (i j : Nat), ρ[j]? = some i → i < M.length → ∃ ei, E[i]? = some ei ∧ (pickE E us0)[j]? = some ei ∧ ((∃ (t : Ty) (xs : List t.den) (v c : Nat), M[i]? = some (.row t xs v c none) ∧ pm[j]? = some (.row t xs 0 0 none)) ∨ ∃ l l', M[i]? = some (.box l) ∧ pm[j]? = some (.box l')) := fun i j hj hi => by
    have h1 := (hrange j i hj).2.1 hi
    have h2 := hu.get h1
    rw [Nat.zero_add] at h2
    obtain ⟨ei, he, h3⟩ := h2
    refine ⟨ei, he, pickE_some h1 he, h3.imp id (fun ⟨l, l', q1, q2, _⟩ => ⟨l, l', q1, q2⟩)⟩
  have hmem : MemOk W E M W' Ec Mc := memOk_upd (fun i t xs v c hh hi => by
      have hil := (List.getElem?_eq_some_iff.1 hi).1
      cases hlk : look i ρ with
      | some j =>
        have hj := look_get hlk
        obtain ⟨ei, he, hpe, h3⟩ := usedAt i j hj hil
        rcases h3 with ⟨t', xs', v', c', q1, q2⟩ | ⟨l, l', q1, _⟩
        · rw [hi] at q1
          injection q1 with q1
          injection q1 with q1 q3 q4 q5 q6
          subst q1
          subst q4
          subst q5
          subst q6
          obtain ⟨ys, v2, c2', hq⟩ := sameLs_row c7 q2
          obtain ⟨b, e', r1, r2, r3, r4⟩ := atM i j hj
          rw [hq] at r1
          obtain rfl := Option.some.inj r1
          have hv := verL_get (M := M) (inp := inp) (k := 0) hj
          have hc := cntsL_get (M := M) hj
          rw [← hws, hi] at hv
          rw [← hcs, hi] at hc
          simp only [Nat.zero_add] at hv hc
          cases hin : inp.any (Nat.beq j) with
          | true =>
            rw [hin] at hv
            simp only [cond_true] at hv
            refine .inr (.inr (.inl ⟨ys, cs.getD j 0, none, by rw [r3, hv]; rfl, by omega, fun ei' hei' => ?_⟩))
            rw [he] at hei'
            obtain rfl := Option.some.inj hei'
            have hjin : j ∈ inp := by
              obtain ⟨z, hz1, hz2⟩ := List.any_eq_true.1 hin
              rw [Nat.eq_of_beq_eq_true hz2]
              exact hz1
            obtain ⟨e2, k1, k2⟩ := hval j hjin ei hpe
            rw [r2] at k1
            obtain rfl := Option.some.inj k1
            exact ⟨_, r4, k2⟩
          | false =>
            rw [hin] at hv
            simp only [cond_false] at hv
            exact .inr (.inl ⟨ys, ws.getD j 0, cs.getD j 0, none, by rw [r3]; rfl, by omega⟩)
        · rw [hi] at q1; cases q1
      | none =>
        obtain ⟨o1, o2⟩ := offM i hlk
        refine .inr (.inr (.inr ⟨by rw [o1, List.getElem?_append_left hil]; exact hi, fun ei hei => ⟨by rw [o2, List.getElem?_append_left (List.getElem?_eq_some_iff.1 hei).1]; exact hei, fun q hq => ?_⟩⟩))
        exact keepR q (hM.lt q (mem_foots.2 ⟨ei, List.mem_of_getElem? hei, hq⟩)) (disj i ei hei (notin i hlk hil) q hq)) (fun i hi => by
      have hil := (List.getElem?_eq_some_iff.1 hi).1
      cases hlk : look i ρ with
      | some j =>
        obtain ⟨ei, he, hpe, h3⟩ := usedAt i j (look_get hlk) hil
        rcases h3 with ⟨t', xs', v', c', q1, q2⟩ | ⟨l, l', q1, _⟩
        · rw [hi] at q1; cases q1
        · rw [hi] at q1; cases q1
      | none =>
        rw [(offM i hlk).1, List.getElem?_append_left hil]
        exact hi)
  -- cells, renumbered
  have blkOk : ∀ (j : Nat) (l' : List AC) (e' : EB), pm[j]? = some (.box l') → E'[j]? = some e' → ∀ i : Nat, ρ[j]? = some i → (match E[i]? with | some e => e.blk | none => e'.blk) = e'.blk := fun j l' e' hb he' i hj => by
    cases hEi : E[i]? with
    | none => rfl
    | some ei =>
      have hi : i < M.length := by rw [hml]; exact (List.getElem?_eq_some_iff.1 hEi).1
      obtain ⟨e2, k1, k2, _⟩ := usedAt i j hj hi
      rw [hEi] at k1
      obtain rfl := Option.some.inj k1
      obtain ⟨e3, q1, q2⟩ := hblk j l' ei hb k2
      rw [he'] at q1
      obtain rfl := Option.some.inj q1
      exact q2.symm
  have ρtot : ∀ j : Nat, j < qm.length → ρ[j]? = some (ρ.getD j 0) := fun j hj => by
    rw [List.getD_eq_getElem?_getD, List.getElem?_eq_getElem (by omega)]
    rfl
  have renC_rep : ∀ {c : AC} {u : Value}, okRenC pm nam.isEmpty c = true → RepC Xc W' E' qm c u → RepC X W' Ec Mc (renC ρ ws c) u := fun {c u} ho h => by
    cases c with
    | int k n => exact h
    | bool b => exact h
    | str s => exact h
    | opq s => exact h
    | raw r => exact h
    | hs L t xs =>
      cases L with
      | «at» i v c => cases ho
      | no =>
        obtain ⟨h0, F, h1, h2⟩ := h
        refine ⟨h0, F, h1, fun b hb => ⟨⟨fun hm => ?_, fun hm => (h2 b hb).1.2 (hXX b hm)⟩, (h2 b hb).2⟩⟩
        rcases inEc b hm with h | ⟨h3, h4⟩
        · exact (h2 b hb).1.1 h
        · refine (h2 b hb).1.2 ?_
          have ho : nam.isEmpty = true := ho
          rw [hXc, if_pos ho]
          exact List.mem_append_right _ (List.mem_filter.2 ⟨h3, by simp [h4]⟩)
    | row j w =>
      obtain rfl := Nat.eq_of_beq_eq_true (show Nat.beq w 0 = true from ho)
      refine ⟨h.1, ?_⟩
      have h2 := h.2
      unfold atRow at h2
      cases hq : qm[j]? with
      | none => rw [hq] at h2; exact h2.elim
      | some b =>
        rw [hq] at h2
        have hj := ρtot j (List.getElem?_eq_some_iff.1 hq).1
        obtain ⟨b', e', r1, r2, r3, r4⟩ := atM _ j hj
        rw [hq] at r1
        obtain rfl := Option.some.inj r1
        have hob := List.all_eq_true.1 c6 b (List.mem_of_getElem? hq)
        show atRow Ec Mc (ρ.getD j 0) (ws.getD j 0) _
        unfold atRow
        rw [r3]
        cases b with
        | box l => exact h2.elim
        | dead => cases hob
        | row t xs v c hh =>
          cases hh with
          | some _ => cases hob
          | none =>
            have hob : (Nat.beq v 0 && Nat.beq c 0) = true := hob
            rw [Bool.and_eq_true] at hob
            obtain rfl := Nat.eq_of_beq_eq_true hob.1
            refine ⟨Nat.le_refl _, fun _ => ⟨_, r4, ?_⟩⟩
            obtain ⟨e2, k1, k2⟩ := h2.2 rfl
            rw [r2] at k1
            obtain rfl := Option.some.inj k1
            exact k2
    | bp j o =>
      obtain ⟨e', h1, h2⟩ := (h : boxAt E' j u o)
      have ho : isBoxAt pm j = true := ho
      unfold isBoxAt at ho
      split at ho
      · rename_i l' hl'
        have hj := ρtot j (by rw [← hE'len]; exact (List.getElem?_eq_some_iff.1 h1).1)
        obtain ⟨b', e2, r1, r2, r3, r4⟩ := atM _ j hj
        rw [h1] at r2
        obtain rfl := Option.some.inj r2
        exact ⟨_, r4, by rw [h2]; simp only; rw [blkOk j l' e' hl' h1 _ hj]⟩
      · cases ho
    | ep L t xs k o => cases ho
    | rp i v n k o => cases ho
    | sl i v c n k o => cases ho
    | tl i v n k => cases ho
    | sp i v c n k o m x q => cases ho
    | fn f l => cases ho
    | junk => cases ho
  have renL_rep : ∀ {l : List AC} {us : List Value}, l.all (okRenC pm nam.isEmpty) = true → RepL Xc W' E' qm l us → RepL X W' Ec Mc (l.map (renC ρ ws)) us := fun {l} => by
    induction l with
    | nil => intro us _ h; exact h
    | cons c l ih =>
      intro us ho h
      obtain ⟨v, r, e, h1, h2⟩ := h
      rw [List.all_cons, Bool.and_eq_true] at ho
      exact ⟨v, r, e, renC_rep ho.1 h1, ih ho.2 h2⟩
  have renW_rep : ∀ {x : AW} {u : Value}, okRenW pm nam.isEmpty x = true → RepW Xc W' E' qm x u → RepW X W' Ec Mc (renW ρ ws x) u := fun {x u} ho h => by
    cases x with
    | c c => exact renC_rep ho h
    | ag l => obtain ⟨us, e, h⟩ := h; exact ⟨us, e, renL_rep ho h⟩
  have renWs_rep : ∀ {l : List AW} {us : List Value}, l.all (okRenW pm nam.isEmpty) = true → RepWs Xc W' E' qm l us → RepWs X W' Ec Mc (l.map (renW ρ ws)) us := fun {l} => by
    induction l with
    | nil => intro us _ h; exact h
    | cons c l ih =>
      intro us ho h
      obtain ⟨v, r, e, h1, h2⟩ := h
      rw [List.all_cons, Bool.and_eq_true] at ho
      exact ⟨v, r, e, renW_rep ho.1 h1, ih ho.2 h2⟩
  have hRepM : RepM X W' Ec Mc := by
    refine repM_new hM hgrow hmem (by rw [hMclen, hEclen]) (nodup_foots (fun i ei hi => ?_) (fun i k ei ek hik hi hk b hb hbk => ?_)) (fun i b ei hb hi => ?_) (fun b hb => ?_)
    · rcases footR i ei hi with ⟨j, e', _, h2, h3⟩ | ⟨_, h2, _⟩ | h
      · rw [h3]; exact foot_nodup rm.nodup h2
      · exact foot_nodup hM.nodup h2
      · rw [h]; exact List.nodup_nil
    · rcases footR i ei hi with ⟨j, e', j1, j2, j3⟩ | ⟨i1, i2, i3⟩ | h
      · rcases footR k ek hk with ⟨j', e'', k1, k2, k3⟩ | ⟨k1, k2, k3⟩ | h
        · rw [j3] at hb
          rw [k3] at hbk
          refine foot_disj rm.nodup j2 k2 (fun h => hik ?_) hb hbk
          subst h
          exact Option.some.inj (j1.symm.trans k1)
        · rw [j3] at hb
          have hb' : b ∈ foots E' := mem_foots.2 ⟨e', List.mem_of_getElem? j2, hb⟩
          have hkE : b ∈ foots E := mem_foots.2 ⟨ek, List.mem_of_getElem? k2, hbk⟩
          rcases g.new b hb' with h | h
          · exact disj k ek k2 (notin k k1 k3) b hbk h
          · have := hM.lt b hkE; omega
        · rw [h] at hbk; cases hbk
      · rcases footR k ek hk with ⟨j', e'', k1, k2, k3⟩ | ⟨k1, k2, k3⟩ | h
        · rw [k3] at hbk
          have hb' : b ∈ foots E' := mem_foots.2 ⟨e'', List.mem_of_getElem? k2, hbk⟩
          have hkE : b ∈ foots E := mem_foots.2 ⟨ei, List.mem_of_getElem? i2, hb⟩
          rcases g.new b hb' with h | h
          · exact disj i ei i2 (notin i i1 i3) b hb h
          · have := hM.lt b hkE; omega
        · exact foot_disj hM.nodup i2 k2 hik hb hbk
        · rw [h] at hbk; cases hbk
      · rw [h] at hb; cases hb
    · cases hlk : look i ρ with
      | some j =>
        have hj := look_get hlk
        obtain ⟨b', e', r1, r2, r3, r4⟩ := atM i j hj
        rw [hb] at r3
        rw [hi] at r4
        obtain rfl := Option.some.inj r3
        obtain rfl := Option.some.inj r4
        have h := rm.at_ j b' e' r1 r2
        have hob := List.all_eq_true.1 c6 b' (List.mem_of_getElem? r1)
        refine .inr ?_
        cases b' with
        | row t xs v c hh => cases hh with
          | none => exact h
          | some _ => cases hob
        | dead => cases hob
        | box l =>
          obtain ⟨q1, cs', T, q2, q3⟩ := h
          obtain ⟨l', hl'⟩ := sameLs_box c7 r1
          have hbk := blkOk j l' e' hl' r2 i hj
          refine ⟨by simp only; rw [hbk]; exact q1, cs', T, by simp only; rw [hbk]; exact q2, renL_rep hob q3⟩
      | none =>
        obtain ⟨o1, o2⟩ := offM i hlk
        rw [o1] at hb
        rw [o2] at hi
        by_cases hl : i < M.length
        · rw [List.getElem?_append_left hl] at hb
          rw [List.getElem?_append_left (by omega)] at hi
          exact .inl ⟨hb, hi, fun q hq => keepR q (hM.lt q (mem_foots.2 ⟨ei, List.mem_of_getElem? hi, hq⟩)) (disj i ei hi (notin i hlk hl) q hq)⟩
        · rw [List.getElem?_append_right (by omega)] at hb hi
          have h1 := List.mem_of_getElem? hb
          have h2 := List.mem_of_getElem? hi
          rw [List.mem_replicate] at h1 h2
          rw [h1.2, h2.2]
          exact .inr rfl
    · rcases inEc b hb with h | h
      · exact rm.lt b h
      · exact Nat.lt_of_lt_of_le (hM.lt b h.1) g.size
  refine ⟨v, Ec, rfl, hgrow, hmem, hRepM, ?_⟩
  cases hres : e.res x with
  | w z => rw [hres] at rv c5; exact renW_rep c5 rv
  | tp l => rw [hres] at rv c5; obtain ⟨us', e2, h⟩ := rv; exact ⟨us', e2, renWs_rep c5 h⟩
  | any => trivial
end
end Go.Proofs.YtigebfhekmjhmaaGreat
set_option linter.unusedSimpArgs false
set_option linter.unusedVariables false
namespace Go.Proofs.YtigebfhekmjhmaaGreat
open Go.ChangeShapes Go.WideShapes Go.ChangeAt Go.RowKit Go.Joins Go.Deep
open GoRep (rep bulk)

section
variable {P : Program} {X : List Nat} {W : World} {E : Env} {M : Mem} {a : Act} {tm : List AV} {o : Oper}
theorem ORows.take {α : Type} {R : α → List Value → List Nat → Prop} {n : Nat} (hn : ∀ x cs F, R x cs F → cs.length = n) : ∀ (k : Nat) {xs : List α} {cs : List Value} {G : List Nat}, ORows R xs cs G → ∃ G', ORows R (xs.take k) (cs.take (k * n)) G' ∧ ∀ z, G'.count z ≤ G.count z
  | 0, _, _, _, _ => ⟨[], by rw [Nat.zero_mul]; exact ⟨rfl, rfl⟩, fun z => by simp⟩
  | k + 1, [], _, _, ⟨h1, h2⟩ => ⟨[], by rw [h1]; exact ⟨by simp, rfl⟩, fun z => by simp⟩
  | k + 1, y :: ys, _, _, ⟨c1, c2, G1, G2, h1, h2, e1, e2⟩ => by
    obtain ⟨G', q1, q2⟩ := ORows.take hn k h2
    have hc := hn _ _ _ h1
    refine ⟨G1 ++ G', ⟨c1, _, G1, G', h1, q1, ?_, rfl⟩, fun z => ?_⟩
    · rw [e1, Nat.add_mul, Nat.one_mul, Nat.add_comm, ← hc, List.take_length_add_append]
    · rw [e2, List.count_append, List.count_append]
      have := q2 z
      omega
/-- own row i takes over what row j held -/
theorem rows_steal {i j : Nat} {t : Ty} {xs ys : List t.den} {ver cc v c : Nat} (hM : RepM X W E M) (hi : M[i]? = some (.row t xs ver cc none)) (hj : M[j]? = some (.row t ys v c none)) (hij : j ≠ i) :
    ∃ E', Grow W E W E' ∧ MemOk W E M W E' ((killM M [j]).set i (.row t ys (ver + 1) (cc + 1) none)) ∧ RepM X W E' ((killM M [j]).set i (.row t ys (ver + 1) (cc + 1) none)) ∧ ∀ ej, E[j]? = some ej → RepC X W E' ((killM M [j]).set i (.row t ys (ver + 1) (cc + 1) none)) (.row i (ver + 1)) ej.val := by
  have hil : i < M.length := (List.getElem?_eq_some_iff.1 hi).1
  have hjl : j < M.length := (List.getElem?_eq_some_iff.1 hj).1
  have hie : i < E.length := by rw [← hM.len]; exact hil
  have hje : j < E.length := by rw [← hM.len]; exact hjl
  obtain ⟨ei, hei⟩ : ∃ ei, E[i]? = some ei := ⟨_, List.getElem?_eq_getElem hie⟩
  obtain ⟨ej, hej⟩ : ∃ ej, E[j]? = some ej := ⟨_, List.getElem?_eq_getElem hje⟩
  have hrow : RowR W E M t ys none ej := hM.at_ j _ ej hj hej
  obtain ⟨T, cells, G, ho, hr, hfe⟩ := hrow
  have hjs : ∀ q ∈ [j], q < E.length := fun q hq => by rw [List.mem_singleton.1 hq]; exact hje
  have hkl := killE_len [j] E
  have hml := killM_len [j] M
  have hft : feet E [j] = ej.foot := by simp [feet, hej]
  have hki : (killE E [j])[i]? = some ei := by
    rw [killE_other (fun k hk e => hij (by rw [← List.mem_singleton.1 hk]; exact e))]; exact hei
  have hin : ∀ b ∈ ej.foot, b ∈ foots E := fun b hb => mem_foots.2 ⟨ej, List.mem_of_getElem? hej, hb⟩
  have hcnt : ∀ z, (foots ((killE E [j]).set i ⟨ei.blk, ej.val, ej.foot⟩)).count z ≤ (foots E).count z := fun z => by
    have c1 := cnt_set (e' := ⟨ei.blk, ej.val, ej.foot⟩) z hki
    have c2 := cnt_kill z (rfl : distinct [j] = true) hjs
    rw [hft] at c2
    simp only at c1
    omega
  have hsub : ∀ b ∈ foots ((killE E [j]).set i ⟨ei.blk, ej.val, ej.foot⟩), b ∈ foots E := fun b hb =>
    List.count_pos_iff.1 (Nat.lt_of_lt_of_le (List.count_pos_iff.2 hb) (hcnt b))
  have g : Grow W E W ((killE E [j]).set i ⟨ei.blk, ej.val, ej.foot⟩) :=
    ⟨rfl, rfl, rfl, Nat.le_refl _, fun _ _ _ => rfl, fun b hb => .inl (hsub b hb), fun q e1 hq => by
      by_cases hqi : i = q
      · subst hqi
        obtain rfl := Option.some.inj (hei.symm.trans hq)
        exact ⟨_, List.getElem?_set_self (by rw [hkl]; exact hie), rfl⟩
      · rw [List.getElem?_set_ne hqi]
        exact killE_blk hq⟩
  have m : MemOk W E M W ((killE E [j]).set i ⟨ei.blk, ej.val, ej.foot⟩) ((killM M [j]).set i (.row t ys (ver + 1) (cc + 1) none)) := memOk_upd (fun q t' xs' v' c' hh' hq => by
      by_cases hqi : i = q
      · subst hqi
        obtain ⟨rfl, hx, rfl, rfl, rfl⟩ := Blk.row.inj (Option.some.inj (hi.symm.trans hq))
        exact .inr (.inl ⟨ys, ver + 1, cc + 1, none, List.getElem?_set_self (by rw [hml]; exact hil), Nat.lt_succ_self _⟩)
      · rw [List.getElem?_set_ne hqi]
        by_cases hqj : q = j
        · subst hqj
          exact .inl (killM_dead List.mem_cons_self hjl)
        · refine .inr (.inr (.inr ⟨by rw [killM_other (fun k hk e => hqj (by rw [← List.mem_singleton.1 hk]; exact e.symm))]; exact hq, fun e1 he1 => ⟨?_, fun _ _ => rfl⟩⟩))
          rw [List.getElem?_set_ne hqi, killE_other (fun k hk e => hqj (by rw [← List.mem_singleton.1 hk]; exact e.symm))]
          exact he1) (fun q hq => by
      have hqi : i ≠ q := fun e => by rw [← e, hi] at hq; cases hq
      have hqj : q ≠ j := fun e => by rw [e, hj] at hq; cases hq
      rw [List.getElem?_set_ne hqi, killM_other (fun k hk e => hqj (by rw [← List.mem_singleton.1 hk]; exact e.symm))]
      exact hq)
  have rm : RepM X W ((killE E [j]).set i ⟨ei.blk, ej.val, ej.foot⟩) ((killM M [j]).set i (.row t ys (ver + 1) (cc + 1) none)) :=
    repM_new hM g m (by simp [hml, hkl, hM.len]) (nodup_of_cnt fun z => Nat.le_trans (hcnt z) (cnt_le hM z)) (fun q b e1 hb he1 => by
      by_cases hqi : i = q
      · subst hqi
        rw [List.getElem?_set_self (by rw [hml]; exact hil)] at hb
        rw [List.getElem?_set_self (by rw [hkl]; exact hie)] at he1
        obtain rfl := Option.some.inj hb
        obtain rfl := Option.some.inj he1
        exact .inr ⟨T, cells, G, ho, hr, hfe⟩
      · rw [List.getElem?_set_ne hqi] at hb he1
        by_cases hqj : q = j
        · subst hqj
          rw [killM_dead List.mem_cons_self hjl] at hb
          obtain rfl := Option.some.inj hb
          exact .inr (killE_foot List.mem_cons_self he1)
        · rw [killM_other (fun k hk e => hqj (by rw [← List.mem_singleton.1 hk]; exact e.symm))] at hb
          rw [killE_other (fun k hk e => hqj (by rw [← List.mem_singleton.1 hk]; exact e.symm))] at he1
          exact .inl ⟨hb, he1, fun _ _ => rfl⟩) (fun b hb => hM.lt b (hsub b hb))
  refine ⟨_, g, m, rm, fun ej' hej' => ?_⟩
  obtain rfl := Option.some.inj (hej.symm.trans hej')
  refine ⟨ownsRow_one ho, ?_⟩
  unfold atRow
  rw [List.getElem?_set_self (by rw [hml]; exact hil)]
  exact ⟨Nat.le_refl _, fun _ => ⟨_, List.getElem?_set_self (by rw [hkl]; exact hie), rfl⟩⟩
/-- an own row's value: its address, its room -/
theorem own_slice {t : Ty} {xs : List t.den} {v : Value} {T : TypeId} {cells : List Value} (h : W.ownsRow 0 T t.n v xs.length cells) : ∃ A c, v = .slice A xs.length c ∧ xs.length ≤ c ∧ c ≤ maxLen ∧ ((A = none ∧ xs.length = 0 ∧ c = 0) ∨ ∃ b, A = some ⟨b, 0, none⟩) := by
  rcases h.2 with ⟨h1, h2⟩ | ⟨g, cap, cur, h1, h2, h3, h4, h5, h6, h7⟩
  · exact ⟨none, 0, by rw [h1, h2], by omega, Nat.zero_le _, .inl ⟨rfl, h2, rfl⟩⟩
  · exact ⟨_, cap, h1, h4, h5, .inr ⟨g, rfl⟩⟩
theorem run_slice_own {t e : TypeId} {tt : Ty} {A : Option Addr} {len c : Nat} {lo hi : Option Value} {l h : Int} (hu : P.underlying t = some (.slice e)) (hs : sizeT P e = tt.n)
    (q1 : (lo = none ∧ l = 0) ∨ ∃ k, lo = some (.int k l)) (q2 : (hi = none ∧ h = len) ∨ ∃ k, hi = some (.int k h)) (h0 : 0 ≤ l) (h1 : l ≤ h) (h2 : h ≤ c) :
    (Instr.sliceAt t (.slice A len c) lo hi none).run P W = .ok (.slice (if c = l.toNat then A else A.map (·.add (l.toNat * tt.n))) (h.toNat - l.toNat) (c - l.toNat)) W := by
  have hsl := run_bounds (P := P) (W := W) (b := true) (len := len) (cap := c) (lo := lo) (hi := hi) q1 q2 h0 h1 h2
  obtain ⟨inf, hinf⟩ : ∃ i, P.info? e = some i := by
    have hpos : 0 < sizeT P e := by rw [hs]; exact ty_pos tt
    unfold sizeT at hpos
    cases hq : P.info? e with
    | none => rw [hq] at hpos; exact absurd hpos (Nat.lt_irrefl 0)
    | some i => exact ⟨i, rfl⟩
  have hsz : inf.size = tt.n := by rw [← hs]; unfold sizeT; rw [hinf]
  unfold Instr.sliceAt
  simp only [Sem.run_bind, run_underlying hu, Result.andThen_ok]
  unfold Instr.slice
  simp only [Sem.run_bind, run_underlying hu, Result.andThen_ok, Sem.run_pure, hsl, sizeOf, typeInfo, run_program, hinf, hsz]
theorem does_cut {t : TypeId} {x : Operand} {lo hi : Option Operand} (hM : RepM X W E M) (ht : RepT X W E M tm a.tmps.toList) (ho : o.op = .slice t x lo hi none)
    (hn : (cutA P M t (evalA tm x) (lo.map (evalA tm)) (hi.map (evalA tm))).need) : Does X P o a W E M (cutA P M t (evalA tm x) (lo.map (evalA tm)) (hi.map (evalA tm))).val (cutA P M t (evalA tm x) (lo.map (evalA tm)) (hi.map (evalA tm))).mem := by
  have hp := evalA_rep ht x
  have hlo := optRep (M := M) ht lo
  have hhi := optRep (M := M) ht hi
  have hex : execOp a.eval o = (do pure (.value (← Instr.sliceAt t (a.eval x) (lo.map a.eval) (hi.map a.eval) none))) := by unfold execOp; rw [ho]; rfl
  generalize evalA tm x = x' at *
  generalize lo.map (evalA tm) = lo' at *
  generalize hi.map (evalA tm) = hi' at *
  unfold cutA at hn ⊢
  split at hn
  · rename_i e i v hu
    cases hra : rowAt M i v with
    | none => rw [hra] at hn; exact hn.elim
    | some r =>
      simp only [hra] at hn ⊢
      cases hs : Nat.beq (sizeT P e) r.t.n with
      | false => rw [hs] at hn; exact hn.elim
      | true =>
        simp only [hs, cond_true] at hn ⊢
        have hs := Nat.eq_of_beq_eq_true hs
        obtain ⟨t', xs, cc⟩ := r
        obtain ⟨e0, he0, hv0, T0, cells, G, w1, w2, w3⟩ := row_of hM hra (hp : RepC X W E M (.row i v) _).2
        simp only at hs w1 w2 w3
        obtain ⟨A, c, hvs, hlc, hcm, hA⟩ := own_slice w1
        have hone : e0.val.oneCell' = true := by rw [hvs]; rfl
        split at hn
        · rename_i h
          obtain ⟨h0, h1⟩ := hn
          simp only at h0 h1 ⊢
          have q1 : (lo.map a.eval = none ∧ (0 : Int) = 0) ∨ ∃ k, lo.map a.eval = some (.int k 0) := (loI_rep (l := 0) rfl hlo).imp (fun h => ⟨h.2.1, h.2.2⟩) id
          have q2 : (hi.map a.eval = none ∧ h = (xs.length : Nat)) ∨ ∃ k, hi.map a.eval = some (.int k h) := (hiI_rep (n := xs.length) rfl hhi).imp (fun h => ⟨h.2.1, h.2.2⟩) id
          have hrun := run_slice_own (P := P) (W := W) (tt := t') (A := A) (len := xs.length) (c := c) hu hs q1 q2 (Int.le_refl 0) h0 (by omega)
          have hv : (Value.slice (if c = (0 : Int).toNat then A else A.map (·.add ((0 : Int).toNat * t'.n))) (h.toNat - (0 : Int).toNat) (c - (0 : Int).toNat)) = .slice A h.toNat c := by
            rcases hA with ⟨rfl, _, rfl⟩ | ⟨b, rfl⟩
            · rfl
            · have : (⟨b, 0, none⟩ : Addr).add 0 = ⟨b, 0, none⟩ := addr_add b 0 0
              simp [this]
          rw [hv] at hrun
          have hcl : cells.length = xs.length * t'.n := w2.len (fun x cs F h => ORep.len t' h)
          obtain ⟨G', g1, g2⟩ := ORows.take (fun x cs F h => ORep.len t' h) h.toNat w2
          have hle : h.toNat ≤ xs.length := by omega
          have hlen : (xs.take h.toNat).length = h.toNat := by rw [List.length_take]; omega
          have hown : W.ownsRow 0 T0 t'.n (.slice A h.toNat c) (xs.take h.toNat).length (cells.take (h.toNat * t'.n)) := by
            have hmul : h.toNat * t'.n ≤ xs.length * t'.n := Nat.mul_le_mul_right _ hle
            refine ⟨by rw [List.length_take, hlen, hcl]; omega, ?_⟩
            rcases w1.2 with ⟨k1, k2⟩ | ⟨b, cap, cur, k1, k2, k3, k4, k5, k6, k7⟩
            · left
              rw [hvs] at k1
              injection k1 with k3 _ k4
              exact ⟨by rw [k3, k4, show h.toNat = 0 by omega], by omega⟩
            · right
              rw [hvs] at k1
              injection k1 with k8 _ k9
              refine ⟨b, cap, cur, by rw [k8, k9, hlen], k2, k3, by omega, k5, k6, ?_⟩
              rw [hlen, ← k7, List.take_take, Nat.min_eq_left hmul]
          obtain ⟨E', g, m, rm, rc⟩ := rows_move hM (rowAt_eq hra) he0 hown g1 (fun z => by
            have hb : (Value.slice A h.toNat c).ownBlock = e0.val.ownBlock := by rw [hvs]; cases A <;> rfl
            rw [w3, hb, List.count_append, List.count_append]
            have := g2 z
            omega)
          refine ⟨_, W, E', .inl ?_, g, m, rm, rc⟩
          rw [hex, hv0, hvs]
          simp only [Sem.run_bind, hrun, Result.andThen_ok, Sem.run_pure]
        · rename_i l
          obtain ⟨h0, h1⟩ := hn
          simp only at h0 h1 ⊢
          have q1 : (lo.map a.eval = none ∧ l = 0) ∨ ∃ k, lo.map a.eval = some (.int k l) := (loI_rep (l := l) rfl hlo).imp (fun h => ⟨h.2.1, h.2.2⟩) id
          have q2 : (hi.map a.eval = none ∧ ((xs.length : Nat) : Int) = (xs.length : Nat)) ∨ ∃ k, hi.map a.eval = some (.int k ((xs.length : Nat) : Int)) := (hiI_rep (n := xs.length) rfl hhi).imp (fun h => ⟨h.2.1, h.2.2⟩) id
          have hrun := run_slice_own (P := P) (W := W) (tt := t') (A := A) (len := xs.length) (c := c) hu hs q1 q2 h0 h1 (by omega)
          rw [Int.toNat_natCast] at hrun
          refine does_val hM (Instr.sliceAt t (a.eval x) (lo.map a.eval) (hi.map a.eval) none) (u := .slice (if c = l.toNat then A else A.map (·.add (l.toNat * t'.n))) (xs.length - l.toNat) (c - l.toNat)) hex (by rw [hv0, hvs]; exact hrun) ⟨rfl, ?_⟩
          unfold atRow
          rw [rowAt_eq hra]
          refine ⟨Nat.le_refl _, fun _ => ⟨e0, he0, _, xs.length, _, A, c, rfl, by omega, hvs, fun hk => ?_⟩⟩
          rcases hA with ⟨rfl, hz, _⟩ | ⟨b, rfl⟩
          · omega
          · exact ⟨b, rfl, by rw [if_neg (by omega)]; simp [addr_add]⟩
        · exact hn.elim
  · exact hn.elim
theorem does_clear {t : TypeId} {x : Operand} {xs : Array Operand} {ts : Array TypeId} (hM : RepM X W E M) (ht : RepT X W E M tm a.tmps.toList) (ho : o.op = .call ⟨.builtin .clear, xs, ts⟩) (hxs : xs.toList = [x]) (hts : ts.toList = [t])
    (hn : (clearA P M t (evalA tm x)).need) : Does X P o a W E M (clearA P M t (evalA tm x)).val (clearA P M t (evalA tm x)).mem := by
  have e1 : xs = #[x] := Array.toList_inj.1 (by simpa using hxs)
  have e2 : ts = #[t] := Array.toList_inj.1 (by simpa using hts)
  subst e1
  subst e2
  have hp := evalA_rep ht x
  generalize evalA tm x = x' at *
  unfold clearA at hn ⊢
  split at hn
  · rename_i e i v n k hu
    split at hn
    · rename_i r z hra hz
      cases hc : (z.cells.toList.all absOk && rowTy P e r.t.n) && Nat.beq n r.t.n with
      | false => rw [hc] at hn; exact hn.elim
      | true =>
        simp only [hc, cond_true] at hn ⊢
        rw [Bool.and_eq_true, Bool.and_eq_true] at hc
        obtain ⟨⟨hok, hty⟩, hnn⟩ := hc
        obtain rfl := Nat.eq_of_beq_eq_true hnn
        split at hn
        · rename_i d hd
          obtain ⟨t', l, cc⟩ := r
          simp only at hd hty hp ⊢
          have hi := rowAt_eq hra
          simp only at hi
          have hp2 := (hp : RepC X W E M (.tl i v t'.n k) _).2
          obtain ⟨e0, he0, hv0, T0, cells, G, w1, w2, w3⟩ := row_of hM hra hp2
          simp only at w1 w2 w3
          obtain ⟨A, l0, c, A0, c0, hv, hkl, hev, hA⟩ := hv0
          obtain ⟨A1, c1, hvs, hlc, hcm, hA1⟩ := own_slice w1
          obtain rfl : l.length = l0 := by rw [hvs] at hev; injection hev with _ q _
          obtain ⟨inf, z', i1, i2, i3, i4, i5⟩ := rowTy_spec hty
          obtain rfl : z' = z := by rw [i1] at hz; simpa [i4] using hz
          have hpos := ty_pos t'
          have hrep : ORep W t' d z'.cells.toList [] := by
            unfold ownWhole at hd
            split at hd
            · rename_i y js ho'
              obtain ⟨rfl, rfl⟩ := Prod.mk.inj (Option.some.inj hd)
              obtain ⟨c1, u1, e1, q1, q2, q3⟩ := ownT_rep hM t' ho' (absL_rep hok)
              obtain rfl : u1 = [] := q2
              rw [List.append_nil] at e1
              rw [e1]
              exact q1
            · cases hd
          have hzv : ∀ w, (zeroValue e).run P w = .ok z' w := fun w => by simp [zeroValue, typeInfo, i1, i4]
          by_cases hk : k < l.length
          · obtain ⟨b, rfl, rfl⟩ := hA hk
            rw [hev] at w1
            obtain ⟨cur, q1, q2, q3, q4, q5⟩ := ownsRow_cells w1
            have hfoot : e0.foot = b :: G := by rw [w3, hev]; rfl
            obtain ⟨zs, hzs⟩ : ∃ zs, zs = (List.replicate (l.length - k) z'.cells.toList).flatten := ⟨_, rfl⟩
            have hzl : zs.length = (l.length - k) * t'.n := by rw [hzs, flatten_len (s := t'.n) _ (fun l hl => by rw [List.eq_of_mem_replicate hl]; simpa using i5)]; simp
            have hzr : ORows (ORep W t') (List.replicate (l.length - k) d) zs [] := by rw [hzs]; exact replicate_rows hrep _
            have hmul : k * t'.n + (l.length - k) * t'.n = l.length * t'.n := by rw [← Nat.add_mul]; congr 1; omega
            have hcap : l.length * t'.n ≤ c0 * t'.n := Nat.mul_le_mul_right _ q3
            have hst := run_storeCells_at (P := P) b (k * t'.n) T0 zs 0 cur W q1 (by simp; omega) hzr.ones
            simp only [Nat.add_zero] at hst
            obtain ⟨W', hW'⟩ : ∃ W', W' = W.setRow b (cur.toList.take (k * t'.n) ++ zs ++ cur.toList.drop (k * t'.n + zs.length)).toArray := ⟨_, rfl⟩
            rw [← hW'] at hst
            have keep : ∀ p, p ≠ b → W'.heap[p]? = W.heap[p]? := fun p hp => by rw [hW']; exact setRow_other W b p _ (fun e => hp e)
            have hnd : e0.foot.Nodup := by
              refine nodup_of_cnt fun x => ?_
              have c1 := cnt_set (e' := { e0 with foot := [] }) x he0
              have c2 := cnt_le hM x
              have c3 : ({ e0 with foot := [] } : EB).foot.count x = 0 := rfl
              omega
            rw [hfoot, List.nodup_cons] at hnd
            have hbG : ∀ p ∈ G, p ≠ b := fun p hp e => hnd.1 (e ▸ hp)
            obtain ⟨G', g1, g2⟩ := ORows.take (fun x cs F h => ORep.len t' h) k w2
            have hcl : cells.length = l.length * t'.n := w2.len (fun x cs F h => ORep.len t' h)
            have hrows : ORows (ORep W t') (l.take k ++ List.replicate (l.length - k) d) (cells.take (k * t'.n) ++ zs) (G' ++ []) := g1.app hzr
            rw [List.append_nil] at hrows
            have hln : (l.take k ++ List.replicate (l.length - k) d).length = l.length := by simp; omega
            have hol : OList W' (ORep W' t') t'.n (l.take k ++ List.replicate (l.length - k) d) e0.val (b :: G') := by
              refine ⟨T0, _, G', ?_, hrows.imp (fun x cs F h hF => ORep.keep t' h (fun p hp => keep p (hbG p (List.count_pos_iff.1 (Nat.lt_of_lt_of_le (List.count_pos_iff.2 (hF p hp)) (g2 p)))))), by rw [hev]; rfl⟩
              rw [hev, hln]
              refine ⟨by rw [List.length_append, List.length_take, hzl, hcl]; omega, .inr ⟨b, c0, _, rfl, Nat.zero_le _, by rw [hW']; exact setRow_heap W b cur _ T0 _ q1, q3, q4, ?_, ?_⟩⟩
              · simp
                omega
              · simp only [List.toList_toArray]
                have f1 : cur.toList.take (k * t'.n) = cells.take (k * t'.n) := by rw [← q2, List.take_take, Nat.min_eq_left (by omega)]
                rw [f1]
                refine List.take_left' ?_
                rw [List.length_append, List.length_take, hzl, hcl]
                omega
            obtain ⟨E', g, m, rm⟩ := rows_turn (js := []) (h1 := none) (ys := l.take k ++ List.replicate (l.length - k) d) (F2 := b :: G') hM hi he0 rfl (by simp) (by simp) (fun p hp => by rw [hev] at hp; simp [Value.ownBlock] at hp; rw [hfoot, hp]; simp) ⟨by rw [hW']; rfl, by rw [hW']; rfl, by rw [hW']; rfl, by rw [hW']; simp, fun p _ hne => keep p (fun e' => hne (by rw [hev, e']; rfl))⟩ (fun _ _ _ _ => hol) (fun w => by
              have := g2 w
              rw [hfoot, List.count_cons, List.count_cons]
              omega)
            refine ⟨.tuple #[], W', E', .inl ?_, g, m, rm, trivial⟩
            unfold execOp
            simp only [ho, resolve, invoke, builtin, Sem.run_bind, Sem.run_pure, Result.andThen_ok, List.map_toArray, List.map_cons, List.map_nil, hv]
            have hrun : (Builtin.clear_ #[t] o.type #[.slice (some ⟨b, k * t'.n, none⟩) (l.length - k) c]).run P W = .ok (.tuple #[]) W' := by
              obtain ⟨m, hm⟩ : ∃ m, l.length - k = m + 1 := ⟨l.length - k - 1, by omega⟩
              have hzc : (Builtin.zeroCells z'.cells (m + 1)).toList = zs := by
                unfold Builtin.zeroCells
                rw [range_rep (zs := z'.cells) (s := z'.cells.size) (n := m + 1) rfl (by omega), hzs, hm]
              rw [hm]
              unfold Builtin.clear_
              simp [Sem.run_bind, run_underlying hu, Result.andThen_ok, hzv, hzc, hst]
            rw [hrun]
            rfl
          · obtain rfl : k = l.length := by omega
            have hsame : l.take l.length ++ List.replicate (l.length - l.length) d = l := by simp
            obtain ⟨E', g, m, rm⟩ := rows_turn (W' := W) (js := []) (h1 := none) (ys := l.take l.length ++ List.replicate (l.length - l.length) d) (F2 := e0.foot) hM hi he0 rfl (by simp) (by simp) (fun p hp => by rw [w3, List.mem_append]; exact .inl hp) ⟨rfl, rfl, rfl, Nat.le_refl _, fun _ _ _ => rfl⟩ (fun _ _ _ _ => by rw [hsame]; exact ⟨T0, cells, G, w1, w2, w3⟩) (fun w => by omega)
            refine ⟨.tuple #[], W, E', .inl ?_, g, m, rm, trivial⟩
            unfold execOp
            simp only [ho, resolve, invoke, builtin, Sem.run_bind, Sem.run_pure, Result.andThen_ok, List.map_toArray, List.map_cons, List.map_nil, hv, Nat.sub_self]
            have hrun : (Builtin.clear_ #[t] o.type #[.slice A 0 c]).run P W = .ok (.tuple #[]) W := by
              unfold Builtin.clear_
              cases A <;> simp [Sem.run_bind, run_underlying hu, Result.andThen_ok]
            rw [hrun]
            rfl
        · exact hn.elim
    · exact hn.elim
  · exact hn.elim
end
end Go.Proofs.YtigebfhekmjhmaaGreat
set_option linter.unusedSimpArgs false
set_option linter.unusedVariables false
namespace Go.Proofs.YtigebfhekmjhmaaGreat
open Go.ChangeShapes Go.WideShapes Go.ChangeAt Go.RowKit Go.Joins Go.Deep
open GoRep (rep bulk)

section
variable {P : Program} {X : List Nat} {W : World} {E : Env} {M : Mem} {a : Act} {tm : List AV} {o : Oper} {T : Tab P}
/-- only new memory was made, and nothing of it is ours -/
theorem grow_drop {W' : World} {E' : Env} (g : Grow W [] W' E') : Grow W E W' E where
  os := g.os
  tape := g.tape
  output := g.output
  size := g.size
  keep b hb _ := g.keep b hb (by simp [foots])
  new b hb := .inl hb
  blk i e he := ⟨e, he, rfl⟩
theorem memOk_drop {W' : World} {E' : Env} (g : Grow W [] W' E') (hM : RepM X W E M) : MemOk W E M W' E M := by
  have := memOk_append (W := W) (W' := W') (grow_drop g) hM (fun b hb => g.keep b (hM.lt b hb) (by simp [foots])) [] []
  rwa [List.append_nil, List.append_nil] at this
theorem repM_drop {W' : World} {E' : Env} (g : Grow W [] W' E') (hM : RepM X W E M) : RepM X W' E M :=
  ⟨hM.len, hM.nodup, fun i b e hb he => (hM.at_ i b e hb he).keep (grow_drop g) (memOk_drop g hM) hM.len (fun q hq => g.keep q (hM.lt q (mem_foots.2 ⟨e, List.mem_of_getElem? he, hq⟩)) (by simp [foots])),
    fun b hb => Nat.lt_of_lt_of_le (hM.lt b hb) g.size, hM.xlt, fun b hb => Nat.lt_of_lt_of_le (hM.xsz b hb) g.size⟩
theorem decA_cons {y : ATy} {l : List ATy} {x : AV} {xs : List AV} {d : AD (y :: l)} (h : decA M (y :: l) (x :: xs) = some d) : decA1 M y x = some d.1 ∧ decA M l xs = some d.2 := by
  unfold decA at h
  cases hq : decA1 M y x with
  | none => rw [hq] at h; cases h
  | some z =>
    rw [hq] at h
    simp only at h
    cases hz : decA M l xs with
    | none => rw [hz] at h; cases h
    | some ys =>
      rw [hz] at h
      obtain rfl : (z, ys) = d := Option.some.inj h
      exact ⟨rfl, rfl⟩
theorem nilMj {W : World} (hsz : ∀ b ∈ X, b < W.heap.size) : RepM X W [] [] := ⟨rfl, List.nodup_nil, fun i b e h => by simp at h, fun b hb => by simp [foots] at hb, fun b _ => by simp [foots], hsz⟩
theorem decT_M {M M' : Mem} : ∀ (t : Ty) {l : List AC}, (∀ c ∈ l, rawC c = false) → decT M t l = decT M' t l
  | .int _, _, _ => rfl
  | .bool, _, _ => rfl
  | .str, _, _ => rfl
  | .opq, _, _ => rfl
  | .prod a b, l, hl => by
    unfold decT
    rw [decT_M (M := M) (M' := M') a hl]
    cases ha : decT M' a l with
    | none => rfl
    | some q =>
      obtain ⟨y, l1⟩ := q
      have h1 := decT_eq a hl ha
      simp only
      rw [decT_M (M := M) (M' := M') b (fun c hc => hl c (by rw [h1]; simp [hc]))]
  | .list a, l, hl => by
    show decList M a l = decList M' a l
    cases l with
    | nil => rfl
    | cons c l =>
      have hc := hl c List.mem_cons_self
      cases c with
      | hs L t xs =>
        cases L with
        | no => rfl
        | «at» i v c => cases hc
      | int k x => rfl
      | bool b => rfl
      | str s => rfl
      | opq s => rfl
      | _ => cases hc
theorem decEl_M {M M' : Mem} {y : ATy} {agg : Bool} {t : Ty} {x : t.den} {d : y.ty.den} (h : decA1 M y (encEl agg t x) = some d) (hp : ∀ t, y ≠ .p t) : decA1 M' y (encEl agg t x) = some d := by
  cases y with
  | p t' => exact absurd rfl (hp t')
  | v t' =>
    cases agg with
    | true => cases h
    | false =>
      have h : (match decT M t' [enc1 t x] with | some (x, []) => some x | _ => none) = some d := h
      show (match decT M' t' [enc1 t x] with | some (x, []) => some x | _ => none) = some d
      rw [decT_M (M := M') (M' := M) t' (fun c hc => by obtain rfl := List.mem_singleton.1 hc; exact enc1_raw)]
      exact h
  | s t' =>
    cases agg with
    | false => cases h
    | true =>
      have h : (match decT M t' (cellsOf t x) with | some (x, []) => some x | _ => none) = some d := h
      show (match decT M' t' (cellsOf t x) with | some (x, []) => some x | _ => none) = some d
      rw [decT_M (M := M') (M' := M) t' (cellsOf_raw t x)]
      exact h
/-- an element names no block -/
theorem decA_nil : ∀ {l : List ATy} {agg : Bool} {t : Ty} {x : t.den} {d : AD l}, decA M l [encEl agg t x] = some d → decA [] l [encEl agg t x] = some d
  | [], _, _, _, _, h => by simp [decA] at h
  | y :: l, agg, t, x, d, h => by
    obtain ⟨h1, h2⟩ := decA_cons h
    have h3 : decA1 [] y (encEl agg t x) = some d.1 := by
      have hel := decA1_el h1
      cases y with
      | v t' => exact decEl_M h1 (fun t h => by cases h)
      | s t' => exact decEl_M h1 (fun t h => by cases h)
      | p t' =>
        exfalso
        revert hel
        cases agg with
        | true => intro hel; cases hel
        | false =>
          intro hel
          have hr := enc1_raw (t := t) (x := x)
          have he : encEl false t x = .w (.c (enc1 t x)) := rfl
          rw [he] at hel
          injection hel with h4
          injection h4 with h5
          rw [h5] at hr
          cases hr
    have h4 : decA [] l [] = some d.2 := by
      cases l with
      | nil => exact h2
      | cons _ _ => cases h2
    unfold decA
    rw [h3]
    simp only [h4]
    rfl
theorem capsV_monoj {W' : World} {E' : Env} (g : Grow W [] W' E') : ∀ {cs : List CV} {vs : List Value}, capsV X W cs vs → RepWs X W' [] [] (cs.map CV.arg) vs
  | [], _, h => h
  | c :: cs, _, ⟨v, r, e, ⟨h1, F, ⟨b, off, G, q0, q1, q2, q3⟩, q4⟩, h2⟩ => by
    subst q0
    refine ⟨v, r, e, ⟨h1, b :: G, ⟨b, off, G, rfl, q1, q2, q3.keep (g.keep b (q4 b (by simp)).2 (by simp [foots])) (fun k hk => g.keep k (q4 k (by simp [hk])).2 (by simp [foots]))⟩, fun k hk => ⟨(q4 k hk).1, Nat.lt_of_lt_of_le (q4 k hk).2 g.size⟩⟩, capsV_monoj g h2⟩
theorem elW_rep {agg : Bool} {t : Ty} {x : t.den} {v : Value} (h : RepW X W E M (elW agg t x) v) : RepV X W E M (encEl agg t x) v := by cases agg <;> exact h
theorem closOk_of {fg : FuncId} {cs : List CV} {caps : List Value} {agg : Bool} {t : Ty} {p : t.den → Bool} (hsz : ∀ b ∈ X, b < W.heap.size) (hgl : Glob W []) (hc : capsV X W cs caps) (ent : ∀ args w, (callFunc fg args).run P w = .ok (.enter fg args) w)
    (h : ∀ x, BCalls P fg (elW agg t x :: cs.map CV.arg) (.c (.bool (p x))) []) : ClosOk X W P (.func (.func fg) #[] caps.toArray) agg t p :=
  ⟨fg, caps, rfl, ent, fun W' E' x v g hx => h x X W' (v :: caps) (fun b hb => Nat.lt_of_lt_of_le (hsz b hb) g.size) (hgl.grow g).nil ⟨v, caps, rfl, hx, capsV_monoj g hc⟩⟩
theorem closOk2_of {fg : FuncId} {cs : List CV} {caps : List Value} {agg : Bool} {t : Ty} {p : t.den → t.den → Bool} (hsz : ∀ b ∈ X, b < W.heap.size) (hgl : Glob W []) (hc : capsV X W cs caps) (ent : ∀ args w, (callFunc fg args).run P w = .ok (.enter fg args) w)
    (h : ∀ x y, BCalls P fg (elW agg t x :: elW agg t y :: cs.map CV.arg) (.c (.bool (p x y))) []) : ClosOk2 X W P (.func (.func fg) #[] caps.toArray) agg t p :=
  ⟨fg, caps, rfl, ent, fun W' E' x y v v2 g hx hy => h x y X W' (v :: v2 :: caps) (fun b hb => Nat.lt_of_lt_of_le (hsz b hb) g.size) (hgl.grow g).nil ⟨v, _, rfl, hx, v2, caps, rfl, hy, capsV_monoj g hc⟩⟩
theorem callB_sound {W0 : World} {E0 : Env} (hT : TabOk X W0 E0 T) (hg0 : Grow W0 E0 W E) {f : FuncId} {args : List AV} {vs : List Value} (hM : RepM X W E M) (hr : RepT X W E M args vs) (hn : (callB T M f args).need) :
    (∀ args w, (callFunc f args).run P w = .ok (.enter f args) w) ∧
    Calls P f vs.toArray W (fun e W' => ∃ u E', e = .returned u ∧ Grow W E W' E' ∧ MemOk W E M W' E' (callB T M f args).mem ∧ RepM X W' E' (callB T M f args).mem ∧ RepV X W' E' (callB T M f args).mem (callB T M f args).val u) := by
  have hgl : Glob W E := hT.2.2.2.grow hg0
  unfold callB at hn ⊢
  cases hH : findH f T.H with
  | some h =>
    rw [hH] at hn
    simp only at hn ⊢
    split at hn
    · rename_i c g ids
      split at hn
      · rename_i xs hxs
        obtain rfl := findH_eq hH
        obtain ⟨v, r, e, h1, v2, r2, e2, h2, h3⟩ := hr
        subst e
        subst e2
        obtain rfl : r2 = [] := h3
        obtain ⟨caps, rfl, hcaps⟩ := (h2 : ∃ vs, v2 = .func (.func g) #[] vs.toArray ∧ capsAt E ids vs)
        obtain ⟨hn, hsc⟩ := hn
        refine ⟨h.ent, ?_⟩
        have hxs' := repL_out (X' := X) hM (fun b hb => .inl hb) hxs (⟨v, [], rfl, h1, rfl⟩ : RepL X W E M [c] [v])
        obtain ⟨v', r', e', q1, _⟩ := hxs'
        obtain ⟨rfl, _⟩ : v = v' ∧ [] = r' := by simpa using e'
        -- the closure's contract
        have hd := hn h.t.dflt
        unfold closP at hn hd
        cases hg : findE g T.Γ with
        | none => rw [hg] at hd; exact hd.elim
        | some eg =>
          rw [hg] at hd hn
          obtain rfl := findE_eq hg
          obtain ⟨fg, ins, pre, res, new, ok, ent⟩ := eg
          simp only at hd hn ok ent
          cases ins with
          | nil => exact hd.elim
          | cons a0 ps =>
            have hcons : ∀ x, ∃ y : AD (a0 :: ps), decA M (a0 :: ps) ([encEl h.agg h.t x] ++ ids.map (fun i => .c (.bp i 0))) = some y ∧ new y = [] ∧ pre y ∧ isBoolV (res y) := fun x => by
              have := hn x
              cases hy : decA M (a0 :: ps) ([encEl h.agg h.t x] ++ ids.map (fun i => .c (.bp i 0))) with
              | none => rw [hy] at this; exact this.elim
              | some y =>
                rw [hy] at this
                simp only at this
                cases hnw : new y with
                | nil => rw [hnw] at this; exact ⟨y, rfl, hnw, this.1, this.2⟩
                | cons _ _ => rw [hnw] at this; exact this.elim
            obtain ⟨y0, hy0, _⟩ := hcons h.t.dflt
            obtain ⟨_, hds⟩ := decA_cons hy0
            obtain ⟨hce, hcv⟩ := decA_caps hM hds hcaps
            obtain ⟨p, hp⟩ : ∃ p : h.t.den → Bool, p = fun x => match closP T.Γ M fg [encEl h.agg h.t x] ids with | some (_, r) => boolV r | none => false := ⟨_, rfl⟩
            have hgoal := h.ok p xs _ X W v hM.xsz hgl.nil q1 (closOk_of hM.xsz hgl.nil hcv ent (fun x => ?_))
            · refine hgoal.mono fun en W' hq => ?_
              obtain ⟨u, E', rfl, g, r, hv⟩ := hq
              refine ⟨u, E, rfl, grow_drop g, memOk_drop g hM, repM_drop g hM, ?_⟩
              rw [hp] at hv
              exact scalV_rep (hsc _ _) hv
            · obtain ⟨y, hy, hnw, hpre, hb⟩ := hcons x
              obtain ⟨he, hds'⟩ := decA_cons hy
              have hy2 : y.2 = y0.2 := Option.some.inj (hds'.symm.trans hds)
              have hbc := ok y hpre
              have hpx : res y = .c (.bool (p x)) := by
                rw [hp]
                unfold closP
                rw [hg]
                simp only [hy, hnw]
                revert hb
                generalize res y = r
                intro hb
                unfold isBoolV at hb
                split at hb
                · rfl
                · exact hb.elim
              rw [hpx, hnw] at hbc
              have hel := decA1_el he
              unfold elW
              rw [hel]
              show BCalls P fg (encA1 a0 y.1 :: (cvsOf ps y0.2).map CV.arg) _ _
              rw [← hce, ← hy2]
              exact hbc
      · exact hn.elim
    · rename_i c u
      split at hn
      · rename_i ce xs hce hxs
        obtain ⟨rfl, hTc⟩ : E0 = [] ∧ ∀ c, T.C = some c → CEok X W0 c := hT.1.resolve_left (by rw [hce]; simp)
        obtain rfl := findH_eq hH
        obtain ⟨v, r, e, h1, v2, r2, e2, h2, h3⟩ := hr
        subst e
        subst e2
        obtain rfl : r2 = [] := h3
        obtain ⟨hu, hn, hsc⟩ := hn
        obtain rfl : v2 = u := h2.1
        subst hu
        refine ⟨h.ent, ?_⟩
        have hxs' := repL_out (X' := X) hM (fun b hb => .inl hb) hxs (⟨v, [], rfl, h1, rfl⟩ : RepL X W E M [c] [v])
        obtain ⟨v', r', e', q1, _⟩ := hxs'
        obtain ⟨rfl, _⟩ : v = v' ∧ [] = r' := by simpa using e'
        obtain ⟨p, hp⟩ : ∃ p : h.t.den → Bool, p = fun x => match decA M ce.ins [encEl h.agg h.t x] with | some y => boolV (ce.res y) | none => false := ⟨_, rfl⟩
        have hgoal := h.ok p xs ce.u X W v hM.xsz hgl.nil q1 ⟨ce.g, ce.caps, ce.hu, ce.ent, fun W' E' x vx g hx => ?_⟩
        · refine hgoal.mono fun en W' hq => ?_
          obtain ⟨u, E', rfl, g, r, hv⟩ := hq
          refine ⟨u, E, rfl, grow_drop g, memOk_drop g hM, repM_drop g hM, ?_⟩
          rw [hp] at hv
          exact scalV_rep (hsc _ _) hv
        · have hnx := hn x
          cases hy : decA M ce.ins [encEl h.agg h.t x] with
          | none => rw [hy] at hnx; exact hnx.elim
          | some y =>
            rw [hy] at hnx
            simp only at hnx
            have hpx : ce.res y = .c (.bool (p x)) := by
              rw [hp]
              simp only [hy]
              revert hnx
              generalize ce.res y = r
              intro hb
              unfold isBoolV at hb
              split at hb
              · rfl
              · exact hb.elim
            have hr1 : RepT X W' [] [] [encEl h.agg h.t x] [vx] := ⟨vx, [], rfl, elW_rep hx, rfl⟩
            have hgw : Grow W0 [] W' E' := by
              have g1 : Grow W0 [] W [] := ⟨hg0.os, hg0.tape, hg0.output, hg0.size, hg0.keep, fun b hb => by simp [foots] at hb, fun i e h => by simp at h⟩
              exact g1.trans g
            have ha := decA_rep (X' := X) (M := []) (nilMj (fun b hb => Nat.lt_of_lt_of_le (hM.xsz b hb) g.size)) (fun b hb => .inl hb) (decA_nil hy) hr1
            have := hTc ce hce W' E' y [vx] hgw ha
            rw [hpx] at this
            exact this
      · exact hn.elim
    · exact hn.elim
  | none =>
    rw [hH] at hn
    simp only at hn ⊢
    cases hH2 : findH2 f T.H2 with
    | some h =>
      rw [hH2] at hn
      simp only at hn ⊢
      split at hn
      · rename_i c c2 g ids
        split at hn
        · rename_i xs ys hxs hys
          obtain rfl := findH2_eq hH2
          obtain ⟨v, r, e, h1, v2, r2, e2, k1, v3, r3, e3, h2, h3⟩ := hr
          subst e
          subst e2
          subst e3
          obtain rfl : r3 = [] := h3
          obtain ⟨caps, rfl, hcaps⟩ := (h2 : ∃ vs, v3 = .func (.func g) #[] vs.toArray ∧ capsAt E ids vs)
          obtain ⟨hn, hsc⟩ := hn
          refine ⟨h.ent, ?_⟩
          have hxs' := repL_out (X' := X) hM (fun b hb => .inl hb) hxs (⟨v, [], rfl, h1, rfl⟩ : RepL X W E M [c] [v])
          obtain ⟨v', r', e', q1, _⟩ := hxs'
          obtain ⟨rfl, _⟩ : v = v' ∧ [] = r' := by simpa using e'
          have hys' := repL_out (X' := X) hM (fun b hb => .inl hb) hys (⟨v2, [], rfl, k1, rfl⟩ : RepL X W E M [c2] [v2])
          obtain ⟨v'', r'', e'', q2, _⟩ := hys'
          obtain ⟨rfl, _⟩ : v2 = v'' ∧ [] = r'' := by simpa using e''
          have hd := hn h.t.dflt h.t.dflt
          unfold closP at hn hd
          cases hg : findE g T.Γ with
          | none => rw [hg] at hd; exact hd.elim
          | some eg =>
            rw [hg] at hd hn
            obtain rfl := findE_eq hg
            obtain ⟨fg, ins, pre, res, new, ok, ent⟩ := eg
            simp only at hd hn ok ent
            cases ins with
            | nil => exact hd.elim
            | cons a0 ins =>
            cases ins with
            | nil =>
              have hz : decA M [a0] ([encEl h.agg h.t h.t.dflt, encEl h.agg h.t h.t.dflt] ++ ids.map (fun i => .c (.bp i 0))) = none := by
                show (match decA1 M a0 (encEl h.agg h.t h.t.dflt) with | some y => (match (none : Option Unit) with | some ys => some (y, ys) | none => none) | none => none) = none
                split <;> rfl
              rw [hz] at hd
              exact hd.elim
            | cons a1 ps =>
              have hcons : ∀ x y, ∃ d : AD (a0 :: a1 :: ps), decA M (a0 :: a1 :: ps) ([encEl h.agg h.t x, encEl h.agg h.t y] ++ ids.map (fun i => .c (.bp i 0))) = some d ∧ new d = [] ∧ pre d ∧ isBoolV (res d) := fun x y => by
                have := hn x y
                cases hy : decA M (a0 :: a1 :: ps) ([encEl h.agg h.t x, encEl h.agg h.t y] ++ ids.map (fun i => .c (.bp i 0))) with
                | none => rw [hy] at this; exact this.elim
                | some d =>
                  rw [hy] at this
                  simp only at this
                  cases hnw : new d with
                  | nil => rw [hnw] at this; exact ⟨d, rfl, hnw, this.1, this.2⟩
                  | cons _ _ => rw [hnw] at this; exact this.elim
              obtain ⟨y0, hy0, _⟩ := hcons h.t.dflt h.t.dflt
              obtain ⟨_, hds1⟩ := decA_cons hy0
              obtain ⟨_, hds⟩ := decA_cons hds1
              obtain ⟨hce, hcv⟩ := decA_caps hM hds hcaps
              obtain ⟨p, hp⟩ : ∃ p : h.t.den → h.t.den → Bool, p = fun x y => match closP T.Γ M fg [encEl h.agg h.t x, encEl h.agg h.t y] ids with | some (_, r) => boolV r | none => false := ⟨_, rfl⟩
              have hgoal := h.ok p xs ys _ X W v v2 hM.xsz hgl.nil q1 q2 (closOk2_of hM.xsz hgl.nil hcv ent (fun x y => ?_))
              · refine hgoal.mono fun en W' hq => ?_
                obtain ⟨u, E', rfl, g, r, hv⟩ := hq
                refine ⟨u, E, rfl, grow_drop g, memOk_drop g hM, repM_drop g hM, ?_⟩
                rw [hp] at hv
                exact scalV_rep (hsc _ _ _) hv
              · obtain ⟨d, hy, hnw, hpre, hb⟩ := hcons x y
                obtain ⟨he, hds1'⟩ := decA_cons hy
                obtain ⟨he2, hds'⟩ := decA_cons hds1'
                have hy2 : d.2.2 = y0.2.2 := Option.some.inj (hds'.symm.trans hds)
                have hbc := ok d hpre
                have hpx : res d = .c (.bool (p x y)) := by
                  rw [hp]
                  unfold closP
                  rw [hg]
                  simp only [hy, hnw]
                  revert hb
                  generalize res d = r
                  intro hb
                  unfold isBoolV at hb
                  split at hb
                  · rfl
                  · exact hb.elim
                rw [hpx, hnw] at hbc
                have hel := decA1_el he
                have hel2 := decA1_el he2
                unfold elW
                rw [hel, hel2]
                show BCalls P fg (encA1 a0 d.1 :: encA1 a1 d.2.1 :: (cvsOf ps y0.2.2).map CV.arg) _ _
                rw [← hce, ← hy2]
                exact hbc
        · exact hn.elim
      · exact hn.elim
    | none =>
    rw [hH2] at hn
    simp only at hn ⊢
    cases hE : findE f T.Γ with
    | none => rw [hE] at hn; exact hn.elim
    | some e =>
      rw [hE] at hn
      simp only at hn ⊢
      cases hd : decA M e.ins args with
      | none => rw [hd] at hn; exact hn.elim
      | some x =>
        rw [hd] at hn
        obtain rfl := findE_eq hE
        simp only at hn ⊢
        refine ⟨e.ent, ?_⟩
        cases hp : hasP e.ins || args.any ownAV with
        | true =>
          rw [hp] at hn
          simp only [cond_true] at hn ⊢
          have ha := decA_rep (X' := X) hM (fun b hb => .inl hb) hd hr
          refine (e.ok x hn.1 X W vs hM.xsz hgl.nil ha).mono fun en W' hq => ?_
          obtain ⟨u, E', rfl, g, r, hv⟩ := hq
          obtain ⟨m, rm⟩ := repM_call g (fun b hb => hb) hM r hn.2.2
          exact ⟨u, E ++ E', rfl, grow_call g hM, m, rm, shiftV_rep hM.len (fun b hb => hb) (.inl hn.2.1) hv⟩
        | false =>
          rw [hp] at hn
          simp only [cond_false] at hn ⊢
          rw [Bool.or_eq_false_iff] at hp
          have ha := decA_rep (X' := X ++ foots E) hM (fun b hb => (List.mem_append.1 hb).imp id (fun h => ⟨h, hp⟩)) hd hr
          refine (e.ok x hn.1 (X ++ foots E) W vs (fun b hb => (List.mem_append.1 hb).elim (hM.xsz b) (hM.lt b)) hgl.nil ha).mono fun en W' hq => ?_
          obtain ⟨u, E', rfl, g, r, hv⟩ := hq
          obtain ⟨m, rm⟩ := repM_call g (fun b hb => List.mem_append_left _ hb) hM r hn.2
          exact ⟨u, E ++ E', rfl, grow_call g hM, m, rm, shiftV_rep hM.len (fun b hb => List.mem_append_left _ hb) (.inr (fun b hb => List.mem_append_right _ hb)) hv⟩
theorem callA_sound {W0 : World} {E0 : Env} (hT : TabOk X W0 E0 T) (hg0 : Grow W0 E0 W E) {f : FuncId} {args : List AV} {vs : List Value} (hM : RepM X W E M) (hr : RepT X W E M args vs) (hn : (callA T M f args).need) :
    (∀ args w, (callFunc f args).run P w = .ok (.enter f args) w) ∧
    Calls P f vs.toArray W (fun e W' => ∃ u E', e = .returned u ∧ Grow W E W' E' ∧ MemOk W E M W' E' (callA T M f args).mem ∧ RepM X W' E' (callA T M f args).mem ∧ RepV X W' E' (callA T M f args).mem (callA T M f args).val u) := by
  unfold callA at hn ⊢
  cases hG : findMA f args T.G with
  | some e =>
    rw [hG] at hn
    simp only at hn ⊢
    obtain rfl := findMA_eq hG
    exact ⟨e.ent, callM_sound (hT.2.2.2.grow hg0) hM hr hn⟩
  | none =>
    rw [hG] at hn
    simp only at hn ⊢
    exact callB_sound hT hg0 hM hr hn
theorem evalA_caps {fn : Operand} {f : FuncId} {ids : List Nat} (ht : RepT X W E M tm a.tmps.toList) (h : evalA tm fn = .w (.c (.fn f ids))) : ∃ caps : List Value, a.eval fn = .func (.func f) #[] caps.toArray ∧ capsAt E ids caps := by
  have := evalA_rep ht fn
  rw [h] at this
  exact this
theorem step0_sound {W0 : World} {E0 : Env} (hT : TabOk X W0 E0 T) (hg : Grow W0 E0 W E) (hM : RepM X W E M) (ht : RepT X W E M tm a.tmps.toList) (hn : (step0 T tm M o).need) : DoesW X P o a W E M (step0 T tm M o).val (step0 T tm M o).mem := by
  unfold step0 at hn ⊢
  cases ho : o.op <;> simp only [ho] at hn ⊢
  case call c =>
    obtain ⟨cal, args, ts⟩ := c
    cases cal <;> simp only at hn ⊢
    case value fn =>
      split at hn
      · rename_i f ids hf
        obtain ⟨caps, hfe, hcaps⟩ := evalA_caps ht hf
        obtain ⟨hent, hc⟩ := callA_sound hT hg hM ((repT_map ht args.toList).append (bps_rep hcaps)) hn
        exact doesW_call ho hfe hent hc
      · rename_i u hu
        split at hn
        · rename_i ce hce
          obtain ⟨rfl, hTc⟩ : E0 = [] ∧ ∀ c, T.C = some c → CEok X W0 c := hT.1.resolve_left (by rw [hce]; simp)
          split at hn
          · rename_i x hx
            obtain ⟨hn, hsc⟩ := hn
            have he := evalA_rep (M := M) ht fn
            rw [hu] at he
            have hfe : a.eval fn = .func (.func ce.g) #[] ce.caps.toArray := by
              have : a.eval fn = u := he.1
              rw [this, hn]
              exact ce.hu
            have ha := decA_rep (X' := X) hM (fun b hb => .inl hb) hx (repT_map ht args.toList)
            refine doesW_call ho hfe ce.ent ((hTc ce hce W E x _ hg ha).mono fun en W' hq => ?_)
            obtain ⟨v, E', rfl, g, r, hv⟩ := hq
            exact ⟨v, E, rfl, grow_drop g, memOk_drop g hM, repM_drop g hM, scalV_rep hsc hv⟩
          · exact hn.elim
        · exact hn.elim
      · exact hn.elim
    all_goals exact (opA_sound hM ht hn).toW
  all_goals exact (opA_sound hM ht hn).toW
theorem liftArgs_rep : ∀ {l : List MTy} {xs : List Operand} {tm : List AV} {M : Mem} {E : Env}, RepM X W E M → RepT X W E M tm a.tmps.toList →
    ∃ E', Grow W E W E' ∧ MemOk W E M W E' (liftArgs l xs tm M).2 ∧ RepM X W E' (liftArgs l xs tm M).2 ∧ RepT X W E' (liftArgs l xs tm M).2 (liftArgs l xs tm M).1 a.tmps.toList
  | [], xs, tm, M, E, hM, ht => by unfold liftArgs; exact ⟨E, Grow.refl W E, MemOk.refl W E M, hM, ht⟩
  | y :: l, [], tm, M, E, hM, ht => by
    have e : liftArgs (y :: l) [] tm M = (tm, M) := by cases y <;> rfl
    rw [e]
    exact ⟨E, Grow.refl W E, MemOk.refl W E M, hM, ht⟩
  | y :: l, x :: xs, tm, M, E, hM, ht => by
    have go : ∀ t, liftArgs (y :: l) (x :: xs) tm M = liftArgs l xs (liftT tm M t).1 (liftT tm M t).2 → ∃ E', Grow W E W E' ∧ MemOk W E M W E' (liftArgs (y :: l) (x :: xs) tm M).2 ∧ RepM X W E' (liftArgs (y :: l) (x :: xs) tm M).2 ∧ RepT X W E' (liftArgs (y :: l) (x :: xs) tm M).2 (liftArgs (y :: l) (x :: xs) tm M).1 a.tmps.toList := fun t e => by
      rw [e]
      obtain ⟨E1, g1, m1, r1, t1⟩ := liftT_rep hM ht t
      obtain ⟨E2, g2, m2, r2, t2⟩ := liftArgs_rep (l := l) (xs := xs) r1 t1
      exact ⟨E2, g1.trans g2, m1.trans m2, r2, t2⟩
    have stay : liftArgs (y :: l) (x :: xs) tm M = liftArgs l xs tm M → ∃ E', Grow W E W E' ∧ MemOk W E M W E' (liftArgs (y :: l) (x :: xs) tm M).2 ∧ RepM X W E' (liftArgs (y :: l) (x :: xs) tm M).2 ∧ RepT X W E' (liftArgs (y :: l) (x :: xs) tm M).2 (liftArgs (y :: l) (x :: xs) tm M).1 a.tmps.toList := fun e => by
      rw [e]
      exact liftArgs_rep (l := l) (xs := xs) hM ht
    cases y with
    | q g t => cases x <;> first | exact go _ rfl | exact stay rfl
    | g g t => cases x <;> first | exact go _ rfl | exact stay rfl
    | a y => exact stay rfl
    | m t => exact stay rfl
    | e t => exact stay rfl
    | b t => exact stay rfl
    | f g c => exact stay rfl
theorem preG_rep (hM : RepM X W E M) (ht : RepT X W E M tm a.tmps.toList) : ∃ E', Grow W E W E' ∧ MemOk W E M W E' (preG T tm M o).2 ∧ RepM X W E' (preG T tm M o).2 ∧ RepT X W E' (preG T tm M o).2 (preG T tm M o).1 a.tmps.toList := by
  have stay : ∃ E', Grow W E W E' ∧ MemOk W E M W E' M ∧ RepM X W E' M ∧ RepT X W E' M tm a.tmps.toList := ⟨E, Grow.refl W E, MemOk.refl W E M, hM, ht⟩
  unfold preG
  split
  · exact liftT_rep hM ht _
  · split
    · split
      · exact liftT_rep hM ht _
      · exact stay
    · split
      · exact liftArgs_rep hM ht
      · exact stay
    · exact stay
  · exact stay
theorem cutS_does (hM : RepM X W E M) (ht : RepT X W E M tm a.tmps.toList) (hn : (cutS (P := P) tm M o).need) : Does X P o a W E M (cutS (P := P) tm M o).val (cutS (P := P) tm M o).mem := by
  unfold cutS at hn ⊢
  cases ho : o.op <;> simp only [ho] at hn ⊢
  case slice t x lo hi mx =>
    cases mx with
    | some _ => exact hn.elim
    | none => exact does_cut hM ht ho hn
  case call c =>
    obtain ⟨cal, xs, ts⟩ := c
    cases cal <;> simp only at hn ⊢
    case builtin b =>
      cases b <;> simp only at hn ⊢
      case clear =>
        split at hn
        · rename_i t x hts hxs
          exact does_clear hM ht ho hxs hts hn
        · exact hn.elim
      all_goals exact hn.elim
    all_goals exact hn.elim
  all_goals exact hn.elim
theorem stepA_sound {W0 : World} {E0 : Env} (hT : TabOk X W0 E0 T) (hg : Grow W0 E0 W E) (hM : RepM X W E M) (ht : RepT X W E M tm a.tmps.toList) (hn : (stepA T tm M o).need) : DoesW X P o a W E M (stepA T tm M o).val (stepA T tm M o).mem := by
  unfold stepA at hn ⊢
  cases hc : Nat.beq (clsO T o) 2 with
  | false => rw [hc] at hn; exact step0_sound hT hg hM ht hn
  | true =>
    rw [hc] at hn
    simp only [cond_true] at hn ⊢
    cases hcut : isCut T o with
    | true =>
      rw [hcut] at hn
      exact (cutS_does hM ht hn).toW
    | false =>
    rw [hcut] at hn
    simp only [cond_false] at hn ⊢
    obtain ⟨E1, g1, m1, r1, t1⟩ := preG_rep (T := T) (o := o) hM ht
    intro next Q hK
    refine step0_sound hT (hg.trans g1) r1 t1 hn next Q (fun u W' E' g m r hv => ?_)
    obtain ⟨E2, g2, m2, r2⟩ := closeAll_rep r
    exact hK u W' E2 (g1.trans (g.trans g2)) (m1.trans (m.trans m2)) r2 (hv.mono g2 m2 r.len)
theorem putA_rep {W' : World} {E' : Env} {M' : Mem} {v : AV} {u : Value} {dst : Option Tmp} (ht : RepT X W' E' M' tm a.tmps.toList) (hv : RepV X W' E' M' v u) : RepT X W' E' M' (putA tm dst v) (a.put dst u).tmps.toList := by
  cases dst with
  | none => exact ht
  | some d =>
    show RepT X W' E' M' (tm.set d v) (a.tmps.setIfInBounds d u).toList
    rw [Array.toList_setIfInBounds]
    exact ht.set d hv
theorem put_defers {v : Value} {dst : Option Tmp} : (a.put dst v).defers = a.defers := by cases dst <;> rfl
theorem set_same {l : List AV} {d : Nat} {v : AV} (h : l.getD d .any = v) (hv : v ≠ .any) : l.set d v = l := by
  rw [List.getD_eq_getElem?_getD] at h
  cases hq : l[d]? with
  | none => rw [hq] at h; exact absurd h.symm hv
  | some x =>
    rw [hq] at h
    obtain rfl : x = v := h
    obtain ⟨h1, h2⟩ := List.getElem?_eq_some_iff.1 hq
    rw [← h2]
    exact List.set_getElem_self h1
/-- what the guard's slot says -/
theorem yielded_of {all : List Oper} {j d : Nat} {g : Bool} (hd : (all[j]?).bind (·.dst) = some d) (ht : RepT X W E M tm a.tmps.toList) (hg : tm.getD d .any = .w (.c (.bool g))) : yielded all.toArray a.tmps j = some g := by
  rw [List.getD_eq_getElem?_getD] at hg
  cases hq : tm[d]? with
  | none => rw [hq] at hg; cases hg
  | some x =>
    rw [hq] at hg
    obtain rfl : x = _ := hg
    obtain ⟨v, h1, h2⟩ := ht.get hq
    have hv : v = .bool g := h2
    unfold yielded
    have e1 : (all.toArray[j]?).bind (·.dst) = some d := by rw [List.getElem?_toArray]; exact hd
    have e2 : a.tmps[d]? = some (.bool g) := by rw [← Array.getElem?_toList, h1, hv]
    rw [e1, Option.bind_some, e2]
theorem yielded_tp {all : List Oper} {j d : Nat} {l : List AW} (hd : (all[j]?).bind (·.dst) = some d) (ht : RepT X W E M tm a.tmps.toList) (hg : tm.getD d .any = .tp l) : yielded all.toArray a.tmps j = none := by
  rw [List.getD_eq_getElem?_getD] at hg
  cases hq : tm[d]? with
  | none => rw [hq] at hg; cases hg
  | some y =>
    rw [hq] at hg
    obtain rfl : y = .tp l := hg
    obtain ⟨v, k1, k2⟩ := ht.get hq
    unfold yielded
    have e1 : (all.toArray[j]?).bind (·.dst) = some d := by rw [List.getElem?_toArray]; exact hd
    have e2 : a.tmps[d]? = some v := by rw [← Array.getElem?_toList, k1]
    rw [e1, Option.bind_some, e2]
    obtain ⟨vs, rfl, _⟩ := k2
    rfl
end
end Go.Proofs.YtigebfhekmjhmaaGreat
set_option linter.unusedSimpArgs false
set_option linter.unusedVariables false
namespace Go.Proofs.YtigebfhekmjhmaaGreat
open Go.ChangeShapes Go.WideShapes Go.ChangeAt Go.RowKit Go.Joins Go.Deep
open GoRep (rep bulk)

section
variable {P : Program} {X : List Nat} {W : World} {E : Env} {M : Mem} {a : Act} {tm : List AV} {o : Oper} {T : Tab P}
/-- the frame and the world stand for the abstract state -/
structure RepA (X : List Nat) (tm : List AV) (M : Mem) (a : Act) (W : World) (E : Env) : Prop where
  mem : RepM X W E M
  tmps : RepT X W E M tm a.tmps.toList
  dfr : a.defers = []
theorem wpList_one {all : List Oper} {os : List Oper} {Q : Exit → Act → World → Prop} (hw : Region.wanted o (yielded all.toArray a.tmps) = true) (h : o.wp P a W (wpList P all.toArray Q os) Q) : wpList P all.toArray Q (o :: os) a W := by
  unfold wpList
  rw [if_pos hw]
  exact .inl h
theorem wpList_skip {all : List Oper} {os : List Oper} {Q : Exit → Act → World → Prop} (hw : Region.wanted o (yielded all.toArray a.tmps) = false) (h : wpList P all.toArray Q os (a.put o.dst undef) W) : wpList P all.toArray Q (o :: os) a W := by
  unfold wpList
  rw [if_neg (by rw [hw]; exact Bool.false_ne_true)]
  exact h
theorem undefA_rep : RepV X W E M undefA undef := ⟨[], rfl, rfl⟩
theorem RepA.skip (h : RepA X tm M a W E) (dst : Option Tmp) : RepA X (putA tm dst undefA) M (a.put dst undef) W E := ⟨h.mem, putA_rep h.tmps undefA_rep, by rw [put_defers]; exact h.dfr⟩
theorem RepA.lit {d : Nat} {g : Bool} (h : RepA X tm M a W E) (hg : tm.getD d .any = .w (.c (.bool g))) : RepA X (tm.set d (.c (.bool g))) M a W E := by
  rw [set_same hg (by simp)]
  exact h
theorem nilQ_run {q : Bool → Prop} (hM : RepM X W E M) (ht : RepT X W E M tm a.tmps.toList) (h : nilQ P tm M o = some q) : ∃ b : Bool, (execOp a.eval o).run P W = .ok (.value (.bool b)) W ∧ q b := by
  unfold nilQ at h
  split at h
  · rename_i op t x yt ho
    split at h
    · rename_i e c hu hx
      split at h
      · rename_i L r hr
        have hp := evalA_rep (M := M) (W := W) (E := E) ht x
        rw [hx] at hp
        obtain ⟨A, cap, F, hv, hs, _⟩ := read_of hM hr hp
        have hn : A.isNone = true → r.xs.length = 0 := fun hA => by
          rcases hs.2.2 with ⟨h1, _⟩ | ⟨_, b, off, G, h1, _⟩
          · rw [h1]; rfl
          · rw [h1] at hA; cases hA
        have hg : ∀ op, (eqGuard op t x (.const (.slice none 0 0)) (.slice A r.xs.length cap) (.slice none 0 0)).run P W = .ok () W := fun op => by
          unfold eqGuard
          cases op <;> rfl
        have he : a.eval (.const (.slice none 0 0)) = .slice none 0 0 := rfl
        split at h
        · obtain rfl := Option.some.inj h
          refine ⟨A.isNone, ?_, hn⟩
          unfold execOp
          simp only [ho, hv, he, Sem.run_bind, hg, Result.andThen_ok, binOp, run_equal_slice_nil W t e A _ _ hu, Sem.run_pure]
        · obtain rfl := Option.some.inj h
          refine ⟨!A.isNone, ?_, fun hb => hn (by simpa using hb)⟩
          unfold execOp
          simp only [ho, hv, he, Sem.run_bind, hg, Result.andThen_ok, binOp, run_equal_slice_nil W t e A _ _ hu, Sem.run_pure]
        · cases h
      · cases h
    · cases h
  · cases h
/-- from the function's beginning on: the world grew, the rows written in place have their value as long as their version is 0 -/
structure Since (T : Tab P) (W0 : World) (E0 : Env) (W : World) (E : Env) (M : Mem) : Prop where
  g : Grow W0 E0 W E
  kept : ∀ i ∈ T.inp, M[i]? = some .dead ∨ ∃ (t : Ty) (xs : List t.den) (v c : Nat) (hh : Option (Nat × Nat × Nat)), M[i]? = some (.row t xs v c hh) ∧ (v = 0 → ∀ e0, E0[i]? = some e0 → ∃ e, E[i]? = some e ∧ e.val = e0.val)
theorem Since.step {W0 W' : World} {E0 E' : Env} {M' : Mem} (h : Since T W0 E0 W E M) (g : Grow W E W' E') (m : MemOk W E M W' E' M') : Since T W0 E0 W' E' M' := by
  refine ⟨h.g.trans g, fun i hi => ?_⟩
  have hm := m i
  rcases h.kept i hi with hd | ⟨t, xs, v, c, hh, h1, h2⟩
  · rw [hd] at hm; exact .inl hm
  · rw [h1] at hm
    rcases hm with hd | ⟨xs', v', c', hh', h3, h4, h5⟩
    · exact .inl hd
    · refine .inr ⟨t, xs', v', c', hh', h3, fun hv e0 he0 => ?_⟩
      obtain ⟨e, q1, q2⟩ := h2 (by omega) e0 he0
      obtain ⟨e', r1, r2, _⟩ := h5 (by omega) e q1
      exact ⟨e', r1, r2.trans q2⟩
theorem vcOps_sound {all : List Oper} {Q : Exit → Act → World → Prop} {W0 : World} {E0 : Env} (hT : TabOk X W0 E0 T) {K : List AV → Mem → Prop} (hK : ∀ tm M a W E, K tm M → RepA X tm M a W E → Since T W0 E0 W E M → Q .normal a W) :
    ∀ (os : List Oper) (tm : List AV) (M : Mem) (a : Act) (W : World) (E : Env), vcOps T all os tm M K → RepA X tm M a W E → Since T W0 E0 W E M → wpList P all.toArray Q os a W
  | [], tm, M, a, W, E, h, hr, hg => hK tm M a W E h hr hg
  | o :: os, tm, M, a, W, E, h, hr, hg => by
    have run : ∀ (tm : List AV), RepA X tm M a W E → Region.wanted o (yielded all.toArray a.tmps) = true → andR (stepA T tm M o) (genG o M (stepA T tm M o).mem (fun M' => vcOps T all os (putA tm o.dst (stepA T tm M o).val) M' K)) → wpList P all.toArray Q (o :: os) a W := fun tm hr hw h => by
      have h := andR_elim h
      refine wpList_one hw (stepA_sound hT hg.g hr.mem hr.tmps h.1 _ _ fun u W' E' g m r hv => ?_)
      exact vcOps_sound hT hK os _ _ _ W' E' (genG_elim h.2) ⟨r, putA_rep (hr.tmps.mono g m hr.mem.len) hv, by rw [put_defers]; exact hr.dfr⟩ (hg.step g m)
    unfold vcOps at h
    cases hgd : o.guard with
    | none =>
      rw [hgd] at h
      simp only at h
      split at h
      · rename_i q hq
        obtain ⟨b, h1, h2⟩ := nilQ_run hr.mem hr.tmps hq
        refine wpList_one (by unfold Region.wanted; rw [hgd]) ?_
        unfold Oper.wp
        rw [h1]
        exact vcOps_sound hT hK os _ _ _ W E (h b h2) ⟨hr.mem, putA_rep hr.tmps rfl, by rw [put_defers]; exact hr.dfr⟩ hg
      · exact run tm hr (by unfold Region.wanted; rw [hgd]) h
    | some jw =>
      obtain ⟨j, want⟩ := jw
      rw [hgd] at h
      simp only at h
      cases hd : (all[j]?).bind (·.dst) with
      | none => rw [hd] at h; exact h.elim
      | some d =>
        rw [hd] at h
        simp only at h
        have wnt : ∀ g, yielded all.toArray a.tmps j = some g → Region.wanted o (yielded all.toArray a.tmps) = (g == want) := fun g hy => by
          unfold Region.wanted
          rw [hgd]
          show (yielded all.toArray a.tmps j == some want) = _
          rw [hy]
          cases g <;> cases want <;> rfl
        split at h
        · rename_i g hq
          have hy := yielded_of hd hr.tmps hq
          have hl := hr.lit hq
          cases want with
          | true =>
            simp only at h
            cases g with
            | true => exact run _ hl (by rw [wnt _ hy]; rfl) h
            | false => exact wpList_skip (by rw [wnt _ hy]; rfl) (vcOps_sound hT hK os _ _ _ W E h (hl.skip _) hg)
          | false =>
            simp only at h
            cases g with
            | true => exact wpList_skip (by rw [wnt _ hy]; rfl) (vcOps_sound hT hK os _ _ _ W E h (hl.skip _) hg)
            | false => exact run _ hl (by rw [wnt _ hy]; rfl) h
        · rename_i l hq
          have hy := yielded_tp hd hr.tmps hq
          refine wpList_skip ?_ (vcOps_sound hT hK os _ _ _ W E h (hr.skip _) hg)
          unfold Region.wanted
          rw [hgd]
          show (yielded all.toArray a.tmps j == some want) = false
          rw [hy]
          rfl
        · exact h.elim
end
end Go.Proofs.YtigebfhekmjhmaaGreat
set_option linter.unusedSimpArgs false
set_option linter.unusedVariables false
namespace Go.Proofs.YtigebfhekmjhmaaGreat
open Go.ChangeShapes Go.WideShapes Go.ChangeAt Go.RowKit Go.Joins Go.Deep
open GoRep (rep bulk)

section
variable {P : Program} {X : List Nat} {W : World} {E : Env} {M : Mem} {a : Act} {tm : List AV} {o : Oper} {T : Tab P} {ops : Array Oper}
theorem rowAt_ext {N : Mem} {i v : Nat} {r : RowC} (h : rowAt M i v = some r) : rowAt (M ++ N) i v = some r := by
  have h1 := rowAt_eq h
  have hl := (List.getElem?_eq_some_iff.1 h1).1
  unfold rowAt
  rw [List.getElem?_append_left hl, h1]
  simp
theorem liveL_ext {N : Mem} : ∀ {L : Lnd}, liveL M L = true → liveL (M ++ N) L = true
  | .no, _ => rfl
  | .at i v c, h => by
    have h : liveAt M i v c = true := h
    show liveAt (M ++ N) i v c = true
    unfold liveAt at h ⊢
    split at h
    · rename_i t xs cv cc hM
      rw [List.getElem?_append_left (List.getElem?_eq_some_iff.1 hM).1, hM]
      exact h
    · cases h
theorem rowIx_ext {N : Mem} {i v : Nat} {r : RowC} (h : rowIx M i v = some r) : rowIx (M ++ N) i v = some r := by
  unfold rowIx at h ⊢
  split at h
  · rename_i t xs cv cc hh hM
    rw [List.getElem?_append_left (List.getElem?_eq_some_iff.1 hM).1, hM]
    exact h
  · cases h
theorem readSl_ext {N : Mem} {i v c n k o : Nat} {r : RowC} (h : readSl M i v c n k o = some r) : readSl (M ++ N) i v c n k o = some r := by
  unfold readSl at h ⊢
  split at h
  · rename_i t xs cv cc hM
    rw [List.getElem?_append_left (List.getElem?_eq_some_iff.1 hM).1, hM]
    exact h
  · cases h
theorem readL_ext {N : Mem} {c : AC} {q : Lnd × RowC} (h : readL M c = some q) : readL (M ++ N) c = some q := by
  unfold readL at h ⊢
  split at h
  · rename_i L t xs
    cases hl : liveL M L with
    | false => rw [hl] at h; cases h
    | true => rw [hl] at h; simp only [liveL_ext hl]; exact h
  · rename_i i v
    cases hr : rowAt M i v with
    | none => rw [hr] at h; cases h
    | some r => rw [hr] at h; simp only [rowAt_ext hr]; exact h
  · rename_i i v c n k o
    cases hr : readSl M i v c n k o with
    | none => rw [hr] at h; cases h
    | some r => rw [hr] at h; simp only [readSl_ext hr]; exact h
  · cases h
theorem some_ext {N : Mem} {i : Nat} {b : Blk} (h : M[i]? = some b) : (M ++ N)[i]? = some b := by
  rw [List.getElem?_append_left (List.getElem?_eq_some_iff.1 h).1]
  exact h
theorem cls0_of {n : Nat} (h : clsO T o = n) (hn : n ≤ 1) : cls0 T o = n := by
  unfold clsO at h
  cases hc : isCut T o with
  | true => rw [hc] at h; simp only [cond_true] at h; omega
  | false => rw [hc] at h; exact h
/-- more memory behind: the same -/
def Mono (N : Mem) (M : Mem) (r r' : OR) : Prop := r'.need ∧ r'.val = r.val ∧ r'.mem = M ++ N ∧ r.mem = M
theorem mono_triv {N : Mem} {p : Prop} {v : AV} (h : p) : Mono N M ⟨p, v, M⟩ ⟨p, v, M ++ N⟩ := ⟨h, rfl, rfl, rfl⟩
set_option maxHeartbeats 1000000 in
theorem opA_mono (N : Mem) (hc : clsO T o = 0) (hn : (opA P tm M o).need) : Mono N M (opA P tm M o) (opA P tm (M ++ N) o) := by
  have hc := cls0_of hc (Nat.zero_le 1)
  unfold cls0 at hc
  unfold opA at hn ⊢
  cases ho : o.op <;> simp only [ho] at hn hc ⊢
  case alloc => cases hc
  case box => cases hc
  case store => cases hc
  case buildSlice t _ _ => exfalso; cases hf : flatEl P t <;> rw [hf] at hc <;> cases hc
  case makeSlice => cases hc
  case move => exact mono_triv trivial
  case assign => exact mono_triv trivial
  case pick c x y => split at hn <;> first | exact mono_triv hn | exact hn.elim
  case load t x =>
    split at hn
    · rename_i i q hx
      split at hn
      · rename_i l hb
        simp only [some_ext hb]
        split at hn <;> first | exact mono_triv hn | exact hn.elim
      · exact hn.elim
    · rename_i L t' xs k q hx
      cases hL : liveL M L with
      | false => rw [hL] at hn; exact hn.elim
      | true =>
        simp only [hL, liveL_ext hL, cond_true] at hn ⊢
        split at hn <;> first | exact mono_triv hn | exact hn.elim
    · rename_i i v n k q hx
      cases hr : rowAt M i v with
      | none => rw [hr] at hn; exact hn.elim
      | some r =>
        simp only [hr, rowAt_ext hr] at hn ⊢
        cases hL : Nat.beq n r.t.n with
        | false => rw [hL] at hn; exact hn.elim
        | true =>
          simp only [hL, cond_true] at hn ⊢
          split at hn <;> first | exact mono_triv hn | exact hn.elim
    · rename_i i v c n k o' m y q hx
      cases hr : readSl M i v c n k o' with
      | none => rw [hr] at hn; exact hn.elim
      | some r =>
        simp only [hr, readSl_ext hr] at hn ⊢
        cases hL : Nat.beq m r.t.n with
        | false => rw [hL] at hn; exact hn.elim
        | true =>
          simp only [hL, cond_true] at hn ⊢
          split at hn <;> first | exact mono_triv hn | exact hn.elim
    · exact hn.elim
  case build t parts => split at hn <;> first | exact mono_triv hn | exact hn.elim
  case nilCheck x =>
    split at hn
    · exact mono_triv hn
    · rename_i L t' xs k q hx
      cases hL : liveL M L with
      | false => rw [hL] at hn; exact hn.elim
      | true => simp only [liveL_ext hL, cond_true]; exact mono_triv trivial
    · rename_i i v n k q hx
      cases hr : rowIx M i v with
      | none => rw [hr] at hn; exact hn.elim
      | some r => simp only [rowIx_ext hr, Option.isSome, cond_true]; exact mono_triv trivial
    · rename_i i v c n k o' m y q hx
      cases hr : readSl M i v c n k o' with
      | none => rw [hr] at hn; exact hn.elim
      | some r => simp only [readSl_ext hr, Option.isSome, cond_true]; exact mono_triv trivial
    · exact mono_triv hn
    · exact hn.elim
  case binOp => exact mono_triv hn
  case unOp op t x => cases op <;> simp only at hn ⊢ <;> first | exact hn.elim | (split at hn <;> first | exact mono_triv hn | exact hn.elim)
  case convert s d x =>
    split at hn
    · exact mono_triv hn
    · rename_i c hd hx
      split at hn
      · rename_i e hs
        cases hu : isU8 P e with
        | false => rw [hu] at hn; exact hn.elim
        | true =>
          simp only [hu, cond_true] at hn ⊢
          cases hst : strOf M c with
          | none => rw [hst] at hn; exact hn.elim
          | some xs =>
            rw [hst] at hn
            simp only [strOf_ext (fun q hq => readL_ext hq) hst]
            exact mono_triv hn
      · exact hn.elim
    · exact hn.elim
  case makeFunc fn first captured => cases fn <;> simp only at hn ⊢ <;> first | exact hn.elim | (split at hn <;> first | exact mono_triv hn | exact hn.elim)
  case slice t x lo hi mx =>
    cases mx with
    | some _ => exact hn.elim
    | none =>
      simp only at hn ⊢
      split at hn
      · split at hn <;> first | exact mono_triv hn | exact hn.elim
      · split at hn
        · rename_i c hx
          cases hr : readL M c with
          | none => rw [hr] at hn; exact hn.elim
          | some q =>
            simp only [hr, readL_ext hr] at hn ⊢
            exact mono_triv hn
        · exact hn.elim
      · exact hn.elim
  case fieldAddr s x n =>
    split at hn
    · rename_i f hf
      cases hz : Nat.beq (sizeT P f.type) 0 with
      | true => rw [hz] at hn; exact hn.elim
      | false =>
        rw [hz] at hn
        simp only [cond_false] at hn ⊢
        split at hn
        · exact mono_triv hn
        · rename_i L t' xs k q hx
          cases hL : liveL M L with
          | false => rw [hL] at hn; exact hn.elim
          | true => simp only [liveL_ext hL, cond_true]; exact mono_triv trivial
        · rename_i i v n k q hx
          cases hr : rowIx M i v with
          | none => rw [hr] at hn; exact hn.elim
          | some r => simp only [rowIx_ext hr, Option.isSome, cond_true]; exact mono_triv trivial
        · rename_i i v c n k o' m y q hx
          cases hr : readSl M i v c n k o' with
          | none => rw [hr] at hn; exact hn.elim
          | some r => simp only [readSl_ext hr, Option.isSome, cond_true]; exact mono_triv trivial
        · exact hn.elim
    · exact hn.elim
  case indexAddr t x i =>
    split at hn
    · rename_i e L t' xs k n hu hx hi
      cases hL : liveL M L with
      | false => rw [hL] at hn; exact hn.elim
      | true =>
        simp only [hL, liveL_ext hL, cond_true] at hn ⊢
        exact mono_triv hn
    · rename_i e i v k n hu hx hi
      cases hr : rowIx M i v with
      | none => rw [hr] at hn; exact hn.elim
      | some r =>
        simp only [hr, rowIx_ext hr] at hn ⊢
        exact mono_triv hn
    · rename_i e i v c n' k' o' k n hu hx hi
      cases hr : readSl M i v c n' k' o' with
      | none => rw [hr] at hn; exact hn.elim
      | some r =>
        simp only [hr, readSl_ext hr] at hn ⊢
        exact mono_triv hn
    · exact hn.elim
  case index t x i => split at hn <;> first | exact mono_triv hn | exact hn.elim
  case extract x n =>
    split at hn
    · split at hn <;> first | exact mono_triv hn | exact hn.elim
    · exact hn.elim
  case call c =>
    obtain ⟨cal, xs, ts⟩ := c
    cases cal <;> simp only at hn hc ⊢ <;> try exact hn.elim
    rename_i b
    cases b <;> simp only at hn hc ⊢ <;> try exact hn.elim
    case append => cases hc
    case len =>
      split at hn
      · split at hn
        · exact mono_triv hn
        · exact mono_triv hn
        · rename_i e c _ hu hx
          cases hr : readL M c with
          | none => rw [hr] at hn; exact hn.elim
          | some q =>
            simp only [hr, readL_ext hr] at hn ⊢
            exact mono_triv hn
        · exact hn.elim
      · exact hn.elim
    case min => split at hn <;> first | exact mono_triv hn | exact hn.elim
    case max => split at hn <;> first | exact mono_triv hn | exact hn.elim
  all_goals exact hn.elim
theorem stepA_0 (hc : clsO T o ≤ 1) : stepA T tm M o = step0 T tm M o := by
  unfold stepA
  have : Nat.beq (clsO T o) 2 = false := by
    cases h : Nat.beq (clsO T o) 2 with
    | false => rfl
    | true => have := Nat.eq_of_beq_eq_true h; omega
  rw [this]
  rfl
theorem stepA_read (hc : clsO T o = 0) : stepA T tm M o = opA P tm M o := by
  rw [stepA_0 (by omega)]
  unfold step0
  have hc := cls0_of hc (Nat.zero_le 1)
  unfold cls0 at hc
  cases ho : o.op <;> simp only [ho] at hc ⊢
  case call c =>
    obtain ⟨cal, xs, ts⟩ := c
    cases cal <;> first | rfl | skip
    all_goals try (cases hc; done)
    rename_i fn
    cases fn <;> first | (cases hc; done) | skip
    rename_i f
    exfalso
    have hc : (match findM f T.G with | some _ => 2 | none => 1) = 0 := hc
    split at hc <;> cases hc
theorem stepA_mono (N : Mem) (hc : clsO T o = 0) (hn : (stepA T tm M o).need) : Mono N M (stepA T tm M o) (stepA T tm (M ++ N) o) := by
  rw [stepA_read hc] at hn ⊢
  rw [stepA_read hc]
  exact opA_mono N hc hn
theorem callB_ext {f : FuncId} {args : List AV} (hn : (callB T M f args).need) : ∃ N, (callB T M f args).mem = M ++ N := by
  unfold callB at hn ⊢
  cases hH : findH f T.H with
  | some h =>
    rw [hH] at hn
    simp only at hn ⊢
    split at hn
    · split at hn <;> first | exact ⟨[], (List.append_nil M).symm⟩ | exact hn.elim
    · split at hn <;> first | exact ⟨[], (List.append_nil M).symm⟩ | exact hn.elim
    · exact hn.elim
  | none =>
    rw [hH] at hn
    simp only at hn ⊢
    cases hH2 : findH2 f T.H2 with
    | some h =>
      rw [hH2] at hn
      simp only at hn ⊢
      split at hn
      · split at hn <;> first | exact ⟨[], (List.append_nil M).symm⟩ | exact hn.elim
      · exact hn.elim
    | none =>
    rw [hH2] at hn
    simp only at hn ⊢
    cases hE : findE f T.Γ with
    | none => rw [hE] at hn; exact hn.elim
    | some e =>
      rw [hE] at hn
      simp only at hn ⊢
      cases hd : decA M e.ins args with
      | none => rw [hd] at hn; exact hn.elim
      | some x =>
        simp only
        cases hp : hasP e.ins || args.any ownAV with
        | true => exact ⟨e.new x, rfl⟩
        | false => exact ⟨e.new x, rfl⟩
theorem ownT_flat : ∀ {t : Ty} {l : List AC} {x : t.den} {r : List AC} {js : List Nat}, t.flat = true → ownT M t l = some (x, r, js) → js = []
  | .int k, l, x, r, js, _, h => by
    have h : ownInt k l = some (x, r, js) := h
    unfold ownInt at h
    repeat' (first | split at h | (cases h; done))
    all_goals (injection h with h; injection h with h1 h2; injection h2 with h3 h4; exact h4.symm)
  | .bool, l, x, r, js, _, h => by
    have h : ownBool l = some (x, r, js) := h
    unfold ownBool at h
    repeat' (first | split at h | (cases h; done))
    all_goals (injection h with h; injection h with h1 h2; injection h2 with h3 h4; exact h4.symm)
  | .opq, l, x, r, js, _, h => by
    have h : ownOpq l = some (x, r, js) := h
    unfold ownOpq at h
    repeat' (first | split at h | (cases h; done))
    all_goals (injection h with h; injection h with h1 h2; injection h2 with h3 h4; exact h4.symm)
  | .str, l, x, r, js, _, h => by
    have h : ownStr l = some (x, r, js) := h
    unfold ownStr at h
    repeat' (first | split at h | (cases h; done))
    all_goals (injection h with h; injection h with h1 h2; injection h2 with h3 h4; exact h4.symm)
  | .list _, _, _, _, _, hf, _ => by cases hf
  | .prod a b, l, x, r, js, hf, h => by
    have hf : (a.flat && b.flat) = true := hf
    rw [Bool.and_eq_true] at hf
    unfold ownT at h
    cases ha : ownT M a l with
    | none => rw [ha] at h; cases h
    | some q =>
      obtain ⟨y, l1, j1⟩ := q
      rw [ha] at h
      simp only at h
      cases hb : ownT M b l1 with
      | none => rw [hb] at h; cases h
      | some q =>
        obtain ⟨z, r2, j2⟩ := q
        rw [hb] at h
        injection h with h
        injection h with h1 h2
        injection h2 with h3 h4
        rw [← h4, ownT_flat hf.1 ha, ownT_flat hf.2 hb]
        rfl
theorem ownParts_flat {t : Ty} (hf : t.flat = true) : ∀ {l : List (Nat × AV)} {k : Nat} {ys : List t.den} {js : List Nat}, ownParts M t k l = some (ys, js) → js = []
  | [], _, _, _, h => by injection h with h; injection h with h1 h2; exact h2.symm
  | (i, x) :: l, k, ys, js, h => by
    unfold ownParts at h
    cases hb : Nat.beq i k with
    | false => rw [hb] at h; cases h
    | true =>
      rw [hb] at h
      simp only [cond_true] at h
      cases hv : ownV M t x with
      | none => rw [hv] at h; cases h
      | some q =>
        obtain ⟨y, j1⟩ := q
        rw [hv] at h
        simp only at h
        cases hp : ownParts M t (k + 1) l with
        | none => rw [hp] at h; cases h
        | some q =>
          obtain ⟨zs, j2⟩ := q
          rw [hp] at h
          injection h with h
          injection h with h1 h2
          have e2 := ownParts_flat hf hp
          have e1 : j1 = [] := by
            unfold ownV at hv
            split at hv
            · split at hv
              · rename_i hq
                injection hv with hv
                injection hv with _ h3
                rw [← h3]
                exact ownT_flat hf hq
              · cases hv
            · cases hv
          rw [← h2, e1, e2]
          rfl
theorem stepA_ext (hc : clsO T o ≤ 1) (hn : (stepA T tm M o).need) : ∃ N, (stepA T tm M o).mem = M ++ N := by
  by_cases h0 : clsO T o = 0
  · exact ⟨[], by rw [List.append_nil]; exact (stepA_mono [] h0 hn).2.2.2⟩
  · rw [stepA_0 hc] at hn ⊢
    unfold step0 at hn ⊢
    have hcq := cls0_of rfl hc
    rw [← hcq] at hc h0
    clear hcq
    unfold cls0 at hc h0
    cases ho : o.op <;> simp only [ho] at hc h0 hn ⊢ <;> try exact (h0 trivial).elim
    case store => omega
    case buildSlice t len parts =>
      have hfl : flatEl P t = true := by
        cases hf : flatEl P t with
        | true => rfl
        | false => rw [hf] at hc; exact absurd hc (by decide)
      unfold flatEl at hfl
      unfold opA at hn ⊢
      simp only [ho] at hn ⊢
      split at hfl
      · rename_i e hu
        simp only [hu] at hn ⊢
        split at hfl
        · rename_i tt htt
          simp only [htt] at hn ⊢
          split at hn
          · rename_i ys js hp
            have := ownParts_flat hfl hp
            subst this
            cases hcnd : (rowTy P e tt.n && Nat.ble (len * tt.n) 16777216) && (Nat.beq len parts.size && distinct []) with
            | false => rw [hcnd] at hn; exact hn.elim
            | true => simp only [hcnd, cond_true]; exact ⟨_, rfl⟩
          · rw [hfl] at hn
            exact hn.elim
        · cases hfl
      · cases hfl
    case makeSlice t l c =>
      unfold opA at hn ⊢
      simp only [ho] at hn ⊢
      split at hn
      · split at hn
        · rename_i tt z htt hz
          cases hcnd : z.cells.toList.all absOk && rowTy P _ tt.n with
          | false => rw [hcnd] at hn; exact hn.elim
          | true =>
            simp only [hcnd, cond_true] at hn ⊢
            split at hn
            · exact ⟨_, rfl⟩
            · exact hn.elim
        · exact hn.elim
      · exact hn.elim
    case alloc e =>
      unfold opA at hn ⊢
      simp only [ho] at hn ⊢
      split at hn
      · rename_i z hz
        cases hok : z.cells.toList.all absOk with
        | false => rw [hok] at hn; exact hn.elim
        | true => exact ⟨_, rfl⟩
      · exact hn.elim
    case box e x =>
      unfold opA at hn ⊢
      simp only [ho] at hn ⊢
      split at hn
      · exact ⟨_, rfl⟩
      · exact hn.elim
    case call c =>
      obtain ⟨cal, xs, ts⟩ := c
      cases cal <;> simp only at hc h0 hn ⊢
      case value fn =>
        cases fn <;> simp only at hc h0 <;> try (omega; done)
        rename_i f
        have hc : (match findM f T.G with | some _ => 2 | none => 1) ≤ 1 := hc
        cases hG : findM f T.G with
        | some e => rw [hG] at hc; exact absurd (show 2 ≤ 1 from hc) (by decide)
        | none =>
          have e1 : evalA tm (.func f) = .w (.c (.fn f [])) := rfl
          rw [e1] at hn ⊢
          simp only at hn ⊢
          unfold callA at hn ⊢
          rw [findMA_none hG] at hn ⊢
          exact callB_ext hn
      case builtin b => cases b <;> simp only at hc h0 <;> first | omega | exact (h0 trivial).elim | exact (h0 rfl).elim
      all_goals omega
theorem opA_congr {tm' : List AV} (h : ∀ x ∈ o.op.operands, evalA tm x = evalA tm' x) : opA P tm M o = opA P tm' M o := by
  unfold opA
  cases ho : o.op <;> simp only [ho, Op.operands] at h ⊢
  case makeFunc fn first captured =>
    have : captured.toList.map (evalA tm) = captured.toList.map (evalA tm') := List.map_congr_left fun x hx => h x (by simp at hx ⊢; exact .inr hx)
    cases fn <;> simp only [this]
  case unOp op t x =>
    have := h x (by simp)
    cases op <;> simp only [this]
  case slice t x lo hi mx => cases lo <;> cases hi <;> cases mx <;> simp_all
  case call c =>
    obtain ⟨cal, args, ts⟩ := c
    simp only [Call.operands] at h
    cases cal <;> simp only at h ⊢
    rename_i b
    have hm : args.toList.map (evalA tm) = args.toList.map (evalA tm') := List.map_congr_left fun x hx => h x (by simp at hx ⊢; exact hx)
    have hmem : ∀ x ∈ args.toList, evalA tm x = evalA tm' x := fun x hx => h x (by simp at hx ⊢; exact hx)
    cases b <;> simp only [hm] <;> try rfl
    case append =>
      cases hts : ts.toList with
      | nil => rfl
      | cons t l =>
        cases l with
        | nil => rfl
        | cons t2 l =>
          cases l with
          | cons _ _ => rfl
          | nil =>
            cases hxs : args.toList with
            | nil => rfl
            | cons x k =>
              cases k with
              | nil => rfl
              | cons y k =>
                cases k with
                | cons _ _ => rfl
                | nil => simp only [hmem x (by rw [hxs]; simp), hmem y (by rw [hxs]; simp)]
    case len =>
      cases hts : ts.toList with
      | nil => rfl
      | cons t l =>
        cases l with
        | cons _ _ => rfl
        | nil =>
          cases hxs : args.toList with
          | nil => rfl
          | cons x k =>
            cases k with
            | cons _ _ => rfl
            | nil => simp only [hmem x (by rw [hxs]; simp)]
  case build t parts =>
    have : (parts.toList.map fun p => (p.1, evalA tm p.2)) = parts.toList.map fun p => (p.1, evalA tm' p.2) := List.map_congr_left fun p hp => by rw [h p.2 (by simp at hp ⊢; exact ⟨p.1, hp⟩)]
    rw [this]
  case buildSlice t len parts =>
    have : (parts.toList.map fun p => (p.1, evalA tm p.2)) = parts.toList.map fun p => (p.1, evalA tm' p.2) := List.map_congr_left fun p hp => by rw [h p.2 (by simp at hp ⊢; exact ⟨p.1, hp⟩)]
    rw [this]
  all_goals first | rfl | (simp_all; done)
theorem stepA_congr {tm' : List AV} (hc : clsO T o ≤ 1) (h : ∀ x ∈ o.op.operands, evalA tm x = evalA tm' x) : stepA T tm M o = stepA T tm' M o := by
  have h2 := opA_congr (P := P) (M := M) h
  rw [stepA_0 hc, stepA_0 hc]
  unfold step0
  cases ho : o.op <;> simp only [ho, Op.operands] at h ⊢
  case call c =>
    obtain ⟨cal, args, ts⟩ := c
    simp only [Call.operands] at h
    cases cal <;> simp only at h ⊢
    case value fn =>
      rw [h fn (by simp)]
      have hm : args.toList.map (evalA tm) = args.toList.map (evalA tm') := List.map_congr_left fun x hx => h x (by simp at hx ⊢; exact .inr hx)
      rw [hm]
    all_goals exact h2
  all_goals exact h2
theorem evalA_put {dst : Option Tmp} {v : AV} {x : Operand} (h : ∀ d, dst = some d → x ≠ .tmp d) : evalA (putA tm dst v) x = evalA tm x := by
  cases dst with
  | none => rfl
  | some d =>
    cases x with
    | tmp t =>
      have hne : d ≠ t := fun e => h d rfl (by rw [e])
      show (tm.set d v).getD t .any = tm.getD t .any
      rw [List.getD_eq_getElem?_getD, List.getD_eq_getElem?_getD, List.getElem?_set_ne hne]
    | const v => rfl
    | global g => rfl
    | func f => rfl
theorem stepA_put {dst : Option Tmp} {v : AV} (hc : clsO T o ≤ 1) (h : ∀ d, dst = some d → d ∉ o.looksAt ops) : stepA T (putA tm dst v) M o = stepA T tm M o :=
  stepA_congr hc fun x hx => evalA_put fun d hd hxd => h d hd (by
    subst hxd
    exact List.mem_append_left _ (List.mem_filterMap.2 ⟨.tmp d, by simpa using hx, rfl⟩))
theorem liftT_put {d : Nat} {v : AV} {t : Nat} (h : d ≠ t) : liftT (tm.set d v) M t = ((liftT tm M t).1.set d v, (liftT tm M t).2) := by
  unfold liftT
  rw [List.getElem?_set_ne h]
  cases tm[t]? with
  | none => rfl
  | some x =>
    simp only
    cases liftV M x with
    | none => rfl
    | some p => simp only; rw [List.set_comm _ _ h]
theorem liftArgs_put {d : Nat} {v : AV} : ∀ (l : List MTy) (xs : List Operand) (tm : List AV) (M : Mem), (∀ x ∈ xs, x ≠ .tmp d) → liftArgs l xs (tm.set d v) M = ((liftArgs l xs tm M).1.set d v, (liftArgs l xs tm M).2)
  | [], _, _, _, _ => by unfold liftArgs; rfl
  | y :: l, [], tm, M, _ => by
    have e : ∀ tm, liftArgs (y :: l) [] tm M = (tm, M) := fun tm => by cases y <;> rfl
    rw [e, e]
  | y :: l, x :: xs, tm, M, h => by
    have h' : ∀ x ∈ xs, x ≠ .tmp d := fun x hx => h x (List.mem_cons_of_mem _ hx)
    have go : ∀ t, d ≠ t → (∀ tm, liftArgs (y :: l) (x :: xs) tm M = liftArgs l xs (liftT tm M t).1 (liftT tm M t).2) → liftArgs (y :: l) (x :: xs) (tm.set d v) M = ((liftArgs (y :: l) (x :: xs) tm M).1.set d v, (liftArgs (y :: l) (x :: xs) tm M).2) := fun t ht e => by
      rw [e, e, liftT_put ht]
      exact liftArgs_put l xs _ _ h'
    have stay : (∀ tm, liftArgs (y :: l) (x :: xs) tm M = liftArgs l xs tm M) → liftArgs (y :: l) (x :: xs) (tm.set d v) M = ((liftArgs (y :: l) (x :: xs) tm M).1.set d v, (liftArgs (y :: l) (x :: xs) tm M).2) := fun e => by
      rw [e, e]
      exact liftArgs_put l xs _ _ h'
    have hx := h x List.mem_cons_self
    cases y <;> cases x <;> first
      | exact stay fun tm => rfl
      | exact go _ (fun q => hx (by rw [q])) fun tm => rfl
theorem preG_put {d : Nat} {v : AV} (h : ∀ x ∈ o.op.operands, x ≠ .tmp d) : preG T (tm.set d v) M o = ((preG T tm M o).1.set d v, (preG T tm M o).2) := by
  unfold preG
  cases ho : o.op <;> simp only [ho, Op.operands] at h ⊢
  case store t p x =>
    cases p with
    | tmp p => exact liftT_put fun q => h (.tmp p) (by simp) (by rw [q])
    | const v => rfl
    | global g => rfl
    | func f => rfl
  case call c =>
    obtain ⟨cal, args, ts⟩ := c
    simp only [Call.operands] at h
    cases cal <;> simp only at h ⊢
    case builtin b =>
      cases b <;> simp only
      case append =>
        cases ha : args.toList with
        | nil => rfl
        | cons x xs =>
          have hx := h x (by simp; exact Array.mem_toList_iff.1 (by rw [ha]; exact List.mem_cons_self))
          cases x with
          | tmp t => exact liftT_put fun q => hx (by rw [q])
          | const v => rfl
          | global g => rfl
          | func f => rfl
    case value fn =>
      cases fn with
      | func f =>
        simp only
        cases findM f T.G with
        | none => rfl
        | some e => exact liftArgs_put _ _ _ _ fun x hx => h x (by simp at hx ⊢; exact .inr hx)
      | tmp t => rfl
      | const v => rfl
      | global g => rfl
theorem step0_congr {tm' : List AV} (h : ∀ x ∈ o.op.operands, evalA tm x = evalA tm' x) : step0 T tm M o = step0 T tm' M o := by
  have h2 := opA_congr (P := P) (M := M) h
  unfold step0
  cases ho : o.op <;> simp only [ho, Op.operands] at h ⊢
  case call c =>
    obtain ⟨cal, args, ts⟩ := c
    simp only [Call.operands] at h
    cases cal <;> simp only at h ⊢
    case value fn =>
      rw [h fn (by simp)]
      have hm : args.toList.map (evalA tm) = args.toList.map (evalA tm') := List.map_congr_left fun x hx => h x (by simp at hx ⊢; exact .inr hx)
      rw [hm]
    all_goals exact h2
  all_goals exact h2
theorem cutS_congr {tm' : List AV} (h : ∀ x ∈ o.op.operands, evalA tm x = evalA tm' x) : cutS (P := P) tm M o = cutS (P := P) tm' M o := by
  unfold cutS
  cases ho : o.op <;> simp only [ho, Op.operands] at h ⊢
  case slice t x lo hi mx =>
    cases mx with
    | some m => rfl
    | none =>
      simp only
      rw [h x (by simp)]
      have e1 : lo.map (evalA tm) = lo.map (evalA tm') := by
        cases lo with
        | none => rfl
        | some y => exact congrArg some (h y (by simp))
      have e2 : hi.map (evalA tm) = hi.map (evalA tm') := by
        cases hi with
        | none => rfl
        | some y => exact congrArg some (h y (by simp))
      rw [e1, e2]
  case call c =>
    obtain ⟨cal, args, ts⟩ := c
    simp only [Call.operands] at h
    cases cal <;> simp only at h ⊢
    case builtin b =>
      cases b <;> simp only
      case clear =>
        cases hts : ts.toList with
        | nil => rfl
        | cons t l =>
          cases l with
          | cons _ _ => rfl
          | nil =>
            cases ha : args.toList with
            | nil => rfl
            | cons x xs =>
              cases xs with
              | cons _ _ => rfl
              | nil => simp only; rw [h x (by simp; exact Array.mem_toList_iff.1 (by rw [ha]; exact List.mem_cons_self))]
theorem stepA_putAny {dst : Option Tmp} {v : AV} (h : ∀ d, dst = some d → d ∉ o.looksAt ops) : stepA T (putA tm dst v) M o = stepA T tm M o := by
  cases dst with
  | none => rfl
  | some d =>
    have hd : ∀ x ∈ o.op.operands, x ≠ .tmp d := fun x hx hxd => h d rfl (by
      subst hxd
      exact List.mem_append_left _ (List.mem_filterMap.2 ⟨.tmp d, by simpa using hx, rfl⟩))
    have ev : ∀ tm : List AV, ∀ x ∈ o.op.operands, evalA (tm.set d v) x = evalA tm x := fun tm x hx =>
      evalA_put (dst := some d) (v := v) fun e he hxd => hd x hx (by rw [hxd, Option.some.inj he])
    show stepA T (tm.set d v) M o = _
    unfold stepA
    cases Nat.beq (clsO T o) 2 with
    | false => exact step0_congr (ev tm)
    | true =>
      cases isCut T o with
      | true => exact cutS_congr (ev tm)
      | false =>
        show (let g := preG T (tm.set d v) M o; let r := step0 T g.1 g.2 o; (⟨r.need, r.val, closeAll r.mem⟩ : OR)) = _
        rw [preG_put hd]
        simp only
        rw [step0_congr (ev _)]
        rfl
theorem pure_step {M' : Mem} (h : pureO o = true) : (stepA T tm M o).need = (stepA T tm M' o).need ∧ (stepA T tm M o).val = (stepA T tm M' o).val := by
  unfold pureO at h
  cases ho : o.op <;> rw [ho] at h <;> try cases h
  have e : ∀ M, stepA T tm M o = step0 T tm M o := fun M => stepA_0 (by unfold clsO isCut cls0; rw [ho]; exact Nat.zero_le _)
  rw [e, e]
  unfold step0
  rw [ho]
  show (opA P tm M o).need = (opA P tm M' o).need ∧ (opA P tm M o).val = (opA P tm M' o).val
  unfold opA
  rw [ho]
  exact ⟨rfl, rfl⟩
/-- is it wanted? -/
def wantA (ops : Array Oper) (o : Oper) (tm : List AV) : Option Bool :=
  match o.guard with
  | none => some true
  | some (j, want) => match (ops[j]?).bind (·.dst) with
    | some d => match tm.getD d .any with
      | .w (.c (.bool g)) => some (g == want)
      | .tp _ => some false
      | _ => none
    | none => none
theorem wantA_put {dst : Option Tmp} {v : AV} (h : ∀ d, dst = some d → d ∉ o.looksAt ops) : wantA ops o (putA tm dst v) = wantA ops o tm := by
  unfold wantA
  cases hg : o.guard with
  | none => rfl
  | some gw =>
    obtain ⟨j, want⟩ := gw
    simp only
    cases ht : (ops[j]?).bind (·.dst) with
    | none => rfl
    | some t =>
      have : (putA tm dst v).getD t .any = tm.getD t .any := by
        cases dst with
        | none => rfl
        | some d =>
          have hne : d ≠ t := fun e => h d rfl (by subst e; simp [Oper.looksAt, hg, ht])
          show (tm.set d v).getD t .any = tm.getD t .any
          rw [List.getD_eq_getElem?_getD, List.getD_eq_getElem?_getD, List.getElem?_set_ne hne]
      simp only [this]
theorem putA_comm {x y : Option Tmp} (v u : AV) (h : ∀ d, x = some d → y ≠ some d) : putA (putA tm x v) y u = putA (putA tm y u) x v := by
  cases x with
  | none => rfl
  | some d =>
    cases y with
    | none => rfl
    | some e =>
      have hne : d ≠ e := fun q => h d rfl (by rw [q])
      show (tm.set d v).set e u = (tm.set e u).set d v
      rw [List.set_comm _ _ hne]
/-- operation number 'i' comes up -/
def qA (T : Tab P) (ops : Array Oper) (i : Nat) (K : List AV → Mem → Prop) (tm : List AV) (M : Mem) : Prop :=
  match ops[i]? with
  | none => K tm M
  | some o => match wantA ops o tm with
    | some true => (stepA T tm M o).need ∧ K (putA tm o.dst (stepA T tm M o).val) (stepA T tm M o).mem
    | some false => K (putA tm o.dst undefA) M
    | none => False
theorem qA_mono {i : Nat} {K K' : List AV → Mem → Prop} (h : ∀ a m, K a m → K' a m) (hh : qA T ops i K tm M) : qA T ops i K' tm M := by
  unfold qA at *
  split
  · rename_i ho; simp only [ho] at hh; exact h _ _ hh
  · rename_i o ho
    simp only [ho] at hh
    split
    · rename_i hw; simp only [hw] at hh; exact ⟨hh.1, h _ _ hh.2⟩
    · rename_i hw; simp only [hw] at hh; exact h _ _ hh
    · rename_i hw; simp only [hw] at hh
/-- whatever order is picked from here on -/
def anyA (T : Tab P) (ops : Array Oper) (Q : List AV → Mem → Prop) : Nat → Array Bool → List AV → Mem → Prop
  | 0, listed, tm, M => Region.ready .any ops listed = [] ∧ Q tm M
  | fuel + 1, listed, tm, M => (Region.ready .any ops listed = [] → Q tm M) ∧ ∀ i ∈ Region.ready .any ops listed, qA T ops i (anyA T ops Q fuel (listed.setIfInBounds i true)) tm M
/-- a reading operation yields v -/
def Yld (T : Tab P) (ops : Array Oper) (o : Oper) (v : AV) (tm : List AV) (M : Mem) : Prop :=
  (wantA ops o tm = some true ∧ (stepA T tm M o).need ∧ v = (stepA T tm M o).val) ∨ (wantA ops o tm = some false ∧ v = undefA)
theorem Yld.qA {i : Nat} {v : AV} (hi : ops[i]? = some o) (hc : clsO T o = 0) (hy : Yld T ops o v tm M) {K : List AV → Mem → Prop} (h : K (putA tm o.dst v) M) : qA T ops i K tm M := by
  unfold Go.Proofs.YtigebfhekmjhmaaGreat.qA
  simp only [hi]
  rcases hy with ⟨hw, hv, rfl⟩ | ⟨hw, rfl⟩
  · simp only [hw]; exact ⟨hv, by rw [(stepA_mono [] hc hv).2.2.2]; exact h⟩
  · simp only [hw]; exact h
theorem qA_put {j : Nat} {oi oj : Oper} {v : AV} (hj : ops[j]? = some oj) (hap : oi.apart ops oj = true) (hci : clsO T oi = 0) (hcj : clsO T oj ≤ 1 ∨ pureO oi = true) {K : List AV → Mem → Prop} (hy : Yld T ops oi v tm M) (h : qA T ops j K (putA tm oi.dst v) M) :
    qA T ops j (fun a' m' => Yld T ops oi v a' m' ∧ K (putA a' oi.dst v) m') tm M := by
  obtain ⟨h1, h2, h3⟩ := Oper.apart_spec hap
  have keep : ∀ u N, Yld T ops oi v (putA tm oj.dst u) (M ++ N) := fun u N => by
    unfold Yld
    rw [wantA_put h3, stepA_put (by omega) h3]
    rcases hy with ⟨hw, hv, rfl⟩ | hy
    · obtain ⟨m1, m2, _, _⟩ := stepA_mono N hci hv
      exact .inl ⟨hw, m1, m2.symm⟩
    · exact .inr hy
  have keepP : pureO oi = true → ∀ u M', Yld T ops oi v (putA tm oj.dst u) M' := fun hp u M' => by
    unfold Yld
    rw [wantA_put h3, stepA_putAny h3]
    rcases hy with ⟨hw, hv, rfl⟩ | hy
    · obtain ⟨m1, m2⟩ := pure_step (T := T) (tm := tm) (M := M) (M' := M') hp
      exact .inl ⟨hw, by rw [← m1]; exact hv, m2⟩
    · exact .inr hy
  unfold qA at *
  simp only [hj] at *
  rw [wantA_put h1, stepA_putAny h1] at h
  split
  · rename_i hw
    simp only [hw] at h
    refine ⟨h.1, ?_, by rw [← putA_comm _ _ h2]; exact h.2⟩
    rcases hcj with hcj | hp
    · obtain ⟨N, hN⟩ := stepA_ext hcj h.1
      rw [hN]; exact keep _ N
    · exact keepP hp _ _
  · rename_i hw
    simp only [hw] at h
    exact ⟨by have := keep undefA []; rwa [List.append_nil] at this, by rw [← putA_comm _ _ h2]; exact h⟩
  · rename_i hw
    simp only [hw] at h
/-- what is listed has all that it waits for listed -/
def Closed (ops : Array Oper) (listed : Array Bool) : Prop := ∀ (j : Nat) (o : Oper), ops[j]? = some o → listed.getD j false = true → ∀ e ∈ o.after, Region.binds .any e = true → listed.getD e.on false = true
theorem closed_dep {listed : Array Bool} (hcl : Closed ops listed) {i : Nat} : ∀ (n j : Nat), listed.getD j false = true → depT ops n i j = true → listed.getD i false = true
  | 0, _, _, h => by cases h
  | n + 1, j, hj, h => by
    unfold depT at h
    cases ho : ops[j]? with
    | none => rw [ho] at h; cases h
    | some o =>
      rw [ho] at h
      obtain ⟨e, he, hb⟩ := Array.any_eq_true'.1 h
      rw [Bool.and_eq_true, Bool.or_eq_true] at hb
      have := hcl j o ho hj e he hb.1
      rcases hb.2 with h2 | h2
      · rw [← Nat.eq_of_beq_eq_true h2]; exact this
      · exact closed_dep hcl n e.on this (Bool.and_eq_true_iff.1 h2).2
theorem ready_dep {listed : Array Bool} (hcl : Closed ops listed) {i j : Nat} (hj : j ∈ Region.ready .any ops listed) {n : Nat} (h : depT ops n i j = true) : listed.getD i false = true := by
  cases n with
  | zero => cases h
  | succ n =>
    obtain ⟨_, o, ho, hall⟩ := mem_ready.1 hj
    unfold depT at h
    rw [ho] at h
    obtain ⟨e, he, hb⟩ := Array.any_eq_true'.1 h
    rw [Bool.and_eq_true, Bool.or_eq_true] at hb
    have := hall e he hb.1
    rcases hb.2 with h2 | h2
    · rw [← Nat.eq_of_beq_eq_true h2]; exact this
    · exact closed_dep hcl n e.on this (Bool.and_eq_true_iff.1 h2).2
theorem closed_add {listed : Array Bool} (hcl : Closed ops listed) {i : Nat} (hi : i ∈ Region.ready .any ops listed) : Closed ops (listed.setIfInBounds i true) := fun j o ho hj e he hb => by
  by_cases hji : i = j
  · subst hji
    obtain ⟨_, o', ho', hall⟩ := mem_ready.1 hi
    obtain rfl : o' = o := Option.some.inj (ho'.symm.trans ho)
    exact getD_set_true (hall e he hb)
  · rw [getD_set_ne false hji] at hj
    exact getD_set_true (hcl j o ho hj e he hb)
theorem getD_tf {listed : Array Bool} {i : Nat} (h : listed.getD i true = false) : listed.getD i false = false := by
  rcases Nat.lt_or_ge i listed.size with h' | h'
  · simp [h'] at h ⊢; exact h
  · simp [Array.getElem?_eq_none h']
theorem anyA_read {Q : List AV → Mem → Prop} {i : Nat} {oi : Oper} {v : AV} (hi : ops[i]? = some oi) (hci : clsO T oi = 0) :
    ∀ (fuel : Nat) (listed : Array Bool) (tm : List AV) (M : Mem), Closed ops listed →
      (∀ j oj, ops[j]? = some oj → j ≠ i → listed.getD j true = false → depT ops ops.size i j = false → oi.apart ops oj = true ∧ (clsO T oj ≤ 1 ∨ pureO oi = true)) →
      i ∈ Region.ready .any ops listed → Yld T ops oi v tm M →
      anyA T ops Q fuel (listed.setIfInBounds i true) (putA tm oi.dst v) M → anyA T ops Q (fuel + 1) listed tm M := by
  intro fuel
  induction fuel with
  | zero =>
    intro listed tm M _ _ hr hy H
    refine ⟨fun h => (by rw [h] at hr; cases hr), fun j hj => ?_⟩
    by_cases hji : j = i
    · subst hji; exact hy.qA hi hci H
    · have := ready_mono hj hji
      rw [H.1] at this
      cases this
  | succ fuel ih =>
    intro listed tm M hcl hfree hr hy H
    refine ⟨fun h => (by rw [h] at hr; cases hr), fun j hj => ?_⟩
    by_cases hji : j = i
    · subst hji; exact hy.qA hi hci H
    · have h1 := H.2 j (ready_mono hj hji)
      obtain ⟨hjun, oj, hoj, hall⟩ := mem_ready.1 hj
      have hnd : depT ops ops.size i j = false := by
        cases hd : depT ops ops.size i j with
        | false => rfl
        | true =>
          have h2 := ready_dep hcl hj hd
          rw [getD_tf (mem_ready.1 hr).1] at h2
          cases h2
      obtain ⟨hap, hcj⟩ := hfree j oj hoj hji hjun hnd
      have h2 := qA_put hoj hap hci hcj hy h1
      have hfree' : ∀ k ok, ops[k]? = some ok → k ≠ i → (listed.setIfInBounds j true).getD k true = false → depT ops ops.size i k = false → oi.apart ops ok = true ∧ (clsO T ok ≤ 1 ∨ pureO oi = true) := fun k ok hk hki hun hno => by
        refine hfree k ok hk hki ?_ hno
        by_cases hjk : j = k
        · subst hjk; exact hjun
        · rw [getD_set_ne true hjk] at hun; exact hun
      refine qA_mono (fun a' m' h3 => ih (listed.setIfInBounds j true) a' m' (closed_add hcl hj) hfree' (ready_mono hr (Ne.symm hji)) h3.1 ?_) h2
      rw [Array.setIfInBounds_comm _ _ hji]
      exact h3.2
theorem anyA_fuel {Q : List AV → Mem → Prop} : ∀ (n k : Nat) (listed : Array Bool) (tm : List AV) (M : Mem), anyA T ops Q n listed tm M → n ≤ k → anyA T ops Q k listed tm M
  | 0, 0, _, _, _, h, _ => h
  | 0, k + 1, listed, tm, M, h, _ => ⟨fun _ => h.2, fun i hi => by rw [h.1] at hi; cases hi⟩
  | n + 1, 0, _, _, _, _, hk => by omega
  | n + 1, k + 1, listed, tm, M, h, hk => ⟨h.1, fun i hi => qA_mono (fun a m h => anyA_fuel n k _ a m h (by omega)) (h.2 i hi)⟩
theorem vcOp1_q {i : Nat} {K : List AV → Mem → Prop} (h : vcOp1 T ops i tm M K) : qA T ops i K tm M := by
  unfold vcOp1 at h
  cases ho : ops[i]? with
  | none => rw [ho] at h; exact h.elim
  | some o =>
    rw [ho] at h
    simp only at h
    unfold qA
    simp only [ho]
    have wnt : ∀ j want d, o.guard = some (j, want) → (ops[j]?).bind (·.dst) = some d → wantA ops o tm = (match tm.getD d .any with
        | .w (.c (.bool g)) => some (g == want)
        | .tp _ => some false
        | _ => none) := fun j want d hg hd => by
      unfold wantA
      rw [hg]
      simp only [hd]
    cases hgd : o.guard with
    | none =>
      rw [hgd] at h
      have : wantA ops o tm = some true := by unfold wantA; rw [hgd]
      simp only [this]
      exact ⟨(andR_elim h).1, genG_elim (andR_elim h).2⟩
    | some jw =>
      obtain ⟨j, want⟩ := jw
      rw [hgd] at h
      simp only at h
      cases hd : (ops[j]?).bind (·.dst) with
      | none => rw [hd] at h; exact h.elim
      | some d =>
        rw [hd] at h
        simp only at h
        have wn := wnt j want d hgd hd
        split at h
        · rename_i g hq
          rw [hq] at wn
          have hs : tm.set d (.c (.bool g)) = tm := set_same hq (by simp)
          cases want <;> cases g <;> simp only [hs] at h wn
          · rw [wn]; exact ⟨(andR_elim h).1, genG_elim (andR_elim h).2⟩
          · rw [wn]; exact h
          · rw [wn]; exact h
          · rw [wn]; exact ⟨(andR_elim h).1, genG_elim (andR_elim h).2⟩
        · rename_i l' hq
          rw [hq] at wn
          rw [wn]
          exact h
        · exact h.elim

theorem vcOpsD_any {Q : List AV → Mem → Prop} : ∀ (t : Tr) (listed : Array Bool) (tm : List AV) (M : Mem), Closed ops listed → vcOpsD T ops t tm M Q →
    (okA T ops t false listed = true → anyA T ops Q t.len listed tm M) ∧
      (okA T ops t true listed = true → ∀ k, t.len ≤ k + 1 → ∀ j ∈ t.heads, j ∈ Region.ready .any ops listed ∧ qA T ops j (anyA T ops Q k (listed.setIfInBounds j true)) tm M)
  | .nil, _, _, _, _, h => ⟨fun hB => ⟨by simpa [okA] using hB, h⟩, fun hB => by simp [okA] at hB⟩
  | .alt t u, listed, tm, M, hcl, h => by
    obtain ⟨ht, hu⟩ := h
    have it := (vcOpsD_any t listed tm M hcl ht).2
    have iu := (vcOpsD_any u listed tm M hcl hu).2
    have both : okA T ops t true listed = true → okA T ops u true listed = true → ∀ k, (Tr.alt t u).len ≤ k + 1 → ∀ j ∈ (Tr.alt t u).heads, j ∈ Region.ready .any ops listed ∧ qA T ops j (anyA T ops Q k (listed.setIfInBounds j true)) tm M := fun h1 h2 k hk j hj => by
      have hk' : max t.len u.len ≤ k + 1 := hk
      rcases List.mem_append.1 hj with hj | hj
      · exact it h1 k (by omega) j hj
      · exact iu h2 k (by omega) j hj
    refine ⟨fun hB => ?_, fun hB => ?_⟩
    · unfold okA at hB
      simp only [Bool.false_or, Bool.and_eq_true] at hB
      have hall : ∀ i ∈ Region.ready .any ops listed, i ∈ (Tr.alt t u).heads := fun i hi => by
        obtain ⟨k, hk, hb⟩ := List.any_eq_true.1 (List.all_eq_true.1 hB.1 i hi)
        rw [← Nat.eq_of_beq_eq_true hb]; exact hk
      cases hn : (Tr.alt t u).len with
      | zero =>
        exfalso
        cases hh : (Tr.alt t u).heads with
        | nil =>
          have h0 : ∀ t : Tr, ∀ l, okA T ops t true l = true → t.heads ≠ [] := fun t => by
            induction t with
            | nil => intro l h; simp [okA] at h
            | one i t _ => intro l _; simp [Tr.heads]
            | alt t u ih _ => intro l h; simp only [okA, Bool.true_or, Bool.true_and, Bool.and_eq_true] at h; simp [Tr.heads, ih l h.1]
          exact h0 (.alt t u) listed (by unfold okA; simp [hB.2.1, hB.2.2]) hh
        | cons j js =>
          have h0 : ∀ t : Tr, t.len = 0 → t.heads = [] := fun t => by
            induction t with
            | nil => intro _; rfl
            | one i t _ => intro h; exact absurd h (Nat.succ_ne_zero _)
            | alt t u ih ih2 =>
              intro h
              have h' : max t.len u.len = 0 := h
              simp [Tr.heads, ih (by omega), ih2 (by omega)]
          rw [h0 _ hn] at hh
          cases hh
      | succ k =>
        have hb := both hB.2.1 hB.2.2 k (by omega)
        refine ⟨fun h0 => ?_, fun j hj => (hb j (hall j hj)).2⟩
        cases hh : (Tr.alt t u).heads with
        | nil =>
          exfalso
          have h0 : ∀ t : Tr, ∀ l, okA T ops t true l = true → t.heads ≠ [] := fun t => by
            induction t with
            | nil => intro l h; simp [okA] at h
            | one i t _ => intro l _; simp [Tr.heads]
            | alt t u ih _ => intro l h; simp only [okA, Bool.true_or, Bool.true_and, Bool.and_eq_true] at h; simp [Tr.heads, ih l h.1]
          exact h0 (.alt t u) listed (by unfold okA; simp [hB.2.1, hB.2.2]) hh
        | cons j js =>
          have := (hb j (by rw [hh]; exact List.mem_cons_self)).1
          rw [h0] at this
          cases this
    · unfold okA at hB
      simp only [Bool.true_or, Bool.true_and, Bool.and_eq_true] at hB
      exact both hB.1 hB.2
  | .one i l, listed, tm, M, hcl, h => by
    have hq : qA T ops i (fun tm M => vcOpsD T ops l tm M Q) tm M := vcOp1_q h
    have hrd : ∀ b, okA T ops (.one i l) b listed = true → i ∈ Region.ready .any ops listed ∧ ((b || freeA T ops listed i) = true) ∧ okA T ops l false (listed.setIfInBounds i true) = true := fun b hB => by
      unfold okA at hB
      rw [Bool.and_eq_true, Bool.and_eq_true] at hB
      obtain ⟨hr, hf, hB'⟩ := hB
      obtain ⟨k, hk, hb⟩ := List.any_eq_true.1 hr
      obtain rfl := Nat.eq_of_beq_eq_true hb; exact ⟨hk, hf, hB'⟩
    refine ⟨fun hB => ?_, fun hB k hk j hj => ?_⟩
    · obtain ⟨hr, hf, hB'⟩ := hrd false hB
      rw [Bool.false_or] at hf
      have ih := fun tm M h => (vcOpsD_any (Q := Q) l (listed.setIfInBounds i true) tm M (closed_add hcl hr) h).1 hB'
      cases ho : ops[i]? with
      | none =>
        obtain ⟨_, o, ho', _⟩ := mem_ready.1 hr
        rw [ho] at ho'
        cases ho'
      | some o =>
        have hfs : ∀ j oj, ops[j]? = some oj → j ≠ i → listed.getD j true = false → depT ops ops.size i j = false → clsO T o = 0 ∧ o.apart ops oj = true ∧ (clsO T oj ≤ 1 ∨ pureO o = true) := fun j oj hj hji hun hnd => by
          unfold freeA at hf
          rw [ho] at hf
          have h1 := List.all_eq_true.1 hf j (List.mem_range.2 (Array.getElem?_eq_some_iff.1 hj).1)
          have hb : Nat.beq j i = false := by
            cases hb : Nat.beq j i with
            | false => rfl
            | true => exact absurd (Nat.eq_of_beq_eq_true hb) hji
          rw [hb, hun, hnd, hj] at h1
          simp only [Bool.false_or, Bool.or_false, Bool.and_eq_true, Bool.or_eq_true] at h1
          exact ⟨Nat.eq_of_beq_eq_true h1.1, h1.2.1, h1.2.2.imp Nat.le_of_ble_eq_true id⟩
        by_cases hc : clsO T o = 0
        · -- it reads
          unfold qA at hq
          simp only [ho] at hq
          have hfree := fun j oj hj hji hun hnd => (hfs j oj hj hji hun hnd).2
          split at hq
          · rename_i hw
            have hm := (stepA_mono (T := T) [] hc hq.1).2.2.2
            rw [hm] at hq
            exact anyA_read ho hc l.len listed tm M hcl hfree hr (.inl ⟨hw, hq.1, rfl⟩) (ih _ _ hq.2)
          · rename_i hw
            exact anyA_read ho hc l.len listed tm M hcl hfree hr (.inr ⟨hw, rfl⟩) (ih _ _ hq)
          · exact hq.elim
        · -- it is the only one that may come
          refine ⟨fun h0 => (by rw [h0] at hr; cases hr), fun j hj => ?_⟩
          have hji : j = i := by
            by_cases hji : j = i
            · exact hji
            · obtain ⟨hjun, oj, hoj, _⟩ := mem_ready.1 hj
              cases hd : depT ops ops.size i j with
              | false => exact absurd (hfs j oj hoj hji hjun hd).1 hc
              | true =>
                have h2 := ready_dep hcl hj hd
                rw [getD_tf (mem_ready.1 hr).1] at h2
                cases h2
          subst hji
          exact qA_mono (fun a m h => ih a m h) hq
    · obtain rfl : j = i := by simpa [Tr.heads] using hj
      obtain ⟨hr, _, hB'⟩ := hrd true hB
      refine ⟨hr, qA_mono (fun a m h => anyA_fuel _ _ _ _ _ ((vcOpsD_any (Q := Q) l (listed.setIfInBounds j true) a m (closed_add hcl hr) h).1 hB') ?_) hq⟩
      have hk' : l.len + 1 ≤ k + 1 := hk
      omega
theorem closed_none (n : Nat) : Closed ops (Array.replicate n false) := fun j o _ hj => by
  rcases Nat.lt_or_ge j n with h | h
  · simp [h] at hj
  · simp [Nat.not_lt.2 h] at hj
theorem altT_len {k : Nat} : ∀ (l : List Tr), (∀ t ∈ l, t.len ≤ k) → (altT l).len ≤ k
  | [], _ => Nat.zero_le _
  | [t], h => h t List.mem_cons_self
  | t :: u :: l, h => by
    have h1 := h t List.mem_cons_self
    have h2 := altT_len (u :: l) (fun t ht => h t (List.mem_cons_of_mem _ ht))
    show max t.len (altT (u :: l)).len ≤ k
    omega
theorem schedA_len : ∀ (n : Nat) (listed : Array Bool), (schedA T ops n listed).len ≤ n
  | 0, _ => Nat.le_refl _
  | n + 1, listed => by
    unfold schedA
    split
    · rename_i i _
      have := schedA_len n (listed.setIfInBounds i true)
      show (schedA T ops n _).len + 1 ≤ _
      omega
    · refine altT_len _ fun t ht => ?_
      obtain ⟨i, _, rfl⟩ := List.mem_map.1 ht
      have := schedA_len n (listed.setIfInBounds i true)
      show (schedA T ops n _).len + 1 ≤ _
      omega
theorem any_of_A {Q : List AV → Mem → Prop} {Q' : Exit → Act → World → Prop} {W0 : World} {E0 : Env} (hT : TabOk X W0 E0 T) (hQ : ∀ tm M a W E, Q tm M → RepA X tm M a W E → Since T W0 E0 W E M → Q' .normal a W) : ∀ (fuel : Nat) (listed : Array Bool) (tm : List AV) (M : Mem) (a : Act) (W : World) (E : Env),
    RepA X tm M a W E → Since T W0 E0 W E M → anyA T ops Q fuel listed tm M → wpAny P .any ops Q' fuel listed a W
  | 0, _, _, _, _, _, _, hr, hg, h => ⟨h.1, hQ _ _ _ _ _ h.2 hr hg⟩
  | fuel + 1, listed, tm, M, a, W, E, hr, hg, h => by
    refine ⟨fun h0 => hQ _ _ _ _ _ (h.1 h0) hr hg, fun i hi => ?_⟩
    have hh := h.2 i hi
    unfold qA at hh
    unfold wpOp
    cases ho : ops[i]? with
    | none => rw [ho] at hh; exact any_of_A hT hQ fuel _ _ _ _ _ _ hr hg hh
    | some o =>
      rw [ho] at hh
      simp only at hh ⊢
      have wnt : ∀ b, wantA ops o tm = some b → Region.wanted o (yielded ops a.tmps) = b := fun b hb => by
        unfold wantA at hb
        unfold Region.wanted
        cases hgd : o.guard with
        | none => rw [hgd] at hb; exact Option.some.inj hb
        | some jw =>
          obtain ⟨j, want⟩ := jw
          rw [hgd] at hb
          simp only at hb ⊢
          cases hd : (ops[j]?).bind (·.dst) with
          | none => rw [hd] at hb; cases hb
          | some d =>
            rw [hd] at hb
            simp only at hb
            have hd' : (ops.toList[j]?).bind (·.dst) = some d := by rw [Array.getElem?_toList]; exact hd
            split at hb
            · rename_i g hq
              have := yielded_of hd' hr.tmps hq
              rw [show yielded ops a.tmps j = some g from this, ← Option.some.inj hb]
              cases g <;> cases want <;> rfl
            · rename_i l hq
              have := yielded_tp hd' hr.tmps hq
              rw [show yielded ops a.tmps j = none from this, ← Option.some.inj hb]
              rfl
            · cases hb
      split at hh
      · rename_i hw
        rw [if_pos (wnt _ hw)]
        refine .inl (stepA_sound hT hg.g hr.mem hr.tmps hh.1 _ _ fun u W' E' g m r hv => ?_)
        exact any_of_A hT hQ fuel _ _ _ _ _ _ ⟨r, putA_rep (hr.tmps.mono g m hr.mem.len) hv, by rw [put_defers]; exact hr.dfr⟩ (hg.step g m) hh.2
      · rename_i hw
        rw [if_neg (by rw [wnt _ hw]; exact Bool.false_ne_true)]
        exact any_of_A hT hQ fuel _ _ _ _ _ _ (hr.skip _) hg hh
      · exact hh.elim
end
end Go.Proofs.YtigebfhekmjhmaaGreat
