/-
  What well-formed arguments give, and a contract out of a function's condition.
  Plain: no program. No condition.
-/
import Derived.Test.YtkompmgleojmlaaDoorEBmM
import Derived.Test.YtkompmgleojmlaaDoorETypes
set_option linter.unusedSimpArgs false
set_option linter.unusedVariables false
namespace Go.Proofs.YtkompmgleojmlaaDoor
open Go.ChangeShapes Go.WideShapes Go.ChangeAt Go.RowKit Go.Joins Go.Deep
open GoRep (rep bulk)

def AllL {α : Type} (p : α → Prop) (l : List α) : Prop := ∀ x ∈ l, p x
def WfT : (t : Ty) → t.den → Prop
  | .int k, x => (Lit.int k x).wf = true
  | .bool, _ => True
  | .str, s => ByteArray.size s ≤ maxLen
  | .opq, _ => True
  | .prod a b, x => WfT a x.1 ∧ WfT b x.2
  | .list a, xs => List.length (α := a.den) xs ≤ maxLen ∧ AllL (α := a.den) (WfT a) xs
def WfC : AC → Prop
  | .int k x => (Lit.int k x).wf = true
  | .str s => s.size ≤ maxLen
  | .hs .no t xs => xs.length ≤ maxLen ∧ AllL (WfT t) xs
  | .ep .no t xs _ _ => AllL (WfT t) xs
  | _ => True
def WfL : List AC → Prop
  | [] => True
  | c :: l => WfC c ∧ WfL l
def WfW : AW → Prop
  | .c a => WfC a
  | .ag l => WfL l
def WfA : List AW → Prop
  | [] => True
  | x :: l => WfW x ∧ WfA l
theorem row_wf {α : Type} [GoRep α] {W : World} {p : α → Prop} (hp : ∀ x cs F, rep W x cs F → p x) {b : Nat} : ∀ {xs : List α} {off : Nat} {G : List Nat}, RowRep W b off xs G → ∀ x ∈ xs, p x
  | [], _, _, _, x, hx => by simp at hx
  | y :: xs, _, _, ⟨cs, G1, G2, h1, _, h3, _⟩, x, hx => by
    rcases List.mem_cons.1 hx with rfl | hx
    · exact hp _ _ _ h1
    · exact row_wf hp h3 x hx
theorem rep_wf {W : World} : ∀ (t : Ty) {x : t.den} {cs : List Value} {F : List Nat}, rep W x cs F → WfT t x
  | .int _, _, _, _, h => h.2.1
  | .bool, _, _, _, _ => trivial
  | .str, _, _, _, h => h.2.1
  | .opq, _, _, _, _ => trivial
  | .prod a b, _, _, _, ⟨_, _, _, _, h1, h2, _, _⟩ => ⟨rep_wf a h1, rep_wf b h2⟩
  | .list a, xs, _, _, ⟨A, c, _, h1, h2, h3⟩ => by
    refine ⟨Nat.le_trans h1 h2, fun x hx => ?_⟩
    rcases h3 with ⟨rfl, _⟩ | ⟨_, b, off, G, _, _, hr⟩
    · simp at hx
    · exact row_wf (fun x cs F h => rep_wf a h) hr x hx
section
variable {P : Program} {X : List Nat} {W : World} {E : Env} {M : Mem}
theorem repC_wf : ∀ {c : AC} {v : Value}, RepC X W E M c v → WfC c
  | .int _ _, _, h => h.2
  | .bool _, _, _ => trivial
  | .str _, _, h => h.2
  | .opq _, _, _ => trivial
  | .hs .no t xs, v, ⟨_, F, h, _⟩ => rep_wf (.list t) h
  | .hs (.at _ _ _) _ _, _, _ => trivial
  | .bp _ _, _, _ => trivial
  | .ep .no t xs k o, v, ⟨_, F, ⟨b, off, G, _, _, _, h⟩, _⟩ => fun x hx => row_wf (fun x cs F h => rep_wf t h) h x hx
  | .ep (.at _ _ _) _ _ _ _, _, _ => trivial
  | .row _ _, _, _ => trivial
  | .rp _ _ _ _ _, _, _ => trivial
  | .sl _ _ _ _ _ _, _, _ => trivial
  | .sp _ _ _ _ _ _ _ _ _, _, _ => trivial
  | .tl _ _ _ _, _, _ => trivial
  | .mp _, _, _ => trivial
  | .junk, _, _ => trivial
  | .fn _ _, _, _ => trivial
  | .raw _, _, _ => trivial
theorem repL_wf : ∀ {l : List AC} {vs : List Value}, RepL X W E M l vs → WfL l
  | [], _, _ => trivial
  | _ :: _, _, ⟨_, _, _, h1, h2⟩ => ⟨repC_wf h1, repL_wf h2⟩
theorem repWs_wf : ∀ {l : List AW} {vs : List Value}, RepWs X W E M l vs → WfA l
  | [], _, _ => trivial
  | .c _ :: _, _, ⟨_, _, _, h1, h2⟩ => ⟨repC_wf h1, repWs_wf h2⟩
  | .ag _ :: _, _, ⟨_, _, _, ⟨_, _, h1⟩, h2⟩ => ⟨repL_wf h1, repWs_wf h2⟩
/-- at the end: only the rows that are handed over -/
theorem end_rep {W0 : World} {res r : AV} {new : Mem} {v : Value} {T : Tab P} (hM : RepM X W E M) (hg : Grow W0 [] W E) (hr : RepV X W E M r v) (h : endA res new r M) : ∃ E', Grow W0 [] W E' ∧ RepM X W E' new ∧ RepV X W E' new res v := by
  obtain ⟨hn, hc⟩ := h
  obtain ⟨us, hus⟩ : ∃ us, us = (matchV M new [] r res).used := ⟨_, rfl⟩
  rw [← hus] at hc
  rw [Bool.and_eq_true] at hc
  have hlen := Nat.eq_of_beq_eq_true hc.1
  obtain ⟨hu, hv⟩ := matchV_rep (X' := X) (us := us) (acc := []) hM (fun b hb => .inl hb) (fun q u h => by simp at h) hn hr (fun q u h => by rw [hus]; simpa using h)
  rw [← hus] at hu
  have hu : UsedOk X X W E M new us 0 us := hu
  refine ⟨pickE E us, ⟨hg.os, hg.tape, hg.output, hg.size, hg.keep, fun b hb => hg.new b (pickE_in b hb), fun i e h => by simp at h⟩, pick_repM hM hu hlen hc.2 (fun b hb hf => hM.xlt b hb (pickE_in b hf)) hM.xsz, hv⟩
/-- A function's condition gives its contract. -/
theorem bcalls_of {T : Tab P} {L : Nat → List AV → Mem → LoopA} {f : FuncId} {fn : Func} {args : List AW} {res : AV} {new : Mem} (hf : P.funcs[f]? = some fn) (hC : (T.C = none ∧ T.n0 = 0) ∧ T.inp = []) (h : WfA args → vcFun T L fn args [] (endA res new)) : BCalls P f args res new := fun X W vs hsz hgl hr =>
  (vcFun_sound (E0 := []) hf ⟨.inl hC.1.1, hC.1.2, (fun i hi => by rw [hC.2] at hi; cases hi), hgl⟩ (h (repWs_wf hr)) (nilM hsz) hr (fun i hi => by rw [hC.2] at hi; cases hi)).mono fun e W' hq => by
    obtain ⟨v, E', M', r, rfl, g, m, hv, hend⟩ := hq
    obtain ⟨E2, g2, m2, hv2⟩ := end_rep (T := T) m g.g hv hend
    exact ⟨v, E2, rfl, g2, m2, hv2⟩
theorem RV.of_b {f : FuncId} {args : List AW} {c : AC} {w : World} {vs : List Value} {u : Value} (h : BCalls P f args (.c c) []) (hgl : Glob w []) (hr : RepWs [] w [] [] args vs) (hc : ∀ W' E' v, RepC [] W' E' [] c v → v = u) : Calls P f vs.toArray w (RV u w) :=
  (h [] w vs (by simp) hgl hr).mono fun e W' hq => by
    obtain ⟨v, E', rfl, g, m, hv⟩ := hq
    obtain rfl := hc _ _ _ hv
    exact ⟨rfl, ext_of_below g.below⟩
/-- an argument that the elder contracts call Held -/
theorem repW_held {w : World} (t : Ty) {x : t.den} {cs : List Value} (h : Held w x cs) : RepW [] w [] [] (.ag (cellsOf t x)) (.agg cs.toArray) := by
  obtain ⟨F, h⟩ := h
  exact ⟨cs, rfl, repL_of_rep (L := .no) t h (fun b hb => ⟨by simp [foots], GoRep.lt h b hb⟩)⟩
end
theorem cond_iff {b : Bool} {p q : Prop} : (bif b then p else q) ↔ ((b = true → p) ∧ (b = false → q)) := by cases b <;> simp
end Go.Proofs.YtkompmgleojmlaaDoor
