/-
  What well-formed arguments give, and a contract out of a function's condition.
  Plain: no program. No condition.
-/
import Derived.Test.YtigakalkkaoflaaAmM
import Derived.Test.YtigakalkkaoflaaTypes
set_option linter.unusedSimpArgs false
set_option linter.unusedVariables false
namespace Go.Proofs.Ytigakalkkaoflaa
open Go.ChangeShapes Go.WideShapes Go.ChangeAt Go.RowKit Go.Joins Go.Deep
open GoRep (rep bulk)

def AllL {α : Type} (p : α → Prop) (l : List α) : Prop := ∀ x ∈ l, p x
def WfT : (t : Ty) → t.den → Prop
  | .int k, x => (Lit.int k x).wf = true
  | .bool, _ => True
  | .str, s => ByteArray.size s ≤ maxLen
  | .prod a b, x => WfT a x.1 ∧ WfT b x.2
  | .list a, xs => List.length (α := a.den) xs ≤ maxLen ∧ AllL (α := a.den) (WfT a) xs
def WfC : AC → Prop
  | .int k x => (Lit.int k x).wf = true
  | .str s => s.size ≤ maxLen
  | .hs t xs => xs.length ≤ maxLen ∧ AllL (WfT t) xs
  | .ep t xs _ _ => AllL (WfT t) xs
  | _ => True
def WfL : List AC → Prop
  | [] => True
  | c :: l => WfC c ∧ WfL l
def WfW : AW → Prop
  | .c a => WfC a
  | .ag l => WfL l
def WfA : List AW → Prop
  | [] => True
  | x :: l => WfW x ∧ WfA l
theorem row_wf {α : Type} [GoRep α] {W : World} {p : α → Prop} (hp : ∀ x cs F, rep W x cs F → p x) {b : Nat} : ∀ {xs : List α} {off : Nat} {G : List Nat}, RowRep W b off xs G → ∀ x ∈ xs, p x
  | [], _, _, _, x, hx => by simp at hx
  | y :: xs, _, _, ⟨cs, G1, G2, h1, _, h3, _⟩, x, hx => by
    rcases List.mem_cons.1 hx with rfl | hx
    · exact hp _ _ _ h1
    · exact row_wf hp h3 x hx
theorem rep_wf {W : World} : ∀ (t : Ty) {x : t.den} {cs : List Value} {F : List Nat}, rep W x cs F → WfT t x
  | .int _, _, _, _, h => h.2.1
  | .bool, _, _, _, _ => trivial
  | .str, _, _, _, h => h.2.1
  | .prod a b, _, _, _, ⟨_, _, _, _, h1, h2, _, _⟩ => ⟨rep_wf a h1, rep_wf b h2⟩
  | .list a, xs, _, _, ⟨A, c, _, h1, h2, h3⟩ => by
    refine ⟨Nat.le_trans h1 h2, fun x hx => ?_⟩
    rcases h3 with ⟨rfl, _⟩ | ⟨_, b, off, G, _, _, hr⟩
    · simp at hx
    · exact row_wf (fun x cs F h => rep_wf a h) hr x hx
section
variable {P : Program} {X : List Nat} {W : World} {E : Env} {M : Mem}
theorem repC_wf : ∀ {c : AC} {v : Value}, RepC X W E M c v → WfC c
  | .int _ _, _, h => h.2
  | .bool _, _, _ => trivial
  | .str _, _, h => h.2
  | .hs t xs, v, ⟨F, h, _⟩ => rep_wf (.list t) h
  | .bp _ _, _, _ => trivial
  | .ep t xs k o, v, ⟨b, off, G, _, _, h, _⟩ => fun x hx => row_wf (fun x cs F h => rep_wf t h) h x hx
  | .row _ _, _, _ => trivial
  | .fn _ _, _, _ => trivial
  | .raw _, _, _ => trivial
theorem repL_wf : ∀ {l : List AC} {vs : List Value}, RepL X W E M l vs → WfL l
  | [], _, _ => trivial
  | _ :: _, _, ⟨_, _, _, h1, h2⟩ => ⟨repC_wf h1, repL_wf h2⟩
theorem repWs_wf : ∀ {l : List AW} {vs : List Value}, RepWs X W E M l vs → WfA l
  | [], _, _ => trivial
  | .c _ :: _, _, ⟨_, _, _, h1, h2⟩ => ⟨repC_wf h1, repWs_wf h2⟩
  | .ag _ :: _, _, ⟨_, _, _, ⟨_, _, h1⟩, h2⟩ => ⟨repL_wf h1, repWs_wf h2⟩
/-- names no block of ours -/
def freeC : AC → Bool
  | .bp _ _ => false
  | .row _ _ => false
  | .fn _ _ => false
  | _ => true
def freeW : AW → Bool
  | .c a => freeC a
  | .ag l => l.all freeC
def freeV : AV → Bool
  | .w x => freeW x
  | .tp l => l.all freeW
  | .any => true
theorem freeC_rep : ∀ {c : AC} {v : Value}, freeC c = true → RepC X W E M c v → RepC X W [] [] c v
  | .int _ _, _, _, h => h
  | .bool _, _, _, h => h
  | .str _, _, _, h => h
  | .hs t xs, v, _, ⟨F, h1, h2⟩ => ⟨F, h1, fun b hb => ⟨by simp [foots], (h2 b hb).2⟩⟩
  | .ep t xs k o, v, _, ⟨b, off, G, e, hk, h1, h2⟩ => ⟨b, off, G, e, hk, h1, fun g hg => ⟨⟨by simp [foots], (h2 g hg).1.2⟩, (h2 g hg).2⟩⟩
  | .raw _, _, _, h => h
theorem freeL_rep : ∀ {l : List AC} {vs : List Value}, l.all freeC = true → RepL X W E M l vs → RepL X W [] [] l vs
  | [], _, _, h => h
  | _ :: _, _, ho, ⟨v, r, e, h1, h2⟩ => by
    rw [List.all_cons, Bool.and_eq_true] at ho
    exact ⟨v, r, e, freeC_rep ho.1 h1, freeL_rep ho.2 h2⟩
theorem freeW_rep : ∀ {x : AW} {v : Value}, freeW x = true → RepW X W E M x v → RepW X W [] [] x v
  | .c _, _, ho, h => freeC_rep ho h
  | .ag _, _, ho, ⟨cs, e, h⟩ => ⟨cs, e, freeL_rep ho h⟩
theorem freeWs_rep : ∀ {l : List AW} {vs : List Value}, l.all freeW = true → RepWs X W E M l vs → RepWs X W [] [] l vs
  | [], _, _, h => h
  | _ :: _, _, ho, ⟨v, r, e, h1, h2⟩ => by
    rw [List.all_cons, Bool.and_eq_true] at ho
    exact ⟨v, r, e, freeW_rep ho.1 h1, freeWs_rep ho.2 h2⟩
theorem freeV_rep : ∀ {x : AV} {v : Value}, freeV x = true → RepV X W E M x v → RepV X W [] [] x v
  | .w _, _, ho, h => freeW_rep ho h
  | .tp _, _, ho, ⟨vs, e, h⟩ => ⟨vs, e, freeWs_rep ho h⟩
  | .any, _, _, _ => trivial
/-- A function's condition gives its contract: nothing of ours is handed back. -/
theorem bcalls_of {T : Tab P} {L : Nat → List AV → Mem → LoopA} {f : FuncId} {fn : Func} {args : List AW} {res : AV} (hf : P.funcs[f]? = some fn) (hC : T.C = none) (h : WfA args → vcFun T L fn args (fun r _ => freeV r = true ∧ leV r res)) : BCalls P f args res [] := fun X W vs hsz hr =>
  (vcFun_sound hf (fun c hc => by rw [hC] at hc; cases hc) (h (repWs_wf hr)) hsz hr).mono fun e W' hq => by
    obtain ⟨v, E', M', r, rfl, g, m, hv, hfr, hle⟩ := hq
    refine ⟨v, [], rfl, ⟨g.os, g.tape, g.output, g.size, g.keep, fun b hb => by simp [foots] at hb, fun i e h => by simp at h⟩, nilM (fun b hb => Nat.lt_of_lt_of_le (hsz b hb) g.size), leV_rep hle (freeV_rep hfr hv)⟩
/-- the same for a function that takes a closure -/
theorem hcalls_of {T : Tab P} {L : Nat → List AV → Mem → LoopA} {f : FuncId} {fn : Func} {args : List AW} {res : AV} {vs : List Value} (hf : P.funcs[f]? = some fn) (hT : TabOk X W T) (hsz : ∀ b ∈ X, b < W.heap.size) (hr : RepWs X W [] [] args vs)
    (h : WfA args → vcFun T L fn args (fun r _ => freeV r = true ∧ leV r res)) :
    Calls P f vs.toArray W (fun e W' => ∃ v E', e = .returned v ∧ Grow W [] W' E' ∧ RepM X W' E' [] ∧ RepV X W' E' [] res v) :=
  (vcFun_sound hf hT (h (repWs_wf hr)) hsz hr).mono fun e W' hq => by
    obtain ⟨v, E', M', r, rfl, g, m, hv, hfr, hle⟩ := hq
    refine ⟨v, [], rfl, ⟨g.os, g.tape, g.output, g.size, g.keep, fun b hb => by simp [foots] at hb, fun i e h => by simp at h⟩, nilM (fun b hb => Nat.lt_of_lt_of_le (hsz b hb) g.size), leV_rep hle (freeV_rep hfr hv)⟩
theorem capsV_mono {W' : World} {E' : Env} (g : Grow W [] W' E') : ∀ {cs : List CV} {vs : List Value}, capsV X W cs vs → capsV X W' cs vs
  | [], _, h => h
  | c :: cs, _, ⟨v, r, e, h1, h2⟩ => ⟨v, r, e, freeC_rep rfl (RepC.mono g (MemOk.nil _) h1), capsV_mono g h2⟩
theorem repWs_app : ∀ {l k : List AW} {vs us : List Value}, RepWs X W E M l vs → RepWs X W E M k us → RepWs X W E M (l ++ k) (vs ++ us)
  | [], _, _, _, h, h2 => by rw [show _ = _ from h]; exact h2
  | _ :: _, _, _, _, ⟨v, r, e, h1, h3⟩, h2 => by rw [e]; exact ⟨v, _, rfl, h1, repWs_app h3 h2⟩
theorem capsV_args : ∀ {cs : List CV} {vs : List Value}, capsV X W cs vs → RepWs X W [] [] (cs.map CV.arg) vs
  | [], _, h => h
  | _ :: _, _, ⟨v, r, e, h1, h2⟩ => ⟨v, r, e, h1, capsV_args h2⟩
/-- a closure with a contract, as an argument -/
theorem ce_ok {c : CE P} {cs : List CV} (hc : capsV X W cs c.caps) (hsz : ∀ b ∈ X, b < W.heap.size) (h : ∀ x, BCalls P c.g (encA c.ins x ++ cs.map CV.arg) (c.res x) []) : CEok X W c := fun W' E' x vs g hr => by
  have := h x X W' (vs ++ c.caps) (fun b hb => Nat.lt_of_lt_of_le (hsz b hb) g.size) (repWs_app hr (capsV_args (capsV_mono g hc)))
  exact this
theorem RV.of_b {f : FuncId} {args : List AW} {c : AC} {w : World} {vs : List Value} {u : Value} (h : BCalls P f args (.c c) []) (hr : RepWs [] w [] [] args vs) (hc : ∀ W' E' v, RepC [] W' E' [] c v → v = u) : Calls P f vs.toArray w (RV u w) :=
  (h [] w vs (by simp) hr).mono fun e W' hq => by
    obtain ⟨v, E', rfl, g, m, hv⟩ := hq
    obtain rfl := hc _ _ _ hv
    exact ⟨rfl, ext_of_below g.below⟩
/-- an argument that the elder contracts call Held -/
theorem repW_held {w : World} (t : Ty) {x : t.den} {cs : List Value} (h : Held w x cs) : RepW [] w [] [] (.ag (cellsOf t x)) (.agg cs.toArray) := by
  obtain ⟨F, h⟩ := h
  exact ⟨cs, rfl, repL_of_rep t h (fun b _ => by simp [foots])⟩
theorem repW_held1 {w : World} (t : Ty) {xs : List t.den} {v : Value} (h : Held w xs [v]) : RepW [] w [] [] (.c (.hs t xs)) v := by
  obtain ⟨F, h⟩ := h
  exact ⟨F, h, fun b _ => by simp [foots]⟩
end
theorem cond_iff {b : Bool} {p q : Prop} : (bif b then p else q) ↔ ((b = true → p) ∧ (b = false → q)) := by cases b <;> simp
end Go.Proofs.Ytigakalkkaoflaa
