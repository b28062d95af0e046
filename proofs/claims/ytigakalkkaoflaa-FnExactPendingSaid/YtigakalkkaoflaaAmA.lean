/-
  An abstract machine over the model: types as codes, cells and values, blocks of the call's own, and what each stands for in a world.
  Plain: no program. No condition.
-/
import Derived.Test.YtigakalkkaoflaaRep
set_option linter.unusedSimpArgs false
set_option linter.unusedVariables false
namespace Go.Proofs.Ytigakalkkaoflaa
open Go.ChangeShapes Go.WideShapes Go.ChangeAt Go.RowKit Go.Joins Go.Deep
open GoRep (rep bulk)

inductive Ty where
  | int (k : IntKind)
  | bool
  | str
  | prod (a b : Ty)
  | list (a : Ty)
  deriving DecidableEq
def Ty.den : Ty → Type
  | .int _ => Int
  | .bool => Bool
  | .str => ByteArray
  | .prod a b => a.den × b.den
  | .list a => List a.den
@[instance_reducible] def intRep (k : IntKind) : GoRep Int where
  n := 1
  pos := by omega
  rep _ x cs F := cs = [.int k x] ∧ (Lit.int k x).wf = true ∧ F = []
  len h := by rw [h.1]; rfl
  keep h _ := h
  lt h := by rw [h.2.2]; simp
  one h := by rw [h.1]; rfl
  bulk _ := 0
instance tyRep : (t : Ty) → GoRep t.den
  | .int k => intRep k
  | .bool => inferInstanceAs (GoRep Bool)
  | .str => inferInstanceAs (GoRep ByteArray)
  | .prod a b => @instGoRepProd a.den b.den (tyRep a) (tyRep b)
  | .list a => @instGoRepList a.den (tyRep a)
/-- how many cells -/
def Ty.n : Ty → Nat
  | .prod a b => a.n + b.n
  | _ => 1
theorem Ty.n_eq : ∀ t : Ty, GoRep.n t.den = t.n
  | .int _ => rfl
  | .bool => rfl
  | .str => rfl
  | .prod a b => by
    have h1 := Ty.n_eq a
    have h2 := Ty.n_eq b
    show GoRep.n a.den + GoRep.n b.den = a.n + b.n
    rw [h1, h2]
  | .list _ => rfl
def Ty.dflt : (t : Ty) → t.den
  | .int _ => (0 : Int)
  | .bool => false
  | .str => (⟨#[]⟩ : ByteArray)
  | .prod a b => (a.dflt, b.dflt)
  | .list _ => ([] : List _)
/-- no slice inside -/
def Ty.flat : Ty → Bool
  | .prod a b => a.flat && b.flat
  | .list _ => false
  | _ => true
/-- element k of a list -/
def nth (t : Ty) (xs : List t.den) (k : Nat) : t.den := xs.getD k t.dflt

/-- what one cell holds -/
inductive AC where
  | int (k : IntKind) (x : Int)
  | bool (b : Bool)
  | str (s : ByteArray)
  /-- a slice over memory that nobody writes -/
  | hs (t : Ty) (xs : List t.den)
  /-- a pointer into own block i -/
  | bp (i o : Nat)
  /-- a pointer to cell o of element k of a slice over memory that nobody writes -/
  | ep (t : Ty) (xs : List t.den) (k o : Nat)
  /-- the slice that is own row i -/
  | row (i ver : Nat)
  /-- a closure that captured own blocks -/
  | fn (f : FuncId) (caps : List Nat)
  | raw (v : Value)
inductive AW where
  | c (a : AC)
  | ag (l : List AC)
inductive AV where
  | w (x : AW)
  | tp (l : List AW)
  | any
abbrev AV.c (a : AC) : AV := .w (.c a)
abbrev AV.ag (l : List AC) : AV := .w (.ag l)
/-- a block of the call's own -/
inductive Blk where
  | box (l : List AC)
  | row (T : TypeId) (t : Ty) (xs : List t.den) (ver : Nat)
  | dead
  | hole
abbrev Mem := List Blk
structure St where
  tmps : List AV
  mem : Mem
def cellsOf : (t : Ty) → t.den → List AC
  | .int k, x => [.int k x]
  | .bool, b => [.bool b]
  | .str, s => [.str s]
  | .prod a b, x => cellsOf a x.1 ++ cellsOf b x.2
  | .list a, xs => [.hs a xs]
theorem cellsOf_len : ∀ (t : Ty) (x : t.den), (cellsOf t x).length = t.n
  | .int _, _ => rfl
  | .bool, _ => rfl
  | .str, _ => rfl
  | .prod a b, x => by
    show (cellsOf a x.1 ++ cellsOf b x.2).length = a.n + b.n
    rw [List.length_append, cellsOf_len a, cellsOf_len b]
  | .list _, _ => rfl

/-- where an own block lies: a box's block; a row's slice value; the blocks that are ours for it -/
structure EB where
  blk : Nat
  val : Value
  foot : List Nat
abbrev Env := List EB
def foots (E : Env) : List Nat := E.flatMap (·.foot)
theorem mem_foots {E : Env} {b : Nat} : b ∈ foots E ↔ ∃ e ∈ E, b ∈ e.foot := by simp [foots]
def boxAt (E : Env) (i : Nat) (v : Value) (o : Nat) : Prop := ∃ e, E[i]? = some e ∧ v = .pointer (some ⟨e.blk, o, none⟩)
def capsAt (E : Env) : List Nat → List Value → Prop
  | [], vs => vs = []
  | i :: is, vs => ∃ v r, vs = v :: r ∧ boxAt E i v 0 ∧ capsAt E is r

/-- the value v is what the cell stands for -/
def RepC (X : List Nat) (W : World) (E : Env) (M : Mem) : AC → Value → Prop
  | .int k x, v => v = .int k x ∧ (Lit.int k x).wf = true
  | .bool b, v => v = .bool b
  | .str s, v => v = .string s ∧ s.size ≤ maxLen
  | .hs t xs, v => ∃ F, rep (α := List t.den) W xs [v] F ∧ ∀ b ∈ F, b ∉ foots E ∧ b ∉ X
  | .bp i o, v => boxAt E i v o
  | .ep t xs k o, v => ∃ b off G, v = .pointer (some ⟨b, off + k * t.n + o, none⟩) ∧ k < xs.length ∧ RowRep W b off xs G ∧ ∀ g ∈ b :: G, (g ∉ foots E ∧ g ∉ X) ∧ g < W.heap.size
  | .row i ver, v => v.oneCell' = true ∧ match M[i]? with
    | some (.row _ _ _ cur) => ver ≤ cur ∧ (ver = cur → ∃ e, E[i]? = some e ∧ v = e.val)
    | some .dead => True
    | _ => False
  | .fn f caps, v => ∃ vs, v = .func (.func f) #[] vs.toArray ∧ capsAt E caps vs
  | .raw u, v => v = u ∧ u.oneCell' = true
def RepL (X : List Nat) (W : World) (E : Env) (M : Mem) : List AC → List Value → Prop
  | [], vs => vs = []
  | c :: cs, vs => ∃ v r, vs = v :: r ∧ RepC X W E M c v ∧ RepL X W E M cs r
def RepW (X : List Nat) (W : World) (E : Env) (M : Mem) : AW → Value → Prop
  | .c a, v => RepC X W E M a v
  | .ag l, v => ∃ cs, v = .agg cs.toArray ∧ RepL X W E M l cs
def RepWs (X : List Nat) (W : World) (E : Env) (M : Mem) : List AW → List Value → Prop
  | [], vs => vs = []
  | x :: xs, vs => ∃ v r, vs = v :: r ∧ RepW X W E M x v ∧ RepWs X W E M xs r
def RepV (X : List Nat) (W : World) (E : Env) (M : Mem) : AV → Value → Prop
  | .w x, v => RepW X W E M x v
  | .tp l, v => ∃ vs, v = .tuple vs.toArray ∧ RepWs X W E M l vs
  | .any, _ => True
def RepT (X : List Nat) (W : World) (E : Env) (M : Mem) : List AV → List Value → Prop
  | [], vs => vs = []
  | x :: xs, vs => ∃ v r, vs = v :: r ∧ RepV X W E M x v ∧ RepT X W E M xs r
/-- the cells of a row, without addresses -/
def RowVals (W : World) (t : Ty) : List t.den → List Value → List Nat → Prop
  | [], cs, G => cs = [] ∧ G = []
  | x :: xs, cs, G => ∃ c1 c2 G1 G2, rep W x c1 G1 ∧ RowVals W t xs c2 G2 ∧ cs = c1 ++ c2 ∧ G = G1 ++ G2
def RepB (X : List Nat) (W : World) (E : Env) (M : Mem) : Blk → EB → Prop
  | .box l, e => e.foot = [e.blk] ∧ ∃ cs T, W.heap[e.blk]? = some (.cells cs T (0, 0)) ∧ RepL X W E M l cs.toList
  | .row T t xs _, e => ∃ cells G, W.ownsRow 0 T t.n e.val xs.length cells ∧ RowVals W t xs cells G ∧ e.foot = e.val.ownBlock.toList ++ G
  | .dead, e => e.foot = []
  | .hole, e => e.foot = []
structure RepM (X : List Nat) (W : World) (E : Env) (M : Mem) : Prop where
  len : M.length = E.length
  nodup : (foots E).Nodup
  at_ : ∀ (i : Nat) (b : Blk) (e : EB), M[i]? = some b → E[i]? = some e → RepB X W E M b e
  lt : ∀ b ∈ foots E, b < W.heap.size
  xlt : ∀ b ∈ X, b ∉ foots E
  xsz : ∀ b ∈ X, b < W.heap.size
structure RepS (X : List Nat) (st : St) (a : Act) (W : World) (E : Env) : Prop where
  mem : RepM X W E st.mem
  tmps : RepT X W E st.mem st.tmps a.tmps.toList
  dfr : a.defers = []
/-- from the world W, own blocks E, to the world W', own blocks E' -/
structure Grow (W : World) (E : Env) (W' : World) (E' : Env) : Prop where
  os : W'.os = W.os
  tape : W'.tape = W.tape
  output : W'.output = W.output
  size : W.heap.size ≤ W'.heap.size
  keep : ∀ b, b < W.heap.size → b ∉ foots E → W'.heap[b]? = W.heap[b]?
  new : ∀ b ∈ foots E', b ∈ foots E ∨ W.heap.size ≤ b
  blk : ∀ (i : Nat) (e : EB), E[i]? = some e → ∃ e', E'[i]? = some e' ∧ e'.blk = e.blk
theorem Grow.refl (W : World) (E : Env) : Grow W E W E := ⟨rfl, rfl, rfl, Nat.le_refl _, fun _ _ _ => rfl, fun _ h => .inl h, fun _ e h => ⟨e, h, rfl⟩⟩
theorem Grow.trans {W W1 W2 : World} {E E1 E2 : Env} (h : Grow W E W1 E1) (k : Grow W1 E1 W2 E2) : Grow W E W2 E2 where
  os := k.os.trans h.os
  tape := k.tape.trans h.tape
  output := k.output.trans h.output
  size := Nat.le_trans h.size k.size
  keep b hb hn := by
    rw [k.keep b (Nat.lt_of_lt_of_le hb h.size) (fun hm => (h.new b hm).elim hn (fun hge => by omega))]
    exact h.keep b hb hn
  new b hb := (k.new b hb).elim (h.new b) (fun hge => .inr (Nat.le_trans h.size hge))
  blk i e he := by
    obtain ⟨e1, h1, q1⟩ := h.blk i e he
    obtain ⟨e2, h2, q2⟩ := k.blk i e1 h1
    exact ⟨e2, h2, q2.trans q1⟩
theorem Grow.below {W W' : World} {E' : Env} (h : Grow W [] W' E') : Below W.heap.size W W' :=
  ⟨h.os, h.tape, h.output, h.size, fun k hk => h.keep k hk (by simp [foots])⟩
/-- how the memory may turn so that cells keep what they stand for -/
def MemOk (E : Env) (M : Mem) (E' : Env) (M' : Mem) : Prop := ∀ i : Nat, match M[i]? with
  | some (.row _ _ _ cur) => (M'[i]? = some .dead) ∨ ∃ T t xs cur', M'[i]? = some (.row T t xs cur') ∧ cur ≤ cur' ∧ (cur' = cur → ∀ e : EB, E[i]? = some e → ∃ e', E'[i]? = some e' ∧ e'.val = e.val)
  | some .dead => M'[i]? = some .dead
  | _ => True
theorem MemOk.refl (E : Env) (M : Mem) : MemOk E M E M := fun i => by
  split
  · rename_i h; exact .inr ⟨_, _, _, _, h, Nat.le_refl _, fun _ e he => ⟨e, he, rfl⟩⟩
  · rename_i h; exact h
  · trivial
theorem MemOk.nil (E' : Env) : MemOk [] [] E' [] := fun i => by simp
theorem MemOk.trans {E E1 E2 : Env} {M M1 M2 : Mem} (h : MemOk E M E1 M1) (k : MemOk E1 M1 E2 M2) : MemOk E M E2 M2 := fun i => by
  have hi := h i
  have ki := k i
  split
  · rename_i T t xs cur hM
    rw [hM] at hi
    rcases hi with hd | ⟨T1, t1, xs1, c1, h1, hle, hv⟩
    · rw [hd] at ki; exact .inl ki
    · rw [h1] at ki
      rcases ki with kd | ⟨T2, t2, xs2, c2, k1, kle, kv⟩
      · exact .inl kd
      · refine .inr ⟨T2, t2, xs2, c2, k1, Nat.le_trans hle kle, fun e he h => ?_⟩
        obtain ⟨e', q1, q2⟩ := hv (by omega) he h
        obtain ⟨e'', r1, r2⟩ := kv (by omega) e' q1
        exact ⟨e'', r1, r2.trans q2⟩
  · rename_i hM
    rw [hM] at hi
    rw [show M1[i]? = some .dead from hi] at ki
    exact ki
  · trivial

section
variable {X : List Nat} {W W' : World} {E E' : Env} {M M' : Mem}
theorem boxAt.mono (g : Grow W E W' E') {i o : Nat} {v : Value} (h : boxAt E i v o) : boxAt E' i v o := by
  obtain ⟨e, h1, h2⟩ := h
  obtain ⟨e', q1, q2⟩ := g.blk i e h1
  exact ⟨e', q1, by rw [q2]; exact h2⟩
theorem capsAt.mono (g : Grow W E W' E') : ∀ {is : List Nat} {vs : List Value}, capsAt E is vs → capsAt E' is vs
  | [], _, h => h
  | _ :: _, _, ⟨v, r, e, h1, h2⟩ => ⟨v, r, e, h1.mono g, capsAt.mono g h2⟩
theorem RepC.mono (g : Grow W E W' E') (hm : MemOk E M E' M') : ∀ {c : AC} {v : Value}, RepC X W E M c v → RepC X W' E' M' c v
  | .int _ _, _, h => h
  | .bool _, _, h => h
  | .str _, _, h => h
  | .hs t xs, v, ⟨F, h1, h2⟩ => by
    have hlt : ∀ b ∈ F, b < W.heap.size := GoRep.lt h1
    exact ⟨F, GoRep.keep h1 (fun b hb => g.keep b (hlt b hb) (h2 b hb).1), fun b hb => ⟨fun hn => (g.new b hn).elim (h2 b hb).1 (fun hge => by have := hlt b hb; omega), (h2 b hb).2⟩⟩
  | .bp _ _, _, h => boxAt.mono g h
  | .ep t xs k o, v, ⟨b, off, G, e, hk, h1, h2⟩ => by
    refine ⟨b, off, G, e, hk, h1.keep (g.keep b (h2 b (by simp)).2 (h2 b (by simp)).1.1) (fun q hq => g.keep q (h2 q (by simp [hq])).2 (h2 q (by simp [hq])).1.1), fun q hq => ⟨⟨fun hn => (g.new q hn).elim (h2 q hq).1.1 (fun hge => by have := (h2 q hq).2; omega), (h2 q hq).1.2⟩, Nat.lt_of_lt_of_le (h2 q hq).2 g.size⟩⟩
  | .row i ver, v, h => by
    obtain ⟨h1, h2⟩ := h
    refine ⟨h1, ?_⟩
    have hi := hm i
    cases hM : M[i]? with
    | none => rw [hM] at h2; exact h2.elim
    | some b =>
      rw [hM] at h2 hi
      cases b with
      | box l => exact h2.elim
      | hole => exact h2.elim
      | dead => simp only at hi; rw [hi]; trivial
      | row T t xs cur =>
        simp only at h2 hi
        rcases hi with hd | ⟨T1, t1, xs1, c1, hM1, hle, hv⟩
        · rw [hd]; trivial
        · rw [hM1]
          refine ⟨by omega, fun he => ?_⟩
          obtain ⟨e, q1, q2⟩ := h2.2 (by omega)
          obtain ⟨e', r1, r2⟩ := hv (by omega) e q1
          exact ⟨e', r1, by rw [r2]; exact q2⟩
  | .fn f caps, v, ⟨vs, e, h⟩ => ⟨vs, e, capsAt.mono g h⟩
  | .raw _, _, h => h
theorem RepL.mono (g : Grow W E W' E') (hm : MemOk E M E' M') : ∀ {l : List AC} {vs : List Value}, RepL X W E M l vs → RepL X W' E' M' l vs
  | [], _, h => h
  | _ :: _, _, ⟨v, r, e, h1, h2⟩ => ⟨v, r, e, h1.mono g hm, RepL.mono g hm h2⟩
theorem RepW.mono (g : Grow W E W' E') (hm : MemOk E M E' M') : ∀ {x : AW} {v : Value}, RepW X W E M x v → RepW X W' E' M' x v
  | .c _, _, h => RepC.mono g hm h
  | .ag _, _, ⟨cs, e, h⟩ => ⟨cs, e, h.mono g hm⟩
theorem RepWs.mono (g : Grow W E W' E') (hm : MemOk E M E' M') : ∀ {l : List AW} {vs : List Value}, RepWs X W E M l vs → RepWs X W' E' M' l vs
  | [], _, h => h
  | _ :: _, _, ⟨v, r, e, h1, h2⟩ => ⟨v, r, e, h1.mono g hm, RepWs.mono g hm h2⟩
theorem RepV.mono (g : Grow W E W' E') (hm : MemOk E M E' M') : ∀ {x : AV} {v : Value}, RepV X W E M x v → RepV X W' E' M' x v
  | .w _, _, h => RepW.mono g hm h
  | .tp _, _, ⟨vs, e, h⟩ => ⟨vs, e, h.mono g hm⟩
  | .any, _, _ => trivial
theorem RepT.mono (g : Grow W E W' E') (hm : MemOk E M E' M') : ∀ {l : List AV} {vs : List Value}, RepT X W E M l vs → RepT X W' E' M' l vs
  | [], _, h => h
  | _ :: _, _, ⟨v, r, e, h1, h2⟩ => ⟨v, r, e, h1.mono g hm, RepT.mono g hm h2⟩
theorem RepC.one : ∀ {c : AC} {v : Value}, RepC X W E M c v → v.oneCell' = true
  | .int _ _, _, h => by rw [h.1]; rfl
  | .bool _, _, h => by rw [show _ = _ from h]; rfl
  | .str _, _, h => by rw [h.1]; rfl
  | .hs t xs, v, ⟨F, h1, _⟩ => by have := GoRep.one h1; simpa using this
  | .bp _ _, _, ⟨e, _, h⟩ => by rw [h]; rfl
  | .ep _ _ _ _, _, ⟨b, off, G, e, _⟩ => by rw [e]; rfl
  | .row _ _, _, h => h.1
  | .fn _ _, _, ⟨vs, e, _⟩ => by rw [e]; rfl
  | .raw _, _, h => by rw [h.1]; exact h.2
theorem RepL.len : ∀ {l : List AC} {vs : List Value}, RepL X W E M l vs → vs.length = l.length
  | [], _, h => by rw [show _ = _ from h]; rfl
  | _ :: _, _, ⟨v, r, e, _, h2⟩ => by rw [e, List.length_cons, RepL.len h2, List.length_cons]
theorem RepL.all : ∀ {l : List AC} {vs : List Value}, RepL X W E M l vs → vs.all (fun v => v.oneCell') = true
  | [], _, h => by rw [show _ = _ from h]; rfl
  | _ :: _, _, ⟨v, r, e, h1, h2⟩ => by rw [e, List.all_cons, h1.one, RepL.all h2]; rfl
theorem RepL.get : ∀ {l : List AC} {vs : List Value} {j : Nat} {c : AC}, RepL X W E M l vs → l[j]? = some c → ∃ v, vs[j]? = some v ∧ RepC X W E M c v
  | [], _, _, _, _, h => by simp at h
  | _ :: _, _, 0, _, ⟨v, r, e, h1, _⟩, h => by simp at h; subst h; exact ⟨v, by rw [e]; rfl, h1⟩
  | _ :: _, _, j + 1, _, ⟨v, r, e, _, h2⟩, h => by
    simp at h
    obtain ⟨u, q1, q2⟩ := RepL.get h2 h
    exact ⟨u, by rw [e]; simpa using q1, q2⟩
theorem RepL.append : ∀ {l k : List AC} {vs us : List Value}, RepL X W E M l vs → RepL X W E M k us → RepL X W E M (l ++ k) (vs ++ us)
  | [], _, _, _, h, h2 => by rw [show _ = _ from h]; exact h2
  | _ :: _, _, _, _, ⟨v, r, e, h1, h3⟩, h2 => by rw [e]; exact ⟨v, _, rfl, h1, RepL.append h3 h2⟩
theorem RepL.split : ∀ {l k : List AC} {vs : List Value}, RepL X W E M (l ++ k) vs → RepL X W E M l (vs.take l.length) ∧ RepL X W E M k (vs.drop l.length)
  | [], _, _, h => ⟨rfl, h⟩
  | _ :: l, _, _, ⟨v, r, e, h1, h2⟩ => by
    obtain ⟨q1, q2⟩ := RepL.split h2
    rw [e]
    exact ⟨⟨v, _, rfl, h1, q1⟩, q2⟩
theorem RepL.take {l : List AC} {vs : List Value} (n : Nat) (h : RepL X W E M l vs) : RepL X W E M (l.take n) (vs.take n) := by
  have hl := h.len
  by_cases hn : n ≤ l.length
  · rw [← List.take_append_drop n l] at h
    have := (RepL.split h).1
    rwa [List.length_take, Nat.min_eq_left hn] at this
  · rw [List.take_of_length_le (by omega), List.take_of_length_le (by omega)]
    exact h
theorem RepL.drop {l : List AC} {vs : List Value} (n : Nat) (h : RepL X W E M l vs) : RepL X W E M (l.drop n) (vs.drop n) := by
  have hl := h.len
  by_cases hn : n ≤ l.length
  · rw [← List.take_append_drop n l] at h
    have := (RepL.split h).2
    rwa [List.length_take, Nat.min_eq_left hn] at this
  · rw [List.drop_of_length_le (by omega), List.drop_of_length_le (by omega)]
    rfl
theorem RepT.len : ∀ {l : List AV} {vs : List Value}, RepT X W E M l vs → vs.length = l.length
  | [], _, h => by rw [show _ = _ from h]; rfl
  | _ :: _, _, ⟨v, r, e, _, h2⟩ => by rw [e, List.length_cons, RepT.len h2, List.length_cons]
theorem RepT.get : ∀ {l : List AV} {vs : List Value} {j : Nat} {x : AV}, RepT X W E M l vs → l[j]? = some x → ∃ v, vs[j]? = some v ∧ RepV X W E M x v
  | [], _, _, _, _, h => by simp at h
  | _ :: _, _, 0, _, ⟨v, r, e, h1, _⟩, h => by simp at h; subst h; exact ⟨v, by rw [e]; rfl, h1⟩
  | _ :: _, _, j + 1, _, ⟨v, r, e, _, h2⟩, h => by
    simp at h
    obtain ⟨u, q1, q2⟩ := RepT.get h2 h
    exact ⟨u, by rw [e]; simpa using q1, q2⟩
theorem RepT.set : ∀ {l : List AV} {vs : List Value} (j : Nat) {x : AV} {v : Value}, RepT X W E M l vs → RepV X W E M x v → RepT X W E M (l.set j x) (vs.set j v)
  | [], _, _, _, _, h, _ => by rw [show _ = _ from h]; rfl
  | _ :: _, _, 0, _, _, ⟨v, r, e, _, h2⟩, h => by rw [e]; exact ⟨_, r, rfl, h, h2⟩
  | _ :: _, _, j + 1, _, _, ⟨v, r, e, h1, h2⟩, h => by rw [e]; exact ⟨v, _, rfl, h1, RepT.set j h2 h⟩
end
/-- what a typed Lean value's cells stand for -/
theorem repL_of_rep {X : List Nat} {W : World} {E : Env} {M : Mem} : ∀ (t : Ty) {x : t.den} {cs : List Value} {F : List Nat}, rep W x cs F → (∀ b ∈ F, b ∉ foots E ∧ b ∉ X) → RepL X W E M (cellsOf t x) cs
  | .int k, x, cs, F, h, _ => ⟨_, [], h.1, ⟨rfl, h.2.1⟩, rfl⟩
  | .bool, x, cs, F, h, _ => ⟨_, [], h.1, rfl, rfl⟩
  | .str, x, cs, F, h, _ => ⟨_, [], h.1, ⟨rfl, h.2.1⟩, rfl⟩
  | .prod a b, x, cs, F, h, hF => by
    obtain ⟨c1, c2, F1, F2, h1, h2, rfl, rfl⟩ := h
    exact (repL_of_rep a h1 (fun q hq => hF q (by simp [hq]))).append (repL_of_rep b h2 (fun q hq => hF q (by simp [hq])))
  | .list a, x, cs, F, h, hF => by
    obtain ⟨A, c, rfl, hs⟩ := h
    exact ⟨_, [], rfl, ⟨F, ⟨A, c, rfl, hs⟩, hF⟩, rfl⟩
theorem rep_of_repL {X : List Nat} {W : World} {E : Env} {M : Mem} : ∀ (t : Ty) {x : t.den} {cs : List Value}, RepL X W E M (cellsOf t x) cs → ∃ F, rep W x cs F ∧ ∀ b ∈ F, b ∉ foots E ∧ b ∉ X
  | .int k, x, cs, ⟨v, r, e, h1, h2⟩ => ⟨[], ⟨by rw [e, h1.1, show r = [] from h2], h1.2, rfl⟩, by simp⟩
  | .bool, x, cs, ⟨v, r, e, h1, h2⟩ => ⟨[], ⟨by rw [e, show v = _ from h1, show r = [] from h2], rfl⟩, by simp⟩
  | .str, x, cs, ⟨v, r, e, h1, h2⟩ => ⟨[], ⟨by rw [e, h1.1, show r = [] from h2], h1.2, rfl⟩, by simp⟩
  | .prod a b, x, cs, h => by
    obtain ⟨h1, h2⟩ := RepL.split (l := cellsOf a x.1) (k := cellsOf b x.2) h
    obtain ⟨F1, r1, q1⟩ := rep_of_repL a h1
    obtain ⟨F2, r2, q2⟩ := rep_of_repL b h2
    exact ⟨F1 ++ F2, ⟨_, _, F1, F2, r1, r2, (List.take_append_drop _ _).symm, rfl⟩, fun q hq => (List.mem_append.1 hq).elim (q1 q) (q2 q)⟩
  | .list a, x, cs, ⟨v, r, e, ⟨F, h1, h3⟩, h2⟩ => ⟨F, by rw [e, show r = [] from h2]; exact h1, h3⟩
end Go.Proofs.Ytigakalkkaoflaa
