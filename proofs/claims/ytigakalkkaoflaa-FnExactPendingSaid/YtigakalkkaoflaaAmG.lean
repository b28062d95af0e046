/-
  Calls: what a contract says at the abstract machine, tables of contracts, and the condition of a whole body.
  Plain: no program. No condition.
-/
import Derived.Test.YtigakalkkaoflaaAmF
set_option linter.unusedSimpArgs false
set_option linter.unusedVariables false
namespace Go.Proofs.Ytigakalkkaoflaa
open Go.ChangeShapes Go.WideShapes Go.ChangeAt Go.RowKit Go.Joins Go.Deep
open GoRep (rep bulk)

/-- how an argument comes: one cell; a struct by value; a pointer to a variable that nobody writes -/
inductive ATy where
  | v (t : Ty)
  | s (t : Ty)
  | p (t : Ty)
def ATy.ty : ATy → Ty
  | .v t => t
  | .s t => t
  | .p t => t
def AD : List ATy → Type
  | [] => Unit
  | a :: l => a.ty.den × AD l
def enc1 (t : Ty) (x : t.den) : AC := (cellsOf t x).headD (.bool false)
def encA1 : (a : ATy) → a.ty.den → AW
  | .v t, x => .c (enc1 t x)
  | .s t, x => .ag (cellsOf t x)
  | .p t, x => .c (.ep t [x] 0 0)
def encA : (l : List ATy) → AD l → List AW
  | [], _ => []
  | a :: l, x => encA1 a x.1 :: encA l x.2
def decInt (k : IntKind) : List AC → Option (Int × List AC)
  | .int k' x :: l => if k' = k then some (x, l) else none
  | _ => none
def decBool : List AC → Option (Bool × List AC)
  | .bool b :: l => some (b, l)
  | _ => none
def decStr : List AC → Option (ByteArray × List AC)
  | .str b :: l => some (b, l)
  | _ => none
def decList (a : Ty) : List AC → Option (List a.den × List AC)
  | .hs a' xs :: l => if h : a' = a then some (h ▸ xs, l) else none
  | .raw (.slice none 0 0) :: l => some ([], l)
  | _ => none
def decT : (t : Ty) → List AC → Option (t.den × List AC)
  | .int k, l => decInt k l
  | .bool, l => decBool l
  | .str, l => decStr l
  | .prod a b, l => match decT a l with
    | some (x, l1) => match decT b l1 with
      | some (y, l2) => some ((x, y), l2)
      | none => none
    | none => none
  | .list a, l => decList a l
def decA1 (M : Mem) : (a : ATy) → AV → Option a.ty.den
  | .v t, .w (.c a) => match decT t [a] with
    | some (x, []) => some x
    | _ => none
  | .s t, .w (.ag l) => match decT t l with
    | some (x, []) => some x
    | _ => none
  | .p t, .w (.c (.bp i 0)) => match M[i]? with
    | some (.box l) => match decT t l with
      | some (x, []) => some x
      | _ => none
    | _ => none
  | .p t, .w (.c (.ep t' xs k 0)) => if h : t' = t then some (h ▸ nth t' xs k) else none
  | _, _ => none
def decA (M : Mem) : (l : List ATy) → List AV → Option (AD l)
  | [], [] => some ()
  | a :: l, x :: xs => match decA1 M a x with
    | some y => match decA M l xs with
      | some ys => some (y, ys)
      | none => none
    | none => none
  | _, _ => none
/-- The contract of a function that finds nothing of the caller's to write: its arguments, its result, the rows that it made for it. -/
def BCalls (P : Program) (f : FuncId) (args : List AW) (r : AV) (new : Mem) : Prop :=
  ∀ (X : List Nat) (W : World) (vs : List Value), (∀ b ∈ X, b < W.heap.size) → RepWs X W [] [] args vs →
    Calls P f vs.toArray W (fun e W' => ∃ v E', e = .returned v ∧ Grow W [] W' E' ∧ RepM X W' E' new ∧ RepV X W' E' new r v)
structure Entry (P : Program) where
  f : FuncId
  ins : List ATy
  pre : AD ins → Prop
  res : AD ins → AV
  new : AD ins → Mem
  ok : ∀ x, pre x → BCalls P f (encA ins x) (res x) (new x)
  ent : ∀ args w, (callFunc f args).run P w = .ok (.enter f args) w
def findE {P : Program} (f : FuncId) : List (Entry P) → Option (Entry P)
  | [] => none
  | e :: l => bif Nat.beq e.f f then some e else findE f l
def shiftC (n : Nat) : AC → AC
  | .bp i o => .bp (i + n) o
  | .row i v => .row (i + n) v
  | .fn f l => .fn f (l.map (· + n))
  | c => c
def shiftW (n : Nat) : AW → AW
  | .c a => .c (shiftC n a)
  | .ag l => .ag (l.map (shiftC n))
def shiftV (n : Nat) : AV → AV
  | .w x => .w (shiftW n x)
  | .tp l => .tp (l.map (shiftW n))
  | .any => .any
def shiftB (n : Nat) : Blk → Blk
  | .box l => .box (l.map (shiftC n))
  | b => b
/-- a closure that captured variables: what its test says of an element -/
def closP {P : Program} (Γ : List (Entry P)) (M : Mem) (g : FuncId) (el : List AV) (ids : List Nat) : Option (Prop × AV) :=
  match findE g Γ with
  | some e => match decA M e.ins (el ++ ids.map (fun i => .c (.bp i 0))) with
    | some y => match e.new y with
      | [] => some (e.pre y, e.res y)
      | _ => none
    | none => none
  | none => none
def boolV : AV → Bool
  | .w (.c (.bool b)) => b
  | _ => false
def isBoolV : AV → Prop
  | .w (.c (.bool _)) => True
  | _ => False
def encEl (agg : Bool) (t : Ty) (x : t.den) : AV := bif agg then .ag (cellsOf t x) else .c (enc1 t x)
/-- what a closure captured: a variable's content -/
structure CV where
  t : Ty
  x : t.den
def CV.arg (c : CV) : AW := .c (.ep c.t [c.x] 0 0)
def capsV (X : List Nat) (W : World) : List CV → List Value → Prop
  | [], vs => vs = []
  | c :: cs, vs => ∃ v r, vs = v :: r ∧ RepC X W [] [] (.ep c.t [c.x] 0 0) v ∧ capsV X W cs r
def elW (agg : Bool) (t : Ty) (x : t.den) : AW := match encEl agg t x with | .w y => y | _ => .ag []
/-- from the world W on, the closure u says p of an element -/
def ClosOk (X : List Nat) (W : World) (P : Program) (u : Value) (agg : Bool) (t : Ty) (p : t.den → Bool) : Prop :=
  ∃ (g : FuncId) (caps : List Value), u = .func (.func g) #[] caps.toArray ∧ (∀ args w, (callFunc g args).run P w = .ok (.enter g args) w) ∧
    ∀ (W' : World) (E' : Env) (x : t.den) (v : Value), Grow W [] W' E' → RepW X W' [] [] (elW agg t x) v →
      Calls P g (v :: caps).toArray W' (fun e W'' => ∃ r E'', e = .returned r ∧ Grow W' [] W'' E'' ∧ RepM X W'' E'' [] ∧ RepV X W'' E'' [] (.c (.bool (p x))) r)
def ClosOk2 (X : List Nat) (W : World) (P : Program) (u : Value) (agg : Bool) (t : Ty) (p : t.den → t.den → Bool) : Prop :=
  ∃ (g : FuncId) (caps : List Value), u = .func (.func g) #[] caps.toArray ∧ (∀ args w, (callFunc g args).run P w = .ok (.enter g args) w) ∧
    ∀ (W' : World) (E' : Env) (x y : t.den) (v v2 : Value), Grow W [] W' E' → RepW X W' [] [] (elW agg t x) v → RepW X W' [] [] (elW agg t y) v2 →
      Calls P g (v :: v2 :: caps).toArray W' (fun e W'' => ∃ r E'', e = .returned r ∧ Grow W' [] W'' E'' ∧ RepM X W'' E'' [] ∧ RepV X W'' E'' [] (.c (.bool (p x y))) r)
/-- The contract of a function of one slice and one test. -/
structure HEntry (P : Program) where
  f : FuncId
  t : Ty
  agg : Bool
  res : (t.den → Bool) → List t.den → AC
  ok : ∀ (p : t.den → Bool) (xs : List t.den) (u : Value) (X : List Nat) (W : World) (v : Value), (∀ b ∈ X, b < W.heap.size) → RepC X W [] [] (.hs t xs) v → ClosOk X W P u agg t p →
    Calls P f #[v, u] W (fun e W' => ∃ v E', e = .returned v ∧ Grow W [] W' E' ∧ RepM X W' E' [] ∧ RepV X W' E' [] (.c (res p xs)) v)
  ent : ∀ args w, (callFunc f args).run P w = .ok (.enter f args) w
def findH {P : Program} (f : FuncId) : List (HEntry P) → Option (HEntry P)
  | [] => none
  | e :: l => bif Nat.beq e.f f then some e else findH f l
/-- The contract of a function of two slices and one test of two. -/
structure HEntry2 (P : Program) where
  f : FuncId
  t : Ty
  agg : Bool
  res : (t.den → t.den → Bool) → List t.den → List t.den → AC
  ok : ∀ (p : t.den → t.den → Bool) (xs ys : List t.den) (u : Value) (X : List Nat) (W : World) (v v2 : Value), (∀ b ∈ X, b < W.heap.size) → RepC X W [] [] (.hs t xs) v → RepC X W [] [] (.hs t ys) v2 → ClosOk2 X W P u agg t p →
    Calls P f #[v, v2, u] W (fun e W' => ∃ v E', e = .returned v ∧ Grow W [] W' E' ∧ RepM X W' E' [] ∧ RepV X W' E' [] (.c (res p xs ys)) v)
  ent : ∀ args w, (callFunc f args).run P w = .ok (.enter f args) w
def findH2 {P : Program} (f : FuncId) : List (HEntry2 P) → Option (HEntry2 P)
  | [] => none
  | e :: l => bif Nat.beq e.f f then some e else findH2 f l
/-- a closure that came in as an argument -/
structure CE (P : Program) where
  u : Value
  g : FuncId
  caps : List Value
  hu : u = .func (.func g) #[] caps.toArray
  ins : List ATy
  res : AD ins → AV
  ent : ∀ args w, (callFunc g args).run P w = .ok (.enter g args) w
/-- what it says of its arguments, from the world W on -/
def CEok (X : List Nat) (W : World) {P : Program} (c : CE P) : Prop :=
  ∀ (W' : World) (E' : Env) (x : AD c.ins) (vs : List Value), Grow W [] W' E' → RepWs X W' [] [] (encA c.ins x) vs →
    Calls P c.g (vs ++ c.caps).toArray W' (fun e W'' => ∃ v E'', e = .returned v ∧ Grow W' [] W'' E'' ∧ RepM X W'' E'' [] ∧ RepV X W'' E'' [] (c.res x) v)
structure Tab (P : Program) where
  Γ : List (Entry P)
  H : List (HEntry P)
  H2 : List (HEntry2 P)
  C : Option (CE P)
def TabOk (X : List Nat) (W : World) {P : Program} (T : Tab P) : Prop := ∀ c, T.C = some c → CEok X W c
def hasP : List ATy → Bool
  | [] => false
  | .p _ :: _ => true
  | _ :: l => hasP l
/-- scalars alone -/
def scalC : AC → Bool
  | .int _ _ => true
  | .bool _ => true
  | .str _ => true
  | _ => false
def scalW : AW → Bool
  | .c a => scalC a
  | .ag l => l.all scalC
def scalV : AV → Bool
  | .w x => scalW x
  | .tp l => l.all scalW
  | .any => true
def callA {P : Program} (T : Tab P) (M : Mem) (f : FuncId) (args : List AV) : OR :=
  match findH f T.H with
  | some h => match args with
    | [.w (.c a), .w (.c (.fn g ids))] => match decT (.list h.t) [a] with
      | some (xs, []) => ⟨(∀ x, match closP T.Γ M g [encEl h.agg h.t x] ids with | some (q, r) => q ∧ isBoolV r | none => False) ∧ ∀ p ys, scalC (h.res p ys) = true,
          .c (h.res (fun x => match closP T.Γ M g [encEl h.agg h.t x] ids with | some (_, r) => boolV r | none => false) xs), M⟩
      | _ => .no
    | [.w (.c a), .w (.c (.raw u))] => match T.C, decT (.list h.t) [a] with
      | some ce, some (xs, []) => ⟨u = ce.u ∧ (∀ x, match decA M ce.ins [encEl h.agg h.t x] with | some y => isBoolV (ce.res y) | none => False) ∧ ∀ p ys, scalC (h.res p ys) = true,
          .c (h.res (fun x => match decA M ce.ins [encEl h.agg h.t x] with | some y => boolV (ce.res y) | none => false) xs), M⟩
      | _, _ => .no
    | _ => .no
  | none => match findH2 f T.H2 with
  | some h => match args with
    | [.w (.c a), .w (.c b), .w (.c (.fn g ids))] => match decT (.list h.t) [a], decT (.list h.t) [b] with
      | some (xs, []), some (ys, []) => ⟨(∀ x y, match closP T.Γ M g [encEl h.agg h.t x, encEl h.agg h.t y] ids with | some (q, r) => q ∧ isBoolV r | none => False) ∧ ∀ p ys zs, scalC (h.res p ys zs) = true,
          .c (h.res (fun x y => match closP T.Γ M g [encEl h.agg h.t x, encEl h.agg h.t y] ids with | some (_, r) => boolV r | none => false) xs ys), M⟩
      | _, _ => .no
    | _ => .no
  | none => match findE f T.Γ with
    | some e => match decA M e.ins args with
      | some x => bif hasP e.ins then ⟨e.pre x ∧ scalV (e.res x) = true, e.res x, M⟩ else ⟨e.pre x, shiftV M.length (e.res x), M ++ (e.new x).map (shiftB M.length)⟩
      | none => .no
    | none => .no
/-- an operation -/
def stepA {P : Program} (T : Tab P) (tm : List AV) (M : Mem) (o : Oper) : OR :=
  match o.op with
  | .call c => match c.callee with
    | .value fn => match evalA tm fn with
      | .w (.c (.fn f ids)) => callA T M f (c.args.toList.map (evalA tm) ++ ids.map (fun i => .c (.bp i 0)))
      | .w (.c (.raw u)) => match T.C with
        | some ce => match decA M ce.ins (c.args.toList.map (evalA tm)) with
          | some x => ⟨u = ce.u ∧ scalV (ce.res x) = true, ce.res x, M⟩
          | none => .no
        | none => .no
      | _ => .no
    | _ => opA P tm M o
  | _ => opA P tm M o
/-- the operation makes and writes no memory of ours -/
def quietA (o : Oper) (r : OR) (M : Mem) : Bool :=
  match o.op with
  | .alloc _ => false
  | .box _ _ => false
  | .store _ _ _ => false
  | _ => Nat.beq r.mem.length M.length
def putA (tm : List AV) (dst : Option Tmp) (v : AV) : List AV :=
  match dst with
  | some d => tm.set d v
  | none => tm
def undefA : AV := .tp []
def vcOps {P : Program} (T : Tab P) (all : List Oper) : List Oper → List AV → Mem → (List AV → Mem → Prop) → Prop
  | [], tm, M, K => K tm M
  | o :: os, tm, M, K =>
    match o.guard with
    | none => let r := stepA T tm M o; r.need ∧ vcOps T all os (putA tm o.dst r.val) r.mem K
    | some (j, want) => match (all[j]?).bind (·.dst) with
      | some d => match tm.getD d .any with
        | .w (.c (.bool g)) => match want with
          | true => bif g then (let tm := tm.set d (.c (.bool true)); let r := stepA T tm M o; r.need ∧ vcOps T all os (putA tm o.dst r.val) r.mem K)
              else vcOps T all os (putA (tm.set d (.c (.bool false))) o.dst undefA) M K
          | false => bif g then vcOps T all os (putA (tm.set d (.c (.bool true))) o.dst undefA) M K
              else (let tm := tm.set d (.c (.bool false)); let r := stepA T tm M o; r.need ∧ vcOps T all os (putA tm o.dst r.val) r.mem K)
        | .any => False
        | .w (.c (.raw _)) => False
        | .w (.c (.row _ _)) => False
        | _ => vcOps T all os (putA tm o.dst undefA) M K
      | none => False
/-- a region that draws its order: no operation makes or writes memory -/
def vcOpsD {P : Program} (T : Tab P) (all : List Oper) : List Oper → List AV → Mem → (List AV → Prop) → Prop
  | [], tm, _, K => K tm
  | o :: os, tm, M, K =>
    match o.guard with
    | none => let r := stepA T tm M o; (bif quietA o r M then r.need else False) ∧ vcOpsD T all os (putA tm o.dst r.val) M K
    | some (j, want) => match (all[j]?).bind (·.dst) with
      | some d => match tm.getD d .any with
        | .w (.c (.bool g)) => match want with
          | true => bif g then (let tm := tm.set d (.c (.bool true)); let r := stepA T tm M o; (bif quietA o r M then r.need else False) ∧ vcOpsD T all os (putA tm o.dst r.val) M K)
              else vcOpsD T all os (putA (tm.set d (.c (.bool false))) o.dst undefA) M K
          | false => bif g then vcOpsD T all os (putA (tm.set d (.c (.bool true))) o.dst undefA) M K
              else (let tm := tm.set d (.c (.bool false)); let r := stepA T tm M o; (bif quietA o r M then r.need else False) ∧ vcOpsD T all os (putA tm o.dst r.val) M K)
        | .any => False
        | .w (.c (.raw _)) => False
        | .w (.c (.row _ _)) => False
        | _ => vcOpsD T all os (putA tm o.dst undefA) M K
      | none => False
/-- a loop's head: what the slots and the own blocks hold, by a value of the prover's own -/
structure LoopA where
  α : Type
  hd : α → List AV × Mem
  inv : α → Prop
  μ : α → Nat
def leC : AC → AC → Prop
  | .int k x, .int k' y => k = k' ∧ x = y
  | .bool x, .bool y => x = y
  | .str x, .str y => x = y
  | .hs t xs, .hs t' ys => ∃ h : t = t', h ▸ xs = ys
  | x, y => x = y
def leL : List AC → List AC → Prop
  | [], [] => True
  | x :: xs, y :: ys => leC x y ∧ leL xs ys
  | _, _ => False
def leV : AV → AV → Prop
  | _, .any => True
  | .w (.c x), .w (.c y) => leC x y
  | .w (.ag x), .w (.ag y) => leL x y
  | x, y => x = y
def leT : List AV → List AV → Prop
  | [], [] => True
  | x :: xs, y :: ys => leV x y ∧ leT xs ys
  | _, _ => False
def leB : Blk → Blk → Prop
  | .box l, .box k => leL l k
  | x, y => x = y
def leM : Mem → Mem → Prop
  | _, [] => True
  | x :: xs, y :: ys => leB x y ∧ leM xs ys
  | _, _ => False
/-- names blocks below n alone -/
def okC (n : Nat) : AC → Bool
  | .bp i _ => Nat.blt i n
  | .row i _ => Nat.blt i n
  | .fn _ l => l.all (Nat.blt · n)
  | _ => true
def okW (n : Nat) : AW → Bool
  | .c a => okC n a
  | .ag l => l.all (okC n)
def okV (n : Nat) : AV → Bool
  | .w x => okW n x
  | .tp l => l.all (okW n)
  | .any => true
def okB (n : Nat) : Blk → Bool
  | .box l => l.all (okC n)
  | _ => true
def leS (tm : List AV) (M : Mem) (h : List AV × Mem) : Prop := leT tm h.1 ∧ leM M h.2 ∧ (h.1.all (okV h.2.length) && h.2.all (okB h.2.length)) = true
/-- some slots turned -/
def setA (tm : List AV) : List (Nat × AV) → List AV
  | [] => tm
  | p :: l => setA (tm.set p.1 p.2) l
def firstReg : Code → Nat
  | .region id _ _ => id
  | .seq a _ => firstReg a
  | .cond _ a _ => firstReg a
  | .block _ a => firstReg a
  | .loop a => firstReg a
  | .scope a => firstReg a
  | _ => 0
/-- the condition of a piece of code -/
def vcCode {P : Program} (T : Tab P) (L : Nat → List AV → Mem → LoopA) : Code → List AV → Mem → (Exit → List AV → Mem → Prop) → Prop
  | .skip, tm, M, K => K .normal tm M
  | .region _ ops draw, tm, M, K => bif draw then (P.follows .mixedOrders = true ∧ Region.lexB .any ops = true) ∧ vcOpsD T ops.toList ops.toList tm M (fun tm => K .normal tm M)
      else vcOps T ops.toList ops.toList tm M (fun tm M => K .normal tm M)
  | .seq x y, tm, M, K => vcCode T L x tm M (fun e tm M => match e with | .normal => vcCode T L y tm M K | e => K e tm M)
  | .cond c x y, tm, M, K => match c with
    | .tmp t => match tm.getD t .any with
      | .w (.c (.bool g)) => bif g then vcCode T L x (tm.set t (.c (.bool true))) M K else vcCode T L y (tm.set t (.c (.bool false))) M K
      | _ => False
    | .const (.bool g) => bif g then vcCode T L x tm M K else vcCode T L y tm M K
    | _ => False
  | .block id x, tm, M, K => vcCode T L x tm M (fun e tm M => match e with | .exit id' => (bif Nat.beq id' id then K .normal tm M else K (.exit id') tm M) | e => K e tm M)
  | .loop x, tm, M, K => let A := L (firstReg x) tm M
    (∃ y, A.inv y ∧ leS tm M (A.hd y)) ∧
    ∀ y, A.inv y → vcCode T L x (A.hd y).1 (A.hd y).2 (fun e tm' M' => match e with | .normal => ∃ y', A.inv y' ∧ A.μ y' < A.μ y ∧ leS tm' M' (A.hd y') | e => K e tm' M')
  | .exit id, tm, M, K => K (.exit id) tm M
  | .label _, tm, M, K => K .normal tm M
  | .ret, tm, M, K => K .ret tm M
  | _, _, _, _ => False
/-- what the function hands back -/
def resW (P : Program) (tm : List AV) (M : Mem) : ResultVar → Option AW
  | .tmp t => match tm.getD t .any with
    | .w x => some x
    | _ => none
  | .cell a t => match tm.getD a .any with
    | .w (.c (.bp i o)) => match M[i]? with
      | some (.box l) => match loadA P t l o with
        | some (.w x) => some x
        | _ => none
      | _ => none
    | _ => none
def resA (P : Program) (tm : List AV) (M : Mem) : List ResultVar → Option (List AW)
  | [] => some []
  | r :: l => match resW P tm M r with
    | some x => match resA P tm M l with
      | some xs => some (x :: xs)
      | none => none
    | none => none
def tupA : List AW → AV
  | [x] => .w x
  | l => .tp l
def initT (n : Nat) (args : List AW) : List AV := args.map .w ++ List.replicate (n - args.length) undefA
/-- the condition of a function's body: what it hands back meets Q -/
def vcFun {P : Program} (T : Tab P) (L : Nat → List AV → Mem → LoopA) (fn : Func) (args : List AW) (Q : AV → Mem → Prop) : Prop :=
  match fn.body with
  | some c => vcCode T L c (initT fn.ntmps args) [] (fun e tm M => match e with
    | .normal => (match resA P tm M fn.results.toList with | some l => Q (tupA l) M | none => False)
    | .ret => (match resA P tm M fn.results.toList with | some l => Q (tupA l) M | none => False)
    | _ => False)
  | none => False
end Go.Proofs.Ytigakalkkaoflaa
