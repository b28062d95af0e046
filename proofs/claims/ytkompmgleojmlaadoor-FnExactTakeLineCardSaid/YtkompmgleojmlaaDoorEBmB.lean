/-
  The abstract machine's operations, and that each does what the model's operation does.
  Plain: no program. No condition.
-/
import Derived.Test.YtkompmgleojmlaaDoorEBmA
set_option linter.unusedSimpArgs false
set_option linter.unusedVariables false
namespace Go.Proofs.YtkompmgleojmlaaDoor
open Go.ChangeShapes Go.WideShapes Go.ChangeAt Go.RowKit Go.Joins Go.Deep
open GoRep (rep bulk)

def absC : Value → AC
  | .int k n => .int k n
  | .bool b => .bool b
  | .string s => .str s
  | v => .raw v
def absOk : Value → Bool
  | .int k n => (Lit.int k n).wf
  | .string s => decide (s.size ≤ maxLen)
  | v => v.oneCell'
def absV : Value → AV
  | .agg cs => if cs.toList.all absOk then .ag (cs.toList.map absC) else .any
  | v => if absOk v then .c (absC v) else .any
def evalA (tm : List AV) : Operand → AV
  | .tmp t => tm.getD t .any
  | .const v => absV v
  | .global _ => .any
  | .func f => .c (.fn f [])
/-- what an operation asks, what it yields, what becomes of the own blocks -/
structure OR where
  need : Prop
  val : AV
  mem : Mem
def OR.no : OR := ⟨False, .tp [.ag []], []⟩
def aggD : TypeDesc → Bool
  | .struct _ => true
  | .array _ _ => true
  | _ => false
def sizeT (P : Program) (t : TypeId) : Nat := match P.info? t with | some i => i.size | none => 0
def loadA (P : Program) (t : TypeId) (l : List AC) (o : Nat) : Option AV :=
  match P.underlying t with
  | some d => bif aggD d then (bif Nat.ble (o + sizeT P t) l.length then some (.ag ((l.drop o).take (sizeT P t))) else none) else l[o]?.map .c
  | none => none
def cellsA : AV → Option (List AC)
  | .w (.c a) => some [a]
  | .w (.ag l) => some l
  | _ => none
def intA (op : BinOp) (k : IntKind) (a b : Int) : Prop × AC :=
  match op with
  | .add => (True, .int k (k.wrap (a + b)))
  | .sub => (True, .int k (k.wrap (a - b)))
  | .mul => (True, .int k (k.wrap (a * b)))
  | .quo => (b ≠ 0, .int k (k.wrap (a.tdiv b)))
  | .rem => (b ≠ 0, .int k (a.tmod b))
  | .and => (True, .int k (k.wrap ((BitVec.ofInt k.bits a &&& BitVec.ofInt k.bits b).toNat : Nat)))
  | .or => (True, .int k (k.wrap ((BitVec.ofInt k.bits a ||| BitVec.ofInt k.bits b).toNat : Nat)))
  | .xor => (True, .int k (k.wrap ((BitVec.ofInt k.bits a ^^^ BitVec.ofInt k.bits b).toNat : Nat)))
  | .andNot => (True, .int k (k.wrap ((BitVec.ofInt k.bits a &&& ~~~ BitVec.ofInt k.bits b).toNat : Nat)))
  | .eql => (True, .bool (a == b))
  | .neq => (True, .bool (a != b))
  | .lss => (True, .bool (decide (a < b)))
  | .leq => (True, .bool (decide (a ≤ b)))
  | .gtr => (True, .bool (decide (a > b)))
  | .geq => (True, .bool (decide (a ≥ b)))
  | _ => (False, .bool false)
def strA (op : BinOp) (a b : ByteArray) : Prop × AC :=
  match op with
  | .add => (a.size + b.size ≤ maxLen, .str (a ++ b))
  | .eql => (True, .bool (decide (a = b)))
  | .neq => (True, .bool (!decide (a = b)))
  | .lss => (True, .bool (Op.bytesLess a.toList b.toList))
  | .leq => (True, .bool (Op.bytesLess a.toList b.toList || decide (a = b)))
  | .gtr => (True, .bool (!(Op.bytesLess a.toList b.toList || decide (a = b))))
  | .geq => (True, .bool (!Op.bytesLess a.toList b.toList))
  | _ => (False, .bool false)
def scalTy (P : Program) (t : TypeId) (a b : AC) : Bool :=
  match P.underlying t, a, b with
  | some (.int _), .int k _, .int k' _ => decide (k = k')
  | some .bool, .bool _, .bool _ => true
  | some .string, .str _, .str _ => true
  | _, _, _ => false
/-- fields of one cell each, from place n on, that '==' compares -/
def flatFields (P : Program) : List Field → Nat → List AC → List AC → Bool
  | [], _, [], [] => true
  | f :: fs, n, a :: as', b :: bs => (Nat.beq f.offset n && (f.name != "_" && scalTy P f.type a b)) && flatFields P fs (n + 1) as' bs
  | _, _, _, _ => false
def eqCells : List AC → List AC → Bool
  | .int _ a :: l, .int _ b :: k => (a == b) && eqCells l k
  | .bool a :: l, .bool b :: k => (a == b) && eqCells l k
  | .str a :: l, .str b :: k => decide (a = b) && eqCells l k
  | _, _ => true
def flatEq (P : Program) (t : TypeId) (l k : List AC) : Bool :=
  match P.underlying t with
  | some (.struct fs) => flatFields P fs.toList 0 l k && (!P.stoodInHeld t && !P.eqGuardType P.depth t)
  | _ => false
def shlI (k : IntKind) (a b : Int) : Int := k.wrap (a * 2 ^ min b.toNat k.bits)
def shrI (k : IntKind) (a b : Int) : Int := a.fdiv (2 ^ min b.toNat k.bits)
def binA (P : Program) (op : BinOp) (t : TypeId) (x y : AV) : Prop × AC :=
  match x, y with
  | .w (.c (.int k a)), .w (.c (.int k' b)) => match op with
    | .shl => (0 ≤ b, .int k (shlI k a b))
    | .shr => (0 ≤ b, .int k (shrI k a b))
    | op => if k = k' then intA op k a b else (False, .bool false)
  | .w (.c (.str a)), .w (.c (.str b)) => strA op a b
  | .w (.c (.bool a)), .w (.c (.bool b)) => match op with
    | .eql => (P.underlying t = some .bool, .bool (a == b))
    | .neq => (P.underlying t = some .bool, .bool (!(a == b)))
    | _ => (False, .bool false)
  | .w (.ag l), .w (.ag k) => match op with
    | .eql => (flatEq P t l k = true, .bool (eqCells l k))
    | .neq => (flatEq P t l k = true, .bool (!eqCells l k))
    | _ => (False, .bool false)
  | _, _ => (False, .bool false)
def pickA (g : Bool) (x y : AV) : AV :=
  match x, y with
  | .w (.c (.bool a)), .w (.c (.bool b)) => .c (.bool (bif g then a else b))
  | .w (.c (.int k a)), .w (.c (.int k' b)) => if k = k' then .c (.int k (bif g then a else b)) else (bif g then x else y)
  | .w (.c (.str a)), .w (.c (.str b)) => .c (.str (bif g then a else b))
  | x, y => bif g then x else y
def byteAt (s : ByteArray) (n : Nat) : Int := ((s.data.toList.getD n 0).toNat : Nat)
def loI (lo : Option AV) : Option Int := match lo with | none => some 0 | some (.w (.c (.int _ l))) => some l | _ => none
def hiI (n : Nat) (hi : Option AV) : Option Int := match hi with | none => some (n : Int) | some (.w (.c (.int _ l))) => some l | _ => none
def sliceA (x : AV) (lo hi : Option AV) : Prop × AC :=
  match x with
  | .w (.c (.str s)) => match loI lo, hiI s.size hi with
    | some l, some h => (0 ≤ l ∧ l ≤ h ∧ h ≤ (s.size : Int), .str (s.extract l.toNat h.toNat))
    | _, _ => (False, .bool false)
  | .w (.c (.hs L t xs)) => match loI lo, hiI xs.length hi with
    | some l, some h => (0 ≤ l ∧ l ≤ h ∧ h ≤ (xs.length : Int), .hs L t ((xs.take h.toNat).drop l.toNat))
    | _, _ => (False, .bool false)
  | _ => (False, .bool false)
def fieldAt? (P : Program) (s : TypeId) (f : Nat) : Option Field :=
  match P.underlying s with
  | some (.struct fs) => fs[f]?
  | _ => none
def capsOf : List AV → Option (List Nat)
  | [] => some []
  | .w (.c (.bp i 0)) :: l => (capsOf l).map (i :: ·)
  | _ => none
/-- the type's code -/
def tyFs (f : TypeId → Option Ty) : List Field → Option Ty
  | [] => none
  | [x] => f x.type
  | x :: l => match f x.type, tyFs f l with
    | some a, some b => some (.prod a b)
    | _, _ => none
def tyOf (P : Program) : Nat → TypeId → Option Ty
  | 0, _ => none
  | n + 1, t => match P.underlying t with
    | some (.int k) => some (.int k)
    | some .bool => some .bool
    | some .string => some .str
    | some (.slice e) => (tyOf P n e).map .list
    | some (.struct fs) => tyFs (tyOf P n) fs.toList
    | _ => none
/-- what append, a literal ask of the table of types -/
def rowTy (P : Program) (e : TypeId) (n : Nat) : Bool := match P.info? e with
  | some i => Nat.beq i.size n && (Nat.ble i.bytes 512 && match i.zero with | some z => Nat.beq z.cells.size n | none => false)
  | none => false
/-- the most elements that a row of ours may have -/
def rowMax : Nat := 274877906944
def rowAt (M : Mem) (i v : Nat) : Option RowC := match M[i]? with
  | some (.row t xs cv cc none) => bif Nat.beq v cv then some ⟨t, xs, cc⟩ else none
  | _ => none
/-- the same, whatever has been taken out -/
def rowIx (M : Mem) (i v : Nat) : Option RowC := match M[i]? with
  | some (.row t xs cv cc _) => bif Nat.beq v cv then some ⟨t, xs, cc⟩ else none
  | _ => none
/-- the list in cell o of element k of own row i, as long as its content is that -/
def readSl (M : Mem) (i v c n k o : Nat) : Option RowC := match M[i]? with
  | some (.row t xs cv cc none) => bif (Nat.beq v cv && Nat.beq c cc) && Nat.beq n t.n then listAt t (nth t xs k) o else none
  | _ => none
/-- a list that a cell holds: read -/
def readL (M : Mem) : AC → Option (Lnd × RowC)
  | .hs L t xs => bif liveL M L then some (L, ⟨t, xs, 0⟩) else none
  | .row i v => (rowAt M i v).map fun r => (.at i v r.c, r)
  | .sl i v c n k o => (readSl M i v c n k o).map fun r => (.at i v c, r)
  | _ => none
/-- cells of our own, made a value; the rows that lie in it -/
def ownInt (k : IntKind) : List AC → Option (Int × List AC × List Nat)
  | .int k' x :: l => if k' = k then some (x, l, []) else none
  | _ => none
def ownBool : List AC → Option (Bool × List AC × List Nat)
  | .bool b :: l => some (b, l, [])
  | _ => none
def ownStr : List AC → Option (ByteArray × List AC × List Nat)
  | .str b :: l => some (b, l, [])
  | _ => none
def ownOpq : List AC → Option (Value × List AC × List Nat)
  | .opq v :: l => some (v, l, [])
  | _ => none
def ownList (M : Mem) (a : Ty) : List AC → Option (List a.den × List AC × List Nat)
  | .row i v :: l => match rowAt M i v with
    | some r => if h : r.t = a then some (h ▸ r.xs, l, [i]) else none
    | none => none
  | .raw (.slice none 0 0) :: l => some ([], l, [])
  | _ => none
def ownT (M : Mem) : (t : Ty) → List AC → Option (t.den × List AC × List Nat)
  | .int k, l => ownInt k l
  | .bool, l => ownBool l
  | .str, l => ownStr l
  | .opq, l => ownOpq l
  | .prod a b, l => match ownT M a l with
    | some (x, l1, j1) => match ownT M b l1 with
      | some (y, l2, j2) => some ((x, y), l2, j1 ++ j2)
      | none => none
    | none => none
  | .list a, l => ownList M a l
/-- one value, nothing left -/
def ownV (M : Mem) (t : Ty) (x : AV) : Option (t.den × List Nat) := match cellsA x with
  | some l => match ownT M t l with
    | some (y, [], js) => some (y, js)
    | _ => none
  | none => none
/-- a slice literal's places 0, 1, .. in a row -/
def ownParts (M : Mem) (t : Ty) : Nat → List (Nat × AV) → Option (List t.den × List Nat)
  | _, [] => some ([], [])
  | k, (i, x) :: l => bif Nat.beq i k then (match ownV M t x with
      | some (y, js) => match ownParts M t (k + 1) l with
        | some (ys, ks) => some (y :: ys, js ++ ks)
        | none => none
      | none => none) else none
def killM (M : Mem) : List Nat → Mem
  | [] => M
  | j :: js => killM (M.set j .dead) js
def distinct : List Nat → Bool
  | [] => true
  | j :: js => js.all (fun i => !Nat.beq i j) && distinct js
/-- what is laid behind a row: the elements, the rows that are used up -/
structure AddR where
  t : Ty
  ys : List t.den
  js : List Nat
  nd : Prop
def addA (M : Mem) : AV → Option AddR
  | .w (.c (.sl i v c n k o)) => match readSl M i v c n k o with
    | some r => bif r.t.flat then some ⟨r.t, r.xs, [], True⟩ else none
    | none => none
  | .w (.c (.hs L t ys)) => bif liveL M L then (bif t.flat then some ⟨t, ys, [], True⟩ else some ⟨t, [], [], ys = []⟩) else none
  | .w (.c (.row j v)) => match rowAt M j v with
    | some r => some ⟨r.t, r.xs, bif r.t.flat then [] else [j], True⟩
    | none => none
  | _ => none
def isNilV : AV → Bool
  | .w (.c (.raw (.slice none 0 0))) => true
  | _ => false
theorem isNilV_eq {y : AV} (h : isNilV y = true) : y = .w (.c (.raw (.slice none 0 0))) := by
  unfold isNilV at h
  split at h
  · rfl
  · cases h
def appendA (P : Program) (M : Mem) (e : TypeId) (x y : AV) : OR :=
  match x with
  | .w (.c (.row i v)) => match M[i]? with
    | some (.row t xs cv cc none) => bif Nat.beq v cv then (bif isNilV y then (bif rowTy P e t.n then ⟨True, x, M⟩ else .no) else (match addA M y with
        | some r => if h : r.t = t then (bif rowTy P e t.n && r.js.all (fun j => !Nat.beq j i) then ⟨r.nd ∧ xs.length + r.ys.length ≤ rowMax, .c (.row i (v + 1)), (killM M r.js).set i (.row t (xs ++ h ▸ r.ys) (v + 1) (cc + 1) none)⟩ else .no) else .no
        | none => .no)) else .no
    | _ => .no
  | .w (.c (.raw (.slice none 0 0))) => match addA M y with
    | some r => bif rowTy P e r.t.n then ⟨r.nd ∧ r.ys.length ≤ rowMax, .c (.row M.length 0), killM M r.js ++ [.row r.t r.ys 0 0 none]⟩ else .no
    | none => .no
  | _ => .no
/-- a struct literal: the parts laid over the zero cells -/
def fillA (pl : Array (Nat × Nat)) : List AC → List (Nat × AV) → Option (List AC)
  | l, [] => some l
  | l, (i, x) :: r => match pl[i]?, cellsA x with
    | some q, some cs => bif Nat.beq cs.length q.2 && Nat.ble (q.1 + cs.length) l.length then fillA pl (l.take q.1 ++ cs ++ l.drop (q.1 + cs.length)) r else none
    | _, _ => none
def placesT (P : Program) (fs : List Field) : Option (List (Nat × Nat)) := fs.mapM (fun f => (P.info? f.type).map fun i => (f.offset, i.size))
def buildA (P : Program) (t : TypeId) (parts : List (Nat × AV)) : Option (List AC) :=
  match P.underlying t, (P.info? t).bind (·.zero) with
  | some (.struct fs), some z => match placesT P fs.toList with
    | some pl => bif z.cells.toList.all absOk then fillA pl.toArray (z.cells.toList.map absC) parts else none
    | none => none
  | _, _ => none
def ownWhole (M : Mem) (t : Ty) (l : List AC) : Option (t.den × List Nat) := match ownT M t l with
  | some (y, [], js) => some (y, js)
  | _ => none
/-- cells laid over a value's cells from place o on: the value, the rows that now lie in it -/
def setAt (M : Mem) : (t : Ty) → t.den → Nat → List AC → Option (t.den × List Nat)
  | .prod a b, x, o, l => bif Nat.beq o 0 && Nat.beq l.length (a.n + b.n) then ownWhole M (.prod a b) l
    else bif Nat.ble (o + l.length) a.n then (match setAt M a x.1 o l with
      | some (y, js) => some ((y, x.2), js)
      | none => none)
    else bif Nat.ble a.n o then (match setAt M b x.2 (o - a.n) l with
      | some (y, js) => some ((x.1, y), js)
      | none => none) else none
  | .int k, _, o, l => bif Nat.beq o 0 && Nat.beq l.length 1 then ownWhole M (.int k) l else none
  | .bool, _, o, l => bif Nat.beq o 0 && Nat.beq l.length 1 then ownWhole M .bool l else none
  | .str, _, o, l => bif Nat.beq o 0 && Nat.beq l.length 1 then ownWhole M .str l else none
  | .opq, _, o, l => bif Nat.beq o 0 && Nat.beq l.length 1 then ownWhole M .opq l else none
  | .list a, _, o, l => bif Nat.beq o 0 && Nat.beq l.length 1 then ownWhole M (.list a) l else none
/-- the list in cell o of element k taken out of own row i -/
def liftM (M : Mem) (i v c n k o : Nat) : Option Mem := match M[i]? with
  | some (.row t xs cv cc none) => bif (Nat.beq v cv && Nat.beq c cc) && Nat.beq n t.n then (match listAt t (nth t xs k) o with
      | some r => some ((M.set i (.row t xs v (c + 1) (some (k, o, M.length)))) ++ [.row r.t r.xs 0 0 none])
      | none => none) else none
  | _ => none
/-- .. and laid back, if its value is as it was -/
def closeM (M : Mem) (i : Nat) : Mem := match M[i]? with
  | some (.row t xs v c (some (k, o, j))) => match M[j]? with
    | some (.row a ys w _ none) => match listAt t (nth t xs k) o with
      | some r => bif (Nat.beq w 0 && !Nat.beq j i) && decide (r.t = a) then (killM M [j]).set i (.row t (xs.set k (putAt a ys t (nth t xs k) o)) v (c + 1) none) else M
      | none => M
    | _ => M
  | _ => M
def closeL (M : Mem) : List Nat → Mem
  | [] => M
  | i :: l => closeL (closeM M i) l
def closeAll (M : Mem) : Mem := closeL M (List.range M.length)
def liftC (M : Mem) : AC → Option (AC × Mem)
  | .sl i v c n k o => (liftM M i v c n k o).map fun M' => (.row M.length 0, M')
  | _ => none
/-- the first list of an own row's that stands there -/
def liftL (M : Mem) : List AC → Option (List AC × Mem)
  | [] => none
  | c :: l => match liftC M c with
    | some (c', M') => some (c' :: l, M')
    | none => (liftL M l).map fun p => (c :: p.1, p.2)
def liftV (M : Mem) : AV → Option (AV × Mem)
  | .w (.c (.sp i v c n k o m x q)) => (liftM M i v c n k o).map fun M' => (.c (.rp M.length 0 m x q), M')
  | .w (.c c) => (liftC M c).map fun p => (.c p.1, p.2)
  | .w (.ag l) => (liftL M l).map fun p => (.ag p.1, p.2)
  | _ => none
def liftT (tm : List AV) (M : Mem) (t : Nat) : List AV × Mem := match tm[t]? with
  | some x => match liftV M x with
    | some (v, M') => (tm.set t v, M')
    | none => (tm, M)
  | none => (tm, M)
/-- the cells l' over cell o of element k of a row -/
def storeR (P : Program) (M : Mem) (t : TypeId) (i v n k o : Nat) (l' : List AC) : OR :=
  match M[i]? with
  | some (.row tt xs cv cc none) => bif (Nat.beq v cv && Nat.beq n tt.n) && (Nat.beq l'.length (sizeT P t) && Nat.blt 0 (sizeT P t)) then
      (match setAt M tt (nth tt xs k) o l' with
      | some (y, js) => bif distinct js && js.all (fun j => !Nat.beq j i) then ⟨True, .any, (killM M js).set i (.row tt (xs.set k y) cv (cc + 1) none)⟩ else .no
      | none => .no) else .no
  | _ => .no
def holed (M : Mem) (i : Nat) : Bool := match M[i]? with
  | some (.row _ _ _ _ (some _)) => true
  | _ => false
/-- a list laid where one was taken out -/
def storeH (P : Program) (M : Mem) (t : TypeId) (i v n k o : Nat) (l' : List AC) : OR :=
  match M[i]? with
  | some (.row tt xs cv cc (some (k0, o0, _))) => bif (Nat.beq v cv && Nat.beq n tt.n) && (Nat.beq o o0 && (Nat.beq l'.length 1 && Nat.beq (sizeT P t) 1)) then (match listAt tt (nth tt xs k0) o with
      | some r => match ownWhole M (.list r.t) l' with
        | some (ys, js) => bif distinct js && js.all (fun j => !Nat.beq j i) then ⟨k = k0, .any, (killM M js).set i (.row tt (xs.set k0 (putAt r.t ys tt (nth tt xs k0) o)) cv (cc + 1) none)⟩ else .no
        | none => .no
      | none => .no) else .no
  | _ => .no
/-- a list loaded out of an own row keeps its place -/
def slL (i v c n k : Nat) : Nat → List AC → List AC
  | _, [] => []
  | o, .hs _ _ _ :: l => .sl i v c n k o :: slL i v c n k (o + 1) l
  | o, x :: l => x :: slL i v c n k (o + 1) l
def slV (u : AV) (i v c n k o : Nat) : AV := match u with
  | .w (.c (.hs _ _ _)) => .c (.sl i v c n k o)
  | .w (.ag l) => .ag (slL i v c n k o l)
  | u => u
/-- cells of which nothing is known stand in it -/
def Ty.hasOpq : Ty → Bool
  | .prod a b => a.hasOpq || b.hasOpq
  | .opq => true
  | _ => false
/-- an empty row made a row of another type of the same size, for such elements -/
def retyp (M : Mem) (x y : AV) : Option (AV × Mem) := match x, y with
  | .w (.c (.row i v)), .w (.c (.hs .no t' ys)) => bif t'.hasOpq then (match M[i]? with
    | some (.row t xs cv _ none) => if t = t' then none else (match xs with
      | [] => bif Nat.beq v cv && Nat.beq t.n t'.n then some (.c (.row M.length 0), killM M [i] ++ [.row t' [] 0 0 none]) else none
      | _ :: _ => none)
    | _ => none) else none
  | _, _ => none
def tyCell : AC → Option Ty
  | .int k _ => some (.int k)
  | .bool _ => some .bool
  | .str _ => some .str
  | .opq _ => some .opq
  | _ => none
def tyCells : List AC → Option Ty
  | [] => none
  | [c] => tyCell c
  | c :: l => match tyCell c, tyCells l with
    | some a, some b => some (.prod a b)
    | _, _ => none
/-- the type of a literal's first element, if such cells stand in it -/
def litTy (ps : List (Nat × AV)) : Option Ty := match ps with
  | (_, .w (.ag l)) :: _ => match tyCells l with
    | some t => bif t.hasOpq then some t else none
    | none => none
  | _ => none
/-- bytes as a text, a text's bytes -/
def bytesOf (xs : List Int) : ByteArray := ⟨(xs.map fun n => UInt8.ofNat n.toNat).toArray⟩
def byteL (s : ByteArray) : List Int := s.data.toList.map fun b => ((b.toNat : Nat) : Int)
def isU8 (P : Program) (e : TypeId) : Bool := match P.underlying e with
  | some (.int .u8) => true
  | _ => false
def rowU8 : RowC → Option (List Int)
  | ⟨.int .u8, xs, _⟩ => some xs
  | _ => none
def strOf (M : Mem) : AC → Option (List Int)
  | .raw (.slice none 0 0) => some []
  | c => match readL M c with
    | some (_, r) => rowU8 r
    | none => none
/-- a type of one byte -/
def byteTy (P : Program) (e : TypeId) : Bool := match P.info? e with
  | some i => (Nat.beq i.size 1 && Nat.beq i.bytes 1) && match i.zero with | some (.int .u8 n) => decide (n = 0) | _ => false
  | none => false
/-- append of a text's bytes -/
def appendS (P : Program) (M : Mem) (e : TypeId) (x : AV) (s : ByteArray) : OR :=
  match x with
  | .w (.c (.row i v)) => match M[i]? with
    | some (.row (.int .u8) xs cv cc none) => bif Nat.beq v cv && byteTy P e then ⟨List.length (α := Int) xs + (byteL s).length ≤ rowMax, .c (.row i (v + 1)), M.set i (.row (.int .u8) (List.append (α := Int) xs (byteL s)) (v + 1) (cc + 1) none)⟩ else .no
    | _ => .no
  | .w (.c (.raw (.slice none 0 0))) => bif byteTy P e then ⟨(byteL s).length ≤ rowMax, .c (.row M.length 0), M ++ [.row (.int .u8) (byteL s) 0 0 none]⟩ else .no
  | _ => .no
/-- an operation that calls nothing -/
def opA (P : Program) (tm : List AV) (M : Mem) (o : Oper) : OR :=
  let ρ := evalA tm
  match o.op with
  | .move x => ⟨True, ρ x, M⟩
  | .assign x => ⟨True, ρ x, M⟩
  | .pick c a b => match ρ c with
    | .w (.c (.bool g)) => ⟨True, pickA g (ρ a) (ρ b), M⟩
    | _ => .no
  | .alloc e => match (P.info? e).bind (·.zero) with
    | some z => bif z.cells.toList.all absOk then ⟨True, .c (.bp M.length 0), M ++ [.box (z.cells.toList.map absC)]⟩ else .no
    | none => .no
  | .box _ x => match cellsA (ρ x) with
    | some l => ⟨True, .c (.bp M.length 0), M ++ [.box l]⟩
    | none => .no
  | .load t a => match ρ a with
    | .w (.c (.bp i o)) => match M[i]? with
      | some (.box l) => match loadA P t l o with
        | some v => ⟨True, v, M⟩
        | none => .no
      | _ => .no
    | .w (.c (.ep L t' xs k o)) => bif liveL M L then (match loadA P t (cellsW L t' (nth t' xs k)) o with
        | some v => ⟨True, v, M⟩
        | none => .no) else .no
    | .w (.c (.rp i v n k o)) => match rowAt M i v with
        | some r => bif Nat.beq n r.t.n then (match loadA P t (cellsW (.at i v r.c) r.t (nth r.t r.xs k)) o with
          | some u => ⟨True, slV u i v r.c n k o, M⟩
          | none => .no) else .no
        | none => .no
    | .w (.c (.sp i v c n k o m x q)) => match readSl M i v c n k o with
        | some r => bif Nat.beq m r.t.n then (match loadA P t (cellsW (.at i v c) r.t (nth r.t r.xs x)) q with
          | some u => ⟨True, u, M⟩
          | none => .no) else .no
        | none => .no
    | _ => .no
  | .store t a x => match ρ a, cellsA (ρ x) with
    | .w (.c (.bp i o)), some l' => match M[i]? with
      | some (.box l) => bif (Nat.beq l'.length (sizeT P t)) && (Nat.ble (o + l'.length) l.length && Nat.blt 0 (sizeT P t)) then ⟨True, .any, M.set i (.box (l.take o ++ l' ++ l.drop (o + l'.length)))⟩ else .no
      | _ => .no
    | .w (.c (.rp i v n k o)), some l' => bif holed M i then storeH P M t i v n k o l' else storeR P M t i v n k o l'
    | _, _ => .no
  | .build t parts => match buildA P t (parts.toList.map fun p => (p.1, ρ p.2)) with
    | some l => ⟨True, .ag l, M⟩
    | none => .no
  | .nilCheck x => match ρ x with
    | .w (.c (.bp i o)) => ⟨True, .c (.bp i o), M⟩
    | .w (.c (.ep L t xs k o)) => bif liveL M L then ⟨True, .c (.ep L t xs k o), M⟩ else .no
    | .w (.c (.rp i v n k o)) => bif (rowIx M i v).isSome then ⟨True, .c (.rp i v n k o), M⟩ else .no
    | .w (.c (.sp i v c n k o m x q)) => bif (readSl M i v c n k o).isSome then ⟨True, .c (.sp i v c n k o m x q), M⟩ else .no
    | .w (.c (.fn f l)) => ⟨True, .c (.fn f l), M⟩
    | _ => .no
  | .binOp op t x y _ => let r := binA P op t (ρ x) (ρ y); ⟨r.1, .c r.2, M⟩
  | .unOp .not _ x => match ρ x with
    | .w (.c (.bool b)) => ⟨True, .c (.bool (!b)), M⟩
    | _ => .no
  | .unOp .neg _ x => match ρ x with
    | .w (.c (.int k n)) => ⟨True, .c (.int k (k.wrap (0 - n))), M⟩
    | _ => .no
  | .convert s d x => match P.underlying d, ρ x with
    | some (.int k), .w (.c (.int _ n)) => ⟨(P.underlying s).isSome = true, .c (.int k (k.wrap n)), M⟩
    | some .string, .w (.c c) => match P.underlying s with
      | some (.slice e) => bif isU8 P e then (match strOf M c with
        | some xs => ⟨xs.length ≤ maxLen, .c (.str (bytesOf xs)), M⟩
        | none => .no) else .no
      | _ => .no
    | _, _ => .no
  | .makeFunc (.func f) first captured => match first.toList, capsOf (captured.toList.map ρ) with
    | [], some l => ⟨True, .c (.fn f l), M⟩
    | _, _ => .no
  | .slice t x lo hi none => match P.underlying t with
    | some .string => match ρ x with
      | .w (.c (.str _)) => let r := sliceA (ρ x) (lo.map ρ) (hi.map ρ); ⟨r.1, .c r.2, M⟩
      | _ => .no
    | some (.slice e) => match ρ x with
      | .w (.c a) => match readL M a with
        | some (L, q) => let r := sliceA (.c (.hs L q.t q.xs)) (lo.map ρ) (hi.map ρ); ⟨sizeT P e = q.t.n ∧ r.1, .c r.2, M⟩
        | none => .no
      | _ => .no
    | _ => .no
  | .fieldAddr s x f => match fieldAt? P s f with
    | some f => bif Nat.beq (sizeT P f.type) 0 then .no else match ρ x with
      | .w (.c (.bp i o)) => ⟨True, .c (.bp i (o + f.offset)), M⟩
      | .w (.c (.ep L t xs k o)) => bif liveL M L then ⟨True, .c (.ep L t xs k (o + f.offset)), M⟩ else .no
      | .w (.c (.rp i v n k o)) => bif (rowIx M i v).isSome then ⟨True, .c (.rp i v n k (o + f.offset)), M⟩ else .no
      | .w (.c (.sp i v c n k o m x q)) => bif (readSl M i v c n k o).isSome then ⟨True, .c (.sp i v c n k o m x (q + f.offset)), M⟩ else .no
      | _ => .no
    | none => .no
  | .indexAddr t x i => match P.underlying t, ρ x, ρ i with
    | some (.slice e), .w (.c (.hs L t' xs)), .w (.c (.int _ n)) => bif liveL M L then ⟨sizeT P e = t'.n ∧ 0 ≤ n ∧ n < (xs.length : Int), .c (.ep L t' xs n.toNat 0), M⟩ else .no
    | some (.slice e), .w (.c (.row i v)), .w (.c (.int _ n)) => match rowIx M i v with
      | some r => ⟨sizeT P e = r.t.n ∧ 0 ≤ n ∧ n < (r.xs.length : Int), .c (.rp i v r.t.n n.toNat 0), M⟩
      | none => .no
    | some (.slice e), .w (.c (.sl i v c n k o)), .w (.c (.int _ x)) => match readSl M i v c n k o with
      | some r => ⟨sizeT P e = r.t.n ∧ 0 ≤ x ∧ x < (r.xs.length : Int), .c (.sp i v c n k o r.t.n x.toNat 0), M⟩
      | none => .no
    | _, _, _ => .no
  | .index t x i => match P.underlying t, ρ x, ρ i with
    | some .string, .w (.c (.str s)), .w (.c (.int _ n)) => ⟨0 ≤ n ∧ n < (s.size : Int), .c (.int .u8 (byteAt s n.toNat)), M⟩
    | _, _, _ => .no
  | .buildSlice t len parts => match P.underlying t with
    | some (.slice e) => match tyOf P 8 e with
      | some tt => match ownParts M tt 0 (parts.toList.map fun p => (p.1, ρ p.2)) with
        | some (ys, js) => bif (rowTy P e tt.n && Nat.ble (len * tt.n) 16777216) && (Nat.beq len parts.size && distinct js) then ⟨True, .c (.row M.length 0), killM M js ++ [.row tt ys 0 0 none]⟩ else .no
        | none => bif tt.flat then .no else (match litTy (parts.toList.map fun p => (p.1, ρ p.2)) with
          | some tq => (match ownParts M tq 0 (parts.toList.map fun p => (p.1, ρ p.2)) with
            | some (ys, js) => bif (rowTy P e tq.n && Nat.ble (len * tq.n) 16777216) && (Nat.beq len parts.size && distinct js) then ⟨True, .c (.row M.length 0), killM M js ++ [.row tq ys 0 0 none]⟩ else .no
            | none => .no)
          | none => .no)
      | none => .no
    | _ => .no
  | .makeSlice t l c => match P.underlying t, ρ l, ρ c with
    | some (.slice e), .w (.c (.int .i64 n)), .w (.c (.int .i64 m)) => match tyOf P 8 e, (P.info? e).bind (·.zero) with
      | some tt, some z => bif z.cells.toList.all absOk && rowTy P e tt.n then (match ownWhole M tt (z.cells.toList.map absC) with
        | some (d, []) => ⟨n = m ∧ 0 ≤ n ∧ n ≤ (rowMax : Nat), .c (.row M.length 0), M ++ [.row tt (List.replicate n.toNat d) 0 0 none]⟩
        | _ => .no) else .no
      | _, _ => .no
    | _, _, _ => .no
  | .extract x i => match ρ x with
    | .tp l => match l[i]? with
      | some w => ⟨True, .w w, M⟩
      | none => .no
    | _ => .no
  | .call c => match c.callee with
    | .builtin .len => match c.argTypes.toList, c.args.toList with
      | [t], [x] => match P.underlying t, ρ x with
        | some .string, .w (.c (.str s)) => ⟨True, .c (.int .i64 (s.size : Nat)), M⟩
        | some (.slice _), .w (.c (.raw (.slice none 0 0))) => ⟨True, .c (.int .i64 0), M⟩
        | some (.slice _), .w (.c a) => match readL M a with
          | some (_, q) => ⟨True, .c (.int .i64 (q.xs.length : Nat)), M⟩
          | none => .no
        | _, _ => .no
      | _, _ => .no
    | .builtin .append => match c.argTypes.toList, c.args.toList with
      | [t, t2], [x, y] => match P.underlying t with
        | some (.slice e) => bif Nat.beq t t2 then (match retyp M (ρ x) (ρ y) with | some q => appendA P q.2 e q.1 (ρ y) | none => appendA P M e (ρ x) (ρ y)) else (match P.underlying t2, ρ y with
          | some .string, .w (.c (.str s)) => appendS P M e (ρ x) s
          | _, _ => .no)
        | _ => .no
      | _, _ => .no
    | .builtin .min => match c.args.toList.map ρ with
      | [.w (.c (.int k a)), .w (.c (.int k' b))] => ⟨k = k', .c (.int k (if b < a then b else a)), M⟩
      | [.w (.c (.int k a)), .w (.c (.int k' b)), .w (.c (.int k'' c))] => ⟨k = k' ∧ k = k'', .c (.int k (if c < (if b < a then b else a) then c else (if b < a then b else a))), M⟩
      | _ => .no
    | .builtin .max => match c.args.toList.map ρ with
      | [.w (.c (.int k a)), .w (.c (.int k' b))] => ⟨k = k', .c (.int k (if b > a then b else a)), M⟩
      | _ => .no
    | _ => .no
  | _ => .no
end Go.Proofs.YtkompmgleojmlaaDoor
