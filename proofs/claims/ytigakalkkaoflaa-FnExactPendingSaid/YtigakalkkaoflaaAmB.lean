/-
  The abstract machine's operations, and that each does what the model's operation does.
  Plain: no program. No condition.
-/
import Derived.Test.YtigakalkkaoflaaAmA
set_option linter.unusedSimpArgs false
set_option linter.unusedVariables false
namespace Go.Proofs.Ytigakalkkaoflaa
open Go.ChangeShapes Go.WideShapes Go.ChangeAt Go.RowKit Go.Joins Go.Deep
open GoRep (rep bulk)

def absC : Value → AC
  | .int k n => .int k n
  | .bool b => .bool b
  | .string s => .str s
  | v => .raw v
def absOk : Value → Bool
  | .int k n => (Lit.int k n).wf
  | .string s => decide (s.size ≤ maxLen)
  | v => v.oneCell'
def absV : Value → AV
  | .agg cs => if cs.toList.all absOk then .ag (cs.toList.map absC) else .any
  | v => if absOk v then .c (absC v) else .any
def evalA (tm : List AV) : Operand → AV
  | .tmp t => tm.getD t .any
  | .const v => absV v
  | .global _ => .any
  | .func f => .c (.fn f [])
/-- what an operation asks, what it yields, what becomes of the own blocks -/
structure OR where
  need : Prop
  val : AV
  mem : Mem
def OR.no : OR := ⟨False, .any, []⟩
def aggD : TypeDesc → Bool
  | .struct _ => true
  | .array _ _ => true
  | _ => false
def sizeT (P : Program) (t : TypeId) : Nat := match P.info? t with | some i => i.size | none => 0
def loadA (P : Program) (t : TypeId) (l : List AC) (o : Nat) : Option AV :=
  match P.underlying t with
  | some d => bif aggD d then (bif Nat.ble (o + sizeT P t) l.length then some (.ag ((l.drop o).take (sizeT P t))) else none) else l[o]?.map .c
  | none => none
def cellsA : AV → Option (List AC)
  | .w (.c a) => some [a]
  | .w (.ag l) => some l
  | _ => none
def intA (op : BinOp) (k : IntKind) (a b : Int) : Prop × AC :=
  match op with
  | .add => (True, .int k (k.wrap (a + b)))
  | .sub => (True, .int k (k.wrap (a - b)))
  | .mul => (True, .int k (k.wrap (a * b)))
  | .quo => (b ≠ 0, .int k (k.wrap (a.tdiv b)))
  | .rem => (b ≠ 0, .int k (a.tmod b))
  | .and => (True, .int k (k.wrap ((BitVec.ofInt k.bits a &&& BitVec.ofInt k.bits b).toNat : Nat)))
  | .or => (True, .int k (k.wrap ((BitVec.ofInt k.bits a ||| BitVec.ofInt k.bits b).toNat : Nat)))
  | .xor => (True, .int k (k.wrap ((BitVec.ofInt k.bits a ^^^ BitVec.ofInt k.bits b).toNat : Nat)))
  | .andNot => (True, .int k (k.wrap ((BitVec.ofInt k.bits a &&& ~~~ BitVec.ofInt k.bits b).toNat : Nat)))
  | .eql => (True, .bool (a == b))
  | .neq => (True, .bool (a != b))
  | .lss => (True, .bool (decide (a < b)))
  | .leq => (True, .bool (decide (a ≤ b)))
  | .gtr => (True, .bool (decide (a > b)))
  | .geq => (True, .bool (decide (a ≥ b)))
  | _ => (False, .bool false)
def strA (op : BinOp) (a b : ByteArray) : Prop × AC :=
  match op with
  | .add => (a.size + b.size ≤ maxLen, .str (a ++ b))
  | .eql => (True, .bool (decide (a = b)))
  | .neq => (True, .bool (!decide (a = b)))
  | .lss => (True, .bool (Op.bytesLess a.toList b.toList))
  | .leq => (True, .bool (Op.bytesLess a.toList b.toList || decide (a = b)))
  | .gtr => (True, .bool (!(Op.bytesLess a.toList b.toList || decide (a = b))))
  | .geq => (True, .bool (!Op.bytesLess a.toList b.toList))
  | _ => (False, .bool false)
def scalTy (P : Program) (t : TypeId) (a b : AC) : Bool :=
  match P.underlying t, a, b with
  | some (.int _), .int k _, .int k' _ => decide (k = k')
  | some .bool, .bool _, .bool _ => true
  | some .string, .str _, .str _ => true
  | _, _, _ => false
/-- fields of one cell each, from place n on, that '==' compares -/
def flatFields (P : Program) : List Field → Nat → List AC → List AC → Bool
  | [], _, [], [] => true
  | f :: fs, n, a :: as', b :: bs => (Nat.beq f.offset n && (f.name != "_" && scalTy P f.type a b)) && flatFields P fs (n + 1) as' bs
  | _, _, _, _ => false
def eqCells : List AC → List AC → Bool
  | .int _ a :: l, .int _ b :: k => (a == b) && eqCells l k
  | .bool a :: l, .bool b :: k => (a == b) && eqCells l k
  | .str a :: l, .str b :: k => decide (a = b) && eqCells l k
  | _, _ => true
def flatEq (P : Program) (t : TypeId) (l k : List AC) : Bool :=
  match P.underlying t with
  | some (.struct fs) => flatFields P fs.toList 0 l k && (!P.stoodInHeld t && !P.eqGuardType P.depth t)
  | _ => false
def binA (P : Program) (op : BinOp) (t : TypeId) (x y : AV) : Prop × AC :=
  match x, y with
  | .w (.c (.int k a)), .w (.c (.int k' b)) => if k = k' then (match op with | .shl => (False, .bool false) | .shr => (False, .bool false) | op => intA op k a b) else (False, .bool false)
  | .w (.c (.str a)), .w (.c (.str b)) => strA op a b
  | .w (.c (.bool a)), .w (.c (.bool b)) => match op with
    | .eql => (P.underlying t = some .bool, .bool (a == b))
    | .neq => (P.underlying t = some .bool, .bool (!(a == b)))
    | _ => (False, .bool false)
  | .w (.ag l), .w (.ag k) => match op with
    | .eql => (flatEq P t l k = true, .bool (eqCells l k))
    | .neq => (flatEq P t l k = true, .bool (!eqCells l k))
    | _ => (False, .bool false)
  | _, _ => (False, .bool false)
def pickA (g : Bool) (x y : AV) : AV :=
  match x, y with
  | .w (.c (.bool a)), .w (.c (.bool b)) => .c (.bool (bif g then a else b))
  | .w (.c (.int k a)), .w (.c (.int k' b)) => if k = k' then .c (.int k (bif g then a else b)) else (bif g then x else y)
  | .w (.c (.str a)), .w (.c (.str b)) => .c (.str (bif g then a else b))
  | x, y => bif g then x else y
def byteAt (s : ByteArray) (n : Nat) : Int := ((s.data.toList.getD n 0).toNat : Nat)
def loI (lo : Option AV) : Option Int := match lo with | none => some 0 | some (.w (.c (.int _ l))) => some l | _ => none
def hiI (n : Nat) (hi : Option AV) : Option Int := match hi with | none => some (n : Int) | some (.w (.c (.int _ l))) => some l | _ => none
def sliceA (x : AV) (lo hi : Option AV) : Prop × AC :=
  match x with
  | .w (.c (.str s)) => match loI lo, hiI s.size hi with
    | some l, some h => (0 ≤ l ∧ l ≤ h ∧ h ≤ (s.size : Int), .str (s.extract l.toNat h.toNat))
    | _, _ => (False, .bool false)
  | .w (.c (.hs t xs)) => match loI lo, hiI xs.length hi with
    | some l, some h => (0 ≤ l ∧ l ≤ h ∧ h ≤ (xs.length : Int), .hs t ((xs.take h.toNat).drop l.toNat))
    | _, _ => (False, .bool false)
  | _ => (False, .bool false)
def fieldAt? (P : Program) (s : TypeId) (f : Nat) : Option Field :=
  match P.underlying s with
  | some (.struct fs) => fs[f]?
  | _ => none
def capsOf : List AV → Option (List Nat)
  | [] => some []
  | .w (.c (.bp i 0)) :: l => (capsOf l).map (i :: ·)
  | _ => none
/-- an operation that calls nothing -/
def opA (P : Program) (tm : List AV) (M : Mem) (o : Oper) : OR :=
  let ρ := evalA tm
  match o.op with
  | .move x => ⟨True, ρ x, M⟩
  | .assign x => ⟨True, ρ x, M⟩
  | .pick c a b => match ρ c with
    | .w (.c (.bool g)) => ⟨True, pickA g (ρ a) (ρ b), M⟩
    | _ => .no
  | .alloc e => match (P.info? e).bind (·.zero) with
    | some z => bif z.cells.toList.all absOk then ⟨True, .c (.bp M.length 0), M ++ [.box (z.cells.toList.map absC)]⟩ else .no
    | none => .no
  | .box _ x => match cellsA (ρ x) with
    | some l => ⟨True, .c (.bp M.length 0), M ++ [.box l]⟩
    | none => .no
  | .load t a => match ρ a with
    | .w (.c (.bp i o)) => match M[i]? with
      | some (.box l) => match loadA P t l o with
        | some v => ⟨True, v, M⟩
        | none => .no
      | _ => .no
    | .w (.c (.ep t' xs k o)) => match loadA P t (cellsOf t' (nth t' xs k)) o with
        | some v => ⟨True, v, M⟩
        | none => .no
    | _ => .no
  | .store t a x => match ρ a, cellsA (ρ x) with
    | .w (.c (.bp i o)), some l' => match M[i]? with
      | some (.box l) => bif (Nat.beq l'.length (sizeT P t)) && (Nat.ble (o + l'.length) l.length && Nat.blt 0 (sizeT P t)) then ⟨True, .any, M.set i (.box (l.take o ++ l' ++ l.drop (o + l'.length)))⟩ else .no
      | _ => .no
    | _, _ => .no
  | .nilCheck x => match ρ x with
    | .w (.c (.bp i o)) => ⟨True, .c (.bp i o), M⟩
    | .w (.c (.ep t xs k o)) => ⟨True, .c (.ep t xs k o), M⟩
    | .w (.c (.fn f l)) => ⟨True, .c (.fn f l), M⟩
    | _ => .no
  | .binOp op t x y _ => let r := binA P op t (ρ x) (ρ y); ⟨r.1, .c r.2, M⟩
  | .unOp .not _ x => match ρ x with
    | .w (.c (.bool b)) => ⟨True, .c (.bool (!b)), M⟩
    | _ => .no
  | .unOp .neg _ x => match ρ x with
    | .w (.c (.int k n)) => ⟨True, .c (.int k (k.wrap (0 - n))), M⟩
    | _ => .no
  | .convert s d x => match P.underlying d, ρ x with
    | some (.int k), .w (.c (.int _ n)) => ⟨(P.underlying s).isSome = true, .c (.int k (k.wrap n)), M⟩
    | _, _ => .no
  | .makeFunc (.func f) first captured => match first.toList, capsOf (captured.toList.map ρ) with
    | [], some l => ⟨True, .c (.fn f l), M⟩
    | _, _ => .no
  | .slice t x lo hi none => match P.underlying t with
    | some .string => match ρ x with
      | .w (.c (.str _)) => let r := sliceA (ρ x) (lo.map ρ) (hi.map ρ); ⟨r.1, .c r.2, M⟩
      | _ => .no
    | some (.slice e) => match ρ x with
      | .w (.c (.hs t' xs)) => let r := sliceA (ρ x) (lo.map ρ) (hi.map ρ); ⟨sizeT P e = t'.n ∧ r.1, .c r.2, M⟩
      | _ => .no
    | _ => .no
  | .fieldAddr s x f => match fieldAt? P s f with
    | some f => bif Nat.beq (sizeT P f.type) 0 then .no else match ρ x with
      | .w (.c (.bp i o)) => ⟨True, .c (.bp i (o + f.offset)), M⟩
      | .w (.c (.ep t xs k o)) => ⟨True, .c (.ep t xs k (o + f.offset)), M⟩
      | _ => .no
    | none => .no
  | .indexAddr t x i => match P.underlying t, ρ x, ρ i with
    | some (.slice e), .w (.c (.hs t' xs)), .w (.c (.int _ n)) => ⟨sizeT P e = t'.n ∧ 0 ≤ n ∧ n < (xs.length : Int), .c (.ep t' xs n.toNat 0), M⟩
    | _, _, _ => .no
  | .index t x i => match P.underlying t, ρ x, ρ i with
    | some .string, .w (.c (.str s)), .w (.c (.int _ n)) => ⟨0 ≤ n ∧ n < (s.size : Int), .c (.int .u8 (byteAt s n.toNat)), M⟩
    | _, _, _ => .no
  | .extract x i => match ρ x with
    | .tp l => match l[i]? with
      | some w => ⟨True, .w w, M⟩
      | none => .no
    | _ => .no
  | .call c => match c.callee with
    | .builtin .len => match c.argTypes.toList, c.args.toList with
      | [t], [x] => match P.underlying t, ρ x with
        | some .string, .w (.c (.str s)) => ⟨True, .c (.int .i64 (s.size : Nat)), M⟩
        | some (.slice _), .w (.c (.hs _ xs)) => ⟨True, .c (.int .i64 (xs.length : Nat)), M⟩
        | some (.slice _), .w (.c (.raw (.slice none 0 0))) => ⟨True, .c (.int .i64 0), M⟩
        | _, _ => .no
      | _, _ => .no
    | .builtin .min => match c.args.toList.map ρ with
      | [.w (.c (.int k a)), .w (.c (.int k' b))] => ⟨k = k', .c (.int k (if b < a then b else a)), M⟩
      | _ => .no
    | .builtin .max => match c.args.toList.map ρ with
      | [.w (.c (.int k a)), .w (.c (.int k' b))] => ⟨k = k', .c (.int k (if b > a then b else a)), M⟩
      | _ => .no
    | _ => .no
  | _ => .no
end Go.Proofs.Ytigakalkkaoflaa
