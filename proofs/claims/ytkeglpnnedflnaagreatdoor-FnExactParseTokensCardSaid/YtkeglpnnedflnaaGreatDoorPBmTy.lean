import Derived.Test.YtkeglpnnedflnaaGreatDoorPBmFr
import Derived.Test.YtkeglpnnedflnaaGreatDoorPLists
import Derived.IntWalk
namespace Go.Proofs.YtkeglpnnedflnaaGreatDoor
open Go.ChangeShapes Go.WideShapes Go.ChangeAt Go.RowKit Go.Joins Go.Deep
def ZaF:Ty:=.int .i64
def Zao:Ty:=.bool
def Zah:Ty:=.str
def Zab:Ty:=(.prod ZaF Zah)
def Zai:Ty:=(.prod ZaF ZaF)
def Zae:Ty:=(.prod ZaF (.prod (.list Zah) ZaF))
def ZbF:Ty:=(.prod Zao (.list Zae))
def ZaH:Ty:=(.prod Zah (.prod ZaF (.prod Zah (.prod Zah (.prod Zao (.prod (.list Zai) (.prod ZaF (.prod ZaF (.prod Zah ZbF)))))))))
def Zue:Ty:=(.prod ZaF (.prod ZaF Zah))
def ZGt:Ty:=(.prod Zah (.prod ZaF (.prod ZaF (.list Zue))))
def ZfG:Ty:=(.prod ZaF (.prod ZaF (.prod ZaF (.prod ZaF (.prod Zah Zah)))))
def Zsy:Ty:=(.prod (.list ZGt) (.prod (.list ZfG) ZaF))
def Zsz:Ty:=(.prod Zao (.prod Zah (.prod ZaF (.prod ZaF (.prod (.list Zai) Zao)))))
def Zl8:Ty:=(.prod ZaF (.prod ZaF (.prod ZaF Zah)))
def ZsA:Ty:=(.prod (.list Zl8) (.prod Zao Zao))
def Zuf:Ty:=(.prod Zah Zah)
def ZHQ:Ty:=(.prod Zah Zao)
def Zkm:Ty:=(.prod Zao (.prod ZaF (.prod ZaF (.prod ZaF (.prod (.list Zai) (.prod ZbF (.prod Zah (.prod Zah (.prod ZsA (.prod ZHQ (.prod Zuf ZaF)))))))))))
def ZsB:Ty:=(.prod Zsy (.list Zkm))
def Zfn:Ty:=(.prod ZaF (.prod Zah ZaF))
def L0:Nat→List AV→Mem→Zbe:=fun _ _ _=>⟨Unit,fun _=>([],[]),fun _=>False,fun _=>0⟩
def tmI (tm:List AV) (i:Nat):Int:=match tm.getD i .any with | .w (.c (.int _ x))=>x | _=>0
def tmS (tm:List AV) (i:Nat):ByteArray:=match tm.getD i .any with | .w (.c (.str x))=>x | _=>⟨#[]⟩
def ZgY (M:Mem):List (Nat × Blk)→Mem
 | []=>M
 | p :: l=>ZgY (M.set p.1 p.2) l
theorem Zjq {x:AV}:leV x .any=True:=by unfold leV; split <;> simp_all
theorem Zjr {k:IntKind} {x y:Int}:leV (.w (.c (.int k x))) (.w (.c (.int k y)))=(x=y):=by simp [leV,leC]
theorem Zit {x y:Bool}:leV (.w (.c (.bool x))) (.w (.c (.bool y)))=(x=y):=by simp [leV,leC]
theorem ZlJ {x y:ByteArray}:leV (.w (.c (.str x))) (.w (.c (.str y)))=(x=y):=by simp [leV,leC]
theorem Zdb:∀ {x:AC},leC x x
 | .int _ _=>⟨rfl,rfl⟩
 | .bool _=>rfl
 | .str _=>rfl
 | .opq _=>rfl
 | .hs _ _ _=>⟨rfl,rfl,rfl⟩
 | .bp _ _=>rfl
 | .ep _ _ _ _ _=>rfl
 | .row _ _=>rfl
 | .rp _ _ _ _ _=>rfl
 | .sl _ _ _ _ _ _=>rfl
 | .sp _ _ _ _ _ _ _ _ _=>rfl
 | .tl _ _ _ _=>rfl
 | .mp _=>rfl
 | .fn _ _=>rfl
 | .raw _=>rfl
 | .junk=>rfl
theorem ZsC:∀ {x:List AC},leL x x
 | []=>trivial
 | _ :: _=>⟨Zdb,ZsC⟩
theorem ZgK {x:AV}:leV x x=True:=by
 cases x with
 | any=>simp [Zjq]
 | tp l=>simp [leV]
 | w x =>
  cases x with
  | c a=>exact eq_true (Zdb (x:=a))
  | ag l=>exact eq_true (ZsC (x:=l))
theorem ZeT {x:Blk}:leB x x=True:=by
 cases x with
 | box l=>exact eq_true (ZsC (x:=l))
 | row t xs v c h=>cases h with
  | none=>exact eq_true ⟨⟨rfl,rfl⟩,rfl,rfl⟩
  | some _=>simp [leB]
 | _=>simp [leB]
def TN:Nat→Prop→Prop
 | 0,p=>p
 | n + 1,p=>True∧TN n p
theorem ZyH {p:Prop}:∀ {n:Nat},TN n p=p
 | 0=>rfl
 | n + 1=>by
  show (True∧TN n p)=p
  rw [ZyH (n:=n),true_and]
def lxs:List AV→Prop→Prop
 | [],p=>p
 | x :: l,p=>leV x x∧lxs l p
theorem Zl9 {p:Prop}:∀ {l:List AV},lxs l p=p
 | []=>rfl
 | x :: l=>by
  show (leV x x∧lxs l p)=p
  rw [Zl9 (l:=l),ZgK,true_and]
def lb (x:Blk):Prop:=leB x x
theorem ZlK {x:Blk}:lb x=True:=ZeT
def Zcp:List AV→Nat→Nat→List AV
 | tm,_,0=>tm
 | tm,i,n + 1=>Zcp (tm.set i .any) (i + 1) n
theorem ZhK {k:IntKind} {x y:Int}:leC (.int k x) (.int k y)=(x=y):=by simp [leC]
theorem ZfH {x y:Bool}:leC (.bool x) (.bool y)=(x=y):=by simp [leC]
theorem ZhL {x y:ByteArray}:leC (.str x) (.str y)=(x=y):=by simp [leC]
theorem Zma {L:Lnd} {t:Ty} {x y:List t.den}:leC (.hs L t x) (.hs L t y)=(x=y):=by simp [leC]
theorem Za9 {t:Ty} {x y:List t.den} {v c:Nat}:leB (.row t x v c none) (.row t y v c none)=(x=y):=by simp [leB]
theorem ZqX {x y:List Int}:leB (.mp x) (.mp y)=(x=y):=by simp [leB]
def rB (x y:Bool):Prop:=(true=true∧leC (.bool x) (.bool y))∧true=true
theorem ZBE {x y:Bool}:rB x y=(x=y):=by simp [rB,ZfH]
def rI (x y:Int):Prop:=(true=true∧leC (.int .i64 x) (.int .i64 y))∧true=true
theorem ZBF {x y:Int}:rI x y=(x=y):=by simp [rI,ZhK]
def rS (x y:ByteArray):Prop:=(true=true∧leC (.str x) (.str y))∧true=true
theorem ZBG {x y:ByteArray}:rS x y=(x=y):=by simp [rS,ZhL]
theorem bc0 {P:Program} (Γ:List (ZaD P)) (H:List (ZhD P)) (H2:List (ZhE P)) (G:List (Zct P)) (L:Nat→List AV→Mem→Zbe) {f:FuncId} {fn:Func} {args:List AW} {res:AV} {new:Mem} (hf:P.funcs[f]?=some fn) (h:WfA args→ZBu ⟨Γ,H,H2,G,none,fun _=>[],0,[],[]⟩ L fn args [] (ZMF res new)):Zaq P f args res new:=Zfc hf ⟨⟨rfl,rfl⟩,rfl⟩ h
theorem Zbm {k:Nat} (h:k + 1≤maxLen):IntKind.wrap .i64 (((k:Nat):Int) + 1)=((k + 1:Nat):Int):=by
 have:IntKind.i64.wrap (((k:Nat):Int) + 1)=((k:Nat):Int) + 1:=IntWalk.i64_in _ (by unfold maxLen at h; omega)
 rw [this]
 rfl
theorem Zat {t:Ty} {xs:List t.den} {k:Nat} (h:k < xs.length):xs[k]?=some (nth t xs k):=by
 unfold nth
 rw [List.getD_eq_getElem?_getD,List.getElem?_eq_getElem h]
 rfl
theorem Zcf {P:Nat→Prop} {k:Nat} (h:∀ j,j < k→P j) (hk:P k):∀ j,j < k + 1→P j:=fun j hj=>by
 rcases Nat.lt_or_ge j k with h1 | h1
 ·exact h j h1
 ·obtain rfl:j=k:=by omega
  exact hk
theorem Zbp {P:Nat→Prop}:∀ j,j < 0→P j:=fun j hj=>absurd hj (Nat.not_lt_zero j)
theorem ZqY {t:Ty} {xs:List t.den} {p:t.den→Bool} (h:∀ j,j < xs.length→p (nth t xs j)=false):xs.any p=false:=by
 rw [List.any_eq_false]
 intro x hx
 obtain ⟨j,hj,rfl⟩:=List.mem_iff_getElem.1 hx
 have h1:=h j hj
 have h2:=Zat hj
 rw [List.getElem?_eq_getElem hj] at h2
 rw [← Option.some.inj h2] at h1
 simp [h1]
theorem ZBH {t:Ty} {xs:List t.den} {p:t.den→Bool} {k:Nat} (hk:k < xs.length) (h:p (nth t xs k)=true):xs.any p=true:=ZL1 (Zat hk) h
theorem ZGu {t:Ty} {xs:List t.den} {p:t.den→Bool} {k:Nat} (hk:k≤xs.length) (h:∀ j,j < k→p (nth t xs j)=false):(xs.take k).any p=false:=by
 rw [List.any_eq_false]
 intro x hx
 obtain ⟨j,hj,rfl⟩:=List.mem_take_iff_getElem.1 hx
 have h1:=h j (by omega)
 have h2:=Zat (t:=t) (xs:=xs) (k:=j) (by omega)
 rw [List.getElem?_eq_getElem (by omega)] at h2
 rw [← Option.some.inj h2] at h1
 simp [h1]
theorem Zkn {t:Ty} {xs:List t.den} {p:t.den→Bool} {k:Nat} (hk:k < xs.length) (h:∀ j,j < k→p (nth t xs j)=false) (hp:p (nth t xs k)=true):ZaM p xs=((k:Nat):Int):=ZEv (ZGu (by omega) h) (Zat hk) hp
theorem ZdG {t:Ty} {xs:List t.den} {p:t.den→Bool} (h:∀ j,j < xs.length→p (nth t xs j)=false):ZaM p xs=-1:=ZuJ (ZqY h)
theorem Zew {t:Ty} {xs ys:List t.den} (hl:xs.length=ys.length) (h:∀ j,j < xs.length→nth t xs j=nth t ys j):xs=ys:=by
 apply List.ext_getElem?
 intro j
 rcases Nat.lt_or_ge j xs.length with h1 | h1
 ·rw [Zat h1,Zat (by omega),h j h1]
 ·rw [List.getElem?_eq_none h1,List.getElem?_eq_none (by omega)]
theorem ZzZ {t:Ty} {xs ys:List t.den} {p:t.den→t.den→Bool} (hl:xs.length=ys.length) (h:∀ j,j < xs.length→p (nth t xs j) (nth t ys j)=true):Zb5 p xs ys=true:=by
 have key:∀ k,k≤xs.length→Zb5 p (xs.take k) (ys.take k)=true:=by
  intro k
  induction k with
  | zero=>intro _; rfl
  | succ k ih=>intro hk; exact ZuK (ih (by omega)) (Zat (by omega)) (Zat (by omega)) (h k (by omega))
 have:=key xs.length (Nat.le_refl _)
 rwa [List.take_length,hl,List.take_length] at this
theorem Zop {t:Ty} {xs ys:List t.den} {p:t.den→t.den→Bool} {k:Nat} (hk:k < xs.length) (hk2:k < ys.length) (h:p (nth t xs k) (nth t ys k)=false):Zb5 p xs ys=false:=ZEx (Zat hk) (Zat hk2) h
theorem ZJw (x y:Int) (b:Bool):((x == y) && b)=true↔x=y∧b=true:=by simp
theorem ZGv (x y b:Bool):((x == y) && b)=true↔x=y∧b=true:=by simp
theorem ZJx (x y:ByteArray) (b:Bool):(decide (x=y) && b)=true↔x=y∧b=true:=by simp
def Ty.plain:Ty→Bool
 | .prod a b=>a.plain && b.plain
 | .list _=>false
 | .opq=>false
 | _=>true
theorem Zjs:∀ (t:Ty),t.plain=true→∀ (x y:t.den) (l k:List AC),ZbM (cellsOf t x ++ l) (cellsOf t y ++ k)=true↔x=y∧ZbM l k=true
 | .int _,_,x,y,l,k=>ZJw x y _
 | .bool,_,x,y,l,k=>ZGv x y _
 | .str,_,x,y,l,k=>ZJx x y _
 | .prod a b,h,x,y,l,k=>by
  have h' : (a.plain && b.plain)=true:=h
  rw [Bool.and_eq_true] at h'
  show ZbM ((cellsOf a x.1 ++ cellsOf b x.2) ++ l) ((cellsOf a y.1 ++ cellsOf b y.2) ++ k)=true↔_
  rw [List.append_assoc,List.append_assoc,Zjs a h'.1,Zjs b h'.2]
  constructor
  ·rintro ⟨h1,h2,h3⟩
   exact ⟨Prod.ext h1 h2,h3⟩
  ·rintro ⟨rfl,h3⟩
   exact ⟨rfl,rfl,h3⟩
 | .list _,h,_,_,_,_=>by cases h
 | .opq,h,_,_,_,_=>by cases h
theorem Zcg {t:Ty} (h:t.plain=true) {x y:t.den}:ZbM (cellsOf t x) (cellsOf t y)=true↔x=y:=by
 have:=Zjs t h x y [] []
 rw [List.append_nil,List.append_nil] at this
 rw [this]
 exact ⟨fun h=>h.1,fun h=>⟨h,rfl⟩⟩
theorem Zch {t:Ty} (h:t.plain=true) {x y:t.den}:ZbM (cellsOf t x) (cellsOf t y)=false↔¬ x=y:=by
 rw [← Zcg h]
 simp
def eqI (a b:Int):Bool:=a == b
def neI (a b:Int):Bool:=a != b
def ltI (a b:Int):Bool:=decide (a < b)
def leI (a b:Int):Bool:=decide (a≤b)
def gtI (a b:Int):Bool:=decide (a > b)
def geI (a b:Int):Bool:=decide (a ≥ b)
def eqS (a b:ByteArray):Bool:=decide (a=b)
def eqO (a b:Bool):Bool:=a == b
section
variable {a b:Int} {x y:ByteArray} {p q:Bool}
theorem ZaE:eqI a b=true↔a=b:=by simp [eqI]
theorem Zba:eqI a b=false↔¬ a=b:=by simp [eqI]
theorem Zcz:neI a b=true↔¬ a=b:=by simp [neI]
theorem Zc6:neI a b=false↔a=b:=by simp [neI]
theorem ZbN:ltI a b=true↔a < b:=by simp [ltI]
theorem Zbz:ltI a b=false↔¬ a < b:=by simp [ltI]
theorem ZdH:leI a b=true↔a≤b:=by simp [leI]
theorem Zgg:leI a b=false↔¬ a≤b:=by simp [leI]
theorem ZfI:gtI a b=true↔b < a:=by simp [gtI]
theorem Zfo:gtI a b=false↔¬ b < a:=by simp [gtI]
theorem ZeU:geI a b=true↔b≤a:=by simp [geI]
theorem Zgh:geI a b=false↔¬ b≤a:=by simp [geI]
theorem Zav:eqS x y=true↔x=y:=by simp [eqS]
theorem Zbc:eqS x y=false↔¬ x=y:=by simp [eqS]
theorem ZfJ:eqO p q=true↔p=q:=by simp [eqO]
theorem Zgi:eqO p q=false↔¬ p=q:=by simp [eqO]
end
def Zex (x y:GToken):Bool:=eqB x y
theorem ZiR {x y:GToken}:Zex x y=true↔x=y:=ZaN
theorem Zfp {x y:GToken}:Zex x y=false↔¬ x=y:=ZaI
def ZcY (x y:List GToken):Bool:=eqB x y
theorem ZdI {x y:List GToken}:ZcY x y=true↔x=y:=ZaN
theorem ZeI {x y:List GToken}:ZcY x y=false↔¬ x=y:=ZaI
def ZaG (x y:GToken):Bool:=ZbM (cellsOf Zab x) (cellsOf Zab y)
theorem Zem {x y:GToken}:ZaG x y=true↔x=y:=Zcg (t:=Zab) rfl
theorem ZhM {x y:GToken}:ZaG x y=false↔¬ x=y:=Zch (t:=Zab) rfl
def Zag (xs:List GToken) (k:Nat):GToken:=nth Zab xs k
def ZfK (x y:Zaj):Bool:=eqB x y
theorem Zko {x y:Zaj}:ZfK x y=true↔x=y:=ZaN
theorem Zf2 {x y:Zaj}:ZfK x y=false↔¬ x=y:=ZaI
def ZbW (x y:List Zaj):Bool:=eqB x y
theorem ZcH {x y:List Zaj}:ZbW x y=true↔x=y:=ZaN
theorem ZcU {x y:List Zaj}:ZbW x y=false↔¬ x=y:=ZaI
def ZsD (x y:Zaj):Bool:=ZbM (cellsOf Zai x) (cellsOf Zai y)
theorem ZgL {x y:Zaj}:ZsD x y=true↔x=y:=Zcg (t:=Zai) rfl
theorem Zf3 {x y:Zaj}:ZsD x y=false↔¬ x=y:=Zch (t:=Zai) rfl
def Zak (xs:List Zaj) (k:Nat):Zaj:=nth Zai xs k
def ZbI (x y:GScope):Bool:=eqB x y
theorem Zf4 {x y:GScope}:ZbI x y=true↔x=y:=ZaN
theorem Zfq {x y:GScope}:ZbI x y=false↔¬ x=y:=ZaI
def Zdq (x y:List GScope):Bool:=eqB x y
theorem Zfr {x y:List GScope}:Zdq x y=true↔x=y:=ZaN
theorem ZeJ {x y:List GScope}:Zdq x y=false↔¬ x=y:=ZaI
def Zad (xs:List GScope) (k:Nat):GScope:=nth Zae xs k
def ZaT (x y:GFilter):Bool:=eqB x y
theorem ZbX {x y:GFilter}:ZaT x y=true↔x=y:=ZaN
theorem Zdc {x y:GFilter}:ZaT x y=false↔¬ x=y:=ZaI
def Zoq (x y:List GFilter):Bool:=eqB x y
theorem ZgZ {x y:List GFilter}:Zoq x y=true↔x=y:=ZaN
theorem Zgj {x y:List GFilter}:Zoq x y=false↔¬ x=y:=ZaI
def Zcl (x y:GCommand):Bool:=eqB x y
theorem ZeK {x y:GCommand}:Zcl x y=true↔x=y:=ZaN
theorem Zed {x y:GCommand}:Zcl x y=false↔¬ x=y:=ZaI
def Zmb (x y:List GCommand):Bool:=eqB x y
theorem Zgk {x y:List GCommand}:Zmb x y=true↔x=y:=ZaN
theorem ZfL {x y:List GCommand}:Zmb x y=false↔¬ x=y:=ZaI
def ZEf (x y:ZCe):Bool:=eqB x y
theorem Zmc {x y:ZCe}:ZEf x y=true↔x=y:=ZaN
theorem Zkp {x y:ZCe}:ZEf x y=false↔¬ x=y:=ZaI
def Zz0 (x y:List ZCe):Bool:=eqB x y
theorem Zkq {x y:List ZCe}:Zz0 x y=true↔x=y:=ZaN
theorem ZiS {x y:List ZCe}:Zz0 x y=false↔¬ x=y:=ZaI
def ZEg (x y:ZCe):Bool:=ZbM (cellsOf Zue x) (cellsOf Zue y)
theorem Zmd {x y:ZCe}:ZEg x y=true↔x=y:=Zcg (t:=Zue) rfl
theorem Zkr {x y:ZCe}:ZEg x y=false↔¬ x=y:=Zch (t:=Zue) rfl
def ZEh (x y:ZGU):Bool:=eqB x y
theorem Zme {x y:ZGU}:ZEh x y=true↔x=y:=ZaN
theorem Zks {x y:ZGU}:ZEh x y=false↔¬ x=y:=ZaI
def Zz1 (x y:List ZGU):Bool:=eqB x y
theorem Zkt {x y:List ZGU}:Zz1 x y=true↔x=y:=ZaN
theorem ZiT {x y:List ZGU}:Zz1 x y=false↔¬ x=y:=ZaI
def ZqZ (x y:ZeL):Bool:=eqB x y
theorem ZhN {x y:ZeL}:ZqZ x y=true↔x=y:=ZaN
theorem Zg0 {x y:ZeL}:ZqZ x y=false↔¬ x=y:=ZaI
def Zor (x y:List ZeL):Bool:=eqB x y
theorem Zg1 {x y:List ZeL}:Zor x y=true↔x=y:=ZaN
theorem Zgl {x y:List ZeL}:Zor x y=false↔¬ x=y:=ZaI
def Zq0 (x y:ZeL):Bool:=ZbM (cellsOf ZfG x) (cellsOf ZfG y)
theorem ZhO {x y:ZeL}:Zq0 x y=true↔x=y:=Zcg (t:=ZfG) rfl
theorem Zg2 {x y:ZeL}:Zq0 x y=false↔¬ x=y:=Zch (t:=ZfG) rfl
def Zug (x y:Zk0):Bool:=eqB x y
theorem ZiU {x y:Zk0}:Zug x y=true↔x=y:=ZaN
theorem ZhP {x y:Zk0}:Zug x y=false↔¬ x=y:=ZaI
def Zq1 (x y:List Zk0):Bool:=eqB x y
theorem ZhQ {x y:List Zk0}:Zq1 x y=true↔x=y:=ZaN
theorem Zg3 {x y:List Zk0}:Zq1 x y=false↔¬ x=y:=ZaI
def Zq2 (x y:Zic):Bool:=eqB x y
theorem ZhR {x y:Zic}:Zq2 x y=true↔x=y:=ZaN
theorem Zg4 {x y:Zic}:Zq2 x y=false↔¬ x=y:=ZaI
def Zos (x y:List Zic):Bool:=eqB x y
theorem Zg5 {x y:List Zic}:Zos x y=true↔x=y:=ZaN
theorem Zgm {x y:List Zic}:Zos x y=false↔¬ x=y:=ZaI
def Zz2 (x y:ZmG):Bool:=eqB x y
theorem Zku {x y:ZmG}:Zz2 x y=true↔x=y:=ZaN
theorem ZiV {x y:ZmG}:Zz2 x y=false↔¬ x=y:=ZaI
def Zuh (x y:List ZmG):Bool:=eqB x y
theorem ZiW {x y:List ZmG}:Zuh x y=true↔x=y:=ZaN
theorem ZhS {x y:List ZmG}:Zuh x y=false↔¬ x=y:=ZaI
def Zz3 (x y:ZmG):Bool:=ZbM (cellsOf Zl8 x) (cellsOf Zl8 y)
theorem Zkv {x y:ZmG}:Zz3 x y=true↔x=y:=Zcg (t:=Zl8) rfl
theorem ZiX {x y:ZmG}:Zz3 x y=false↔¬ x=y:=Zch (t:=Zl8) rfl
def Zui (x y:Zk1):Bool:=eqB x y
theorem ZiY {x y:Zk1}:Zui x y=true↔x=y:=ZaN
theorem ZhT {x y:Zk1}:Zui x y=false↔¬ x=y:=ZaI
def Zq3 (x y:List Zk1):Bool:=eqB x y
theorem ZhU {x y:List Zk1}:Zq3 x y=true↔x=y:=ZaN
theorem Zg6 {x y:List Zk1}:Zq3 x y=false↔¬ x=y:=ZaI
def ZEi (x y:ZCf):Bool:=eqB x y
theorem Zmf {x y:ZCf}:ZEi x y=true↔x=y:=ZaN
theorem Zkw {x y:ZCf}:ZEi x y=false↔¬ x=y:=ZaI
def Zz4 (x y:List ZCf):Bool:=eqB x y
theorem Zkx {x y:List ZCf}:Zz4 x y=true↔x=y:=ZaN
theorem ZiZ {x y:List ZCf}:Zz4 x y=false↔¬ x=y:=ZaI
def ZEj (x y:ZCf):Bool:=ZbM (cellsOf Zuf x) (cellsOf Zuf y)
theorem Zmg {x y:ZCf}:ZEj x y=true↔x=y:=Zcg (t:=Zuf) rfl
theorem Zky {x y:ZCf}:ZEj x y=false↔¬ x=y:=Zch (t:=Zuf) rfl
def ZHR (x y:GIn):Bool:=eqB x y
theorem Zot {x y:GIn}:ZHR x y=true↔x=y:=ZaN
theorem Zmh {x y:GIn}:ZHR x y=false↔¬ x=y:=ZaI
def ZEk (x y:List GIn):Bool:=eqB x y
theorem Zmi {x y:List GIn}:ZEk x y=true↔x=y:=ZaN
theorem Zkz {x y:List GIn}:ZEk x y=false↔¬ x=y:=ZaI
def ZHS (x y:GIn):Bool:=ZbM (cellsOf ZHQ x) (cellsOf ZHQ y)
theorem Zou {x y:GIn}:ZHS x y=true↔x=y:=Zcg (t:=ZHQ) rfl
theorem Zmj {x y:GIn}:ZHS x y=false↔¬ x=y:=Zch (t:=ZHQ) rfl
def Zov (x y:Ze1):Bool:=eqB x y
theorem Zg7 {x y:Ze1}:Zov x y=true↔x=y:=ZaN
theorem Zgn {x y:Ze1}:Zov x y=false↔¬ x=y:=ZaI
def Zmk (x y:List Ze1):Bool:=eqB x y
theorem Zgo {x y:List Ze1}:Zmk x y=true↔x=y:=ZaN
theorem ZfM {x y:List Ze1}:Zmk x y=false↔¬ x=y:=ZaI
def Zq4 (x y:Zid):Bool:=eqB x y
theorem ZhV {x y:Zid}:Zq4 x y=true↔x=y:=ZaN
theorem Zg8 {x y:Zid}:Zq4 x y=false↔¬ x=y:=ZaI
def Zow (x y:List Zid):Bool:=eqB x y
theorem Zg9 {x y:List Zid}:Zow x y=true↔x=y:=ZaN
theorem Zgp {x y:List Zid}:Zow x y=false↔¬ x=y:=ZaI
def Zox (x y:ZdJ):Bool:=eqB x y
theorem Zha {x y:ZdJ}:Zox x y=true↔x=y:=ZaN
theorem Zgq {x y:ZdJ}:Zox x y=false↔¬ x=y:=ZaI
def Zml (x y:List ZdJ):Bool:=eqB x y
theorem Zgr {x y:List ZdJ}:Zml x y=true↔x=y:=ZaN
theorem ZfN {x y:List ZdJ}:Zml x y=false↔¬ x=y:=ZaI
def Zoy (x y:ZdJ):Bool:=ZbM (cellsOf Zfn x) (cellsOf Zfn y)
theorem Zhb {x y:ZdJ}:Zoy x y=true↔x=y:=Zcg (t:=Zfn) rfl
theorem Zgs {x y:ZdJ}:Zoy x y=false↔¬ x=y:=Zch (t:=Zfn) rfl
theorem Ziu {x y:List Int} {v c:Nat}:leB (.row ZaF x v c none) (.row ZaF y v c none)=(x=y):=Za9 (t:=ZaF)
theorem Ziv {x y:List ByteArray} {v c:Nat}:leB (.row Zah x v c none) (.row Zah y v c none)=(x=y):=Za9 (t:=Zah)
theorem ZgM {x y:List Bool} {v c:Nat}:leB (.row Zao x v c none) (.row Zao y v c none)=(x=y):=Za9 (t:=Zao)
theorem ZfO {x y:List GToken} {v c:Nat}:leB (.row Zab x v c none) (.row Zab y v c none)=(x=y):=Za9 (t:=Zab)
theorem ZgN {x y:List Zaj} {v c:Nat}:leB (.row Zai x v c none) (.row Zai y v c none)=(x=y):=Za9 (t:=Zai)
theorem ZfP {x y:List GScope} {v c:Nat}:leB (.row Zae x v c none) (.row Zae y v c none)=(x=y):=Za9 (t:=Zae)
theorem ZeV {x y:List GFilter} {v c:Nat}:leB (.row ZbF x v c none) (.row ZbF y v c none)=(x=y):=Za9 (t:=ZbF)
theorem Zen {x y:List GCommand} {v c:Nat}:leB (.row ZaH x v c none) (.row ZaH y v c none)=(x=y):=Za9 (t:=ZaH)
theorem Ziw {x y:List ZCe} {v c:Nat}:leB (.row Zue x v c none) (.row Zue y v c none)=(x=y):=Za9 (t:=Zue)
theorem Zix {x y:List ZGU} {v c:Nat}:leB (.row ZGt x v c none) (.row ZGt y v c none)=(x=y):=Za9 (t:=ZGt)
theorem ZeW {x y:List ZeL} {v c:Nat}:leB (.row ZfG x v c none) (.row ZfG y v c none)=(x=y):=Za9 (t:=ZfG)
theorem ZfQ {x y:List Zk0} {v c:Nat}:leB (.row Zsy x v c none) (.row Zsy y v c none)=(x=y):=Za9 (t:=Zsy)
theorem ZeX {x y:List Zic} {v c:Nat}:leB (.row Zsz x v c none) (.row Zsz y v c none)=(x=y):=Za9 (t:=Zsz)
theorem ZgO {x y:List ZmG} {v c:Nat}:leB (.row Zl8 x v c none) (.row Zl8 y v c none)=(x=y):=Za9 (t:=Zl8)
theorem ZfR {x y:List Zk1} {v c:Nat}:leB (.row ZsA x v c none) (.row ZsA y v c none)=(x=y):=Za9 (t:=ZsA)
theorem Ziy {x y:List ZCf} {v c:Nat}:leB (.row Zuf x v c none) (.row Zuf y v c none)=(x=y):=Za9 (t:=Zuf)
theorem ZkA {x y:List GIn} {v c:Nat}:leB (.row ZHQ x v c none) (.row ZHQ y v c none)=(x=y):=Za9 (t:=ZHQ)
theorem Zeo {x y:List Ze1} {v c:Nat}:leB (.row Zkm x v c none) (.row Zkm y v c none)=(x=y):=Za9 (t:=Zkm)
theorem ZeY {x y:List Zid} {v c:Nat}:leB (.row ZsB x v c none) (.row ZsB y v c none)=(x=y):=Za9 (t:=ZsB)
theorem Zep {x y:List ZdJ} {v c:Nat}:leB (.row Zfn x v c none) (.row Zfn y v c none)=(x=y):=Za9 (t:=Zfn)
def ZhW:GToken:=Ty.dflt Zab
def Zoz (xs:List Int) (k:Nat):Int:=nth ZaF xs k
def Zaa (xs:List ByteArray) (k:Nat):ByteArray:=nth Zah xs k
def Za1 (x y:List ByteArray):Bool:=eqB x y
theorem ZcE {x y:List ByteArray}:Za1 x y=true↔x=y:=ZaN
theorem Zbx {x y:List ByteArray}:Za1 x y=false↔¬ x=y:=ZaI
def Zz5 (x y:List Int):Bool:=eqB x y
theorem ZkB {x y:List Int}:Zz5 x y=true↔x=y:=ZaN
theorem Zi0 {x y:List Int}:Zz5 x y=false↔¬ x=y:=ZaI
def T2 (p:Prop):Prop:=True∧(True∧p)
def T3 (p:Prop):Prop:=True∧(True∧(True∧p))
def T4 (p:Prop):Prop:=True∧(True∧(True∧(True∧p)))
def T5 (p:Prop):Prop:=True∧(True∧(True∧(True∧(True∧p))))
def T6 (p:Prop):Prop:=True∧(True∧(True∧(True∧(True∧(True∧p)))))
def T7 (p:Prop):Prop:=True∧(True∧(True∧(True∧(True∧(True∧(True∧p))))))
def T8 (p:Prop):Prop:=True∧(True∧(True∧(True∧(True∧(True∧(True∧(True∧p)))))))
def T9 (p:Prop):Prop:=True∧(True∧(True∧(True∧(True∧(True∧(True∧(True∧(True∧p))))))))
def T10 (p:Prop):Prop:=True∧(True∧(True∧(True∧(True∧(True∧(True∧(True∧(True∧(True∧p)))))))))
def T11 (p:Prop):Prop:=True∧(True∧(True∧(True∧(True∧(True∧(True∧(True∧(True∧(True∧(True∧p))))))))))
def T12 (p:Prop):Prop:=True∧(True∧(True∧(True∧(True∧(True∧(True∧(True∧(True∧(True∧(True∧(True∧p)))))))))))
theorem ZBI {p:Prop}:T2 p=p:=by simp [T2]
theorem ZBJ {p:Prop}:T3 p=p:=by simp [T3]
theorem ZBK {p:Prop}:T4 p=p:=by simp [T4]
theorem ZBL {p:Prop}:T5 p=p:=by simp [T5]
theorem ZBM {p:Prop}:T6 p=p:=by simp [T6]
theorem ZBN {p:Prop}:T7 p=p:=by simp [T7]
theorem ZBO {p:Prop}:T8 p=p:=by simp [T8]
theorem ZBP {p:Prop}:T9 p=p:=by simp [T9]
theorem Zq5 {p:Prop}:T10 p=p:=by simp [T10]
theorem Zq6 {p:Prop}:T11 p=p:=by simp [T11]
theorem Zq7 {p:Prop}:T12 p=p:=by simp [T12]
def ix (j:Nat) (x:Int) (n:Nat):Prop:=j=j∧(0:Int)≤x∧x < (n:Int)
theorem Zuj {j n:Nat} {x:Int}:ix j x n=((0:Int)≤x∧x < (n:Int)):=by simp [ix]
def vI (x y:Int):Prop:=leV (.c (.int .i64 x)) (.c (.int .i64 y))
theorem Zuk {x y:Int}:vI x y=(x=y):=Zjr
def cI (x y:Int):Prop:=true=true∧leC (.int .i64 x) (.int .i64 y)
theorem Zul {x y:Int}:cI x y=(x=y):=by simp [cI,ZhK]
def cB (x y:Bool):Prop:=true=true∧leC (.bool x) (.bool y)
theorem Zum {x y:Bool}:cB x y=(x=y):=by simp [cB,ZfH]
def cS (x y:ByteArray):Prop:=true=true∧leC (.str x) (.str y)
theorem Zun {x y:ByteArray}:cS x y=(x=y):=by simp [cS,ZhL]
def w64 (x:Int):Int:=IntKind.wrap .i64 x
theorem Zmm {x:Int}:w64 x=IntKind.wrap .i64 x:=rfl
def tpn (n:Nat) (p:Prop):Prop:=lxs (List.replicate n (.tp [])) p
theorem Zmn {n:Nat} {p:Prop}:tpn n p=p:=Zl9
def ci (x:Int):AV:=.c (.int .i64 x)
theorem Zuo {x:Int}:ci x=.c (.int .i64 x):=rfl
def hn (t:Ty) (x:List t.den):AV:=.c (.hs .no t x)
theorem Zup {t:Ty} {x:List t.den}:hn t x=.c (.hs .no t x):=rfl
def pt (p:Prop):Prop:=p∧true=true
theorem Zuq {p:Prop}:pt p=p:=by simp [pt]
theorem Zz6:type_of% (And.intro @Zuj (And.intro @Zuk (And.intro @Zul (And.intro @Zum (And.intro @Zun (And.intro @Zmm (And.intro @Zmn (And.intro @Zuo (And.intro @Zup (@Zuq)))))))))):=And.intro @Zuj (And.intro @Zuk (And.intro @Zul (And.intro @Zum (And.intro @Zun (And.intro @Zmm (And.intro @Zmn (And.intro @Zuo (And.intro @Zup (@Zuq)))))))))
theorem SIA:type_of% (And.intro @Zuj (And.intro @Zuk (And.intro @Zul (And.intro @Zum (And.intro @Zun (And.intro @Zmm (And.intro @Zmn (And.intro @Zuo (And.intro @Zup (And.intro @Zuq (And.intro @ZBI (And.intro @ZBJ (And.intro @ZBK (And.intro @ZBL (And.intro @ZBM (And.intro @ZBN (And.intro @ZBO (And.intro @ZBP (And.intro @Zq5 (And.intro @Zq6 (And.intro @Zq7 (And.intro @ZyH (And.intro @Zl9 (And.intro @ZlK (And.intro @ZBE (And.intro @ZBF (And.intro @ZBG (And.intro @ZqX (And.intro @true_and (And.intro @and_true (And.intro @ZmQ (And.intro @ZaE (And.intro @Zba (And.intro @Zcz (And.intro @Zc6 (And.intro @ZbN (And.intro @Zbz (And.intro @ZdH (And.intro @Zgg (And.intro @ZfI (And.intro @Zfo (And.intro @ZeU (And.intro @Zgh (And.intro @Zav (And.intro @Zbc (And.intro @ZfJ (And.intro @Zgi (And.intro @not_true (And.intro @not_false (And.intro @Bool.not_eq_true' (And.intro @Bool.not_eq_false' (And.intro @Zjq (And.intro @Zjr (And.intro @Zit (And.intro @ZlJ (And.intro @ZgK (And.intro @ZeT (And.intro @ZhK (And.intro @ZfH (And.intro @ZhL (And.intro @Zma (And.intro @Za9 (@Int.toNat_natCast))))))))))))))))))))))))))))))))))))))))))))))))))))))))))))))):=And.intro @Zuj (And.intro @Zuk (And.intro @Zul (And.intro @Zum (And.intro @Zun (And.intro @Zmm (And.intro @Zmn (And.intro @Zuo (And.intro @Zup (And.intro @Zuq (And.intro @ZBI (And.intro @ZBJ (And.intro @ZBK (And.intro @ZBL (And.intro @ZBM (And.intro @ZBN (And.intro @ZBO (And.intro @ZBP (And.intro @Zq5 (And.intro @Zq6 (And.intro @Zq7 (And.intro @ZyH (And.intro @Zl9 (And.intro @ZlK (And.intro @ZBE (And.intro @ZBF (And.intro @ZBG (And.intro @ZqX (And.intro @true_and (And.intro @and_true (And.intro @ZmQ (And.intro @ZaE (And.intro @Zba (And.intro @Zcz (And.intro @Zc6 (And.intro @ZbN (And.intro @Zbz (And.intro @ZdH (And.intro @Zgg (And.intro @ZfI (And.intro @Zfo (And.intro @ZeU (And.intro @Zgh (And.intro @Zav (And.intro @Zbc (And.intro @ZfJ (And.intro @Zgi (And.intro @not_true (And.intro @not_false (And.intro @Bool.not_eq_true' (And.intro @Bool.not_eq_false' (And.intro @Zjq (And.intro @Zjr (And.intro @Zit (And.intro @ZlJ (And.intro @ZgK (And.intro @ZeT (And.intro @ZhK (And.intro @ZfH (And.intro @ZhL (And.intro @Zma (And.intro @Za9 (@Int.toNat_natCast))))))))))))))))))))))))))))))))))))))))))))))))))))))))))))))
theorem Zdj:type_of% (And.intro @Zuj (And.intro @Zuk (And.intro @Zul (And.intro @Zum (And.intro @Zun (And.intro @Zmm (And.intro @Zmn (And.intro @Zuo (And.intro @Zup (And.intro @Zuq (And.intro @ZBI (And.intro @ZBJ (And.intro @ZBK (And.intro @ZBL (And.intro @ZBM (And.intro @ZBN (And.intro @ZBO (And.intro @ZBP (And.intro @Zq5 (And.intro @Zq6 (And.intro @Zq7 (And.intro @ZyH (And.intro @Zl9 (And.intro @ZlK (And.intro @ZBE (And.intro @ZBF (And.intro @ZBG (And.intro @ZqX (And.intro @true_and (And.intro @and_true (And.intro @ZmQ (And.intro @ZaE (And.intro @Zba (And.intro @Zcz (And.intro @Zc6 (And.intro @ZbN (And.intro @Zbz (And.intro @ZdH (And.intro @Zgg (And.intro @ZfI (And.intro @Zfo (And.intro @ZeU (And.intro @Zgh (And.intro @Zav (And.intro @Zbc (And.intro @ZfJ (And.intro @Zgi (And.intro @not_true (And.intro @not_false (And.intro @Bool.not_eq_true' (And.intro @Bool.not_eq_false' (And.intro @Zjq (And.intro @Zjr (And.intro @Zit (And.intro @ZlJ (And.intro @ZgK (And.intro @ZeT (And.intro @ZhK (And.intro @ZfH (And.intro @ZhL (And.intro @Zma (And.intro @Za9 (And.intro @Ziu (And.intro @Ziv (And.intro @ZgM (And.intro @ZfO (And.intro @ZgN (And.intro @ZfP (And.intro @ZeV (And.intro @Zen (And.intro @Ziw (And.intro @Zix (And.intro @ZeW (And.intro @ZfQ (And.intro @ZeX (And.intro @ZgO (And.intro @ZfR (And.intro @Ziy (And.intro @ZkA (And.intro @Zeo (And.intro @ZeY (And.intro @Zep (@Int.toNat_natCast))))))))))))))))))))))))))))))))))))))))))))))))))))))))))))))))))))))))))))))))))):=And.intro @Zuj (And.intro @Zuk (And.intro @Zul (And.intro @Zum (And.intro @Zun (And.intro @Zmm (And.intro @Zmn (And.intro @Zuo (And.intro @Zup (And.intro @Zuq (And.intro @ZBI (And.intro @ZBJ (And.intro @ZBK (And.intro @ZBL (And.intro @ZBM (And.intro @ZBN (And.intro @ZBO (And.intro @ZBP (And.intro @Zq5 (And.intro @Zq6 (And.intro @Zq7 (And.intro @ZyH (And.intro @Zl9 (And.intro @ZlK (And.intro @ZBE (And.intro @ZBF (And.intro @ZBG (And.intro @ZqX (And.intro @true_and (And.intro @and_true (And.intro @ZmQ (And.intro @ZaE (And.intro @Zba (And.intro @Zcz (And.intro @Zc6 (And.intro @ZbN (And.intro @Zbz (And.intro @ZdH (And.intro @Zgg (And.intro @ZfI (And.intro @Zfo (And.intro @ZeU (And.intro @Zgh (And.intro @Zav (And.intro @Zbc (And.intro @ZfJ (And.intro @Zgi (And.intro @not_true (And.intro @not_false (And.intro @Bool.not_eq_true' (And.intro @Bool.not_eq_false' (And.intro @Zjq (And.intro @Zjr (And.intro @Zit (And.intro @ZlJ (And.intro @ZgK (And.intro @ZeT (And.intro @ZhK (And.intro @ZfH (And.intro @ZhL (And.intro @Zma (And.intro @Za9 (And.intro @Ziu (And.intro @Ziv (And.intro @ZgM (And.intro @ZfO (And.intro @ZgN (And.intro @ZfP (And.intro @ZeV (And.intro @Zen (And.intro @Ziw (And.intro @Zix (And.intro @ZeW (And.intro @ZfQ (And.intro @ZeX (And.intro @ZgO (And.intro @ZfR (And.intro @Ziy (And.intro @ZkA (And.intro @Zeo (And.intro @ZeY (And.intro @Zep (@Int.toNat_natCast))))))))))))))))))))))))))))))))))))))))))))))))))))))))))))))))))))))))))))))))))
theorem EQA:type_of% (And.intro @ZiR (And.intro @Zfp (And.intro @ZdI (And.intro @ZeI (And.intro @Zem (And.intro @ZhM (And.intro @Zko (And.intro @Zf2 (And.intro @ZcH (And.intro @ZcU (And.intro @ZgL (And.intro @Zf3 (And.intro @Zf4 (And.intro @Zfq (And.intro @Zfr (And.intro @ZeJ (And.intro @ZbX (And.intro @Zdc (And.intro @ZgZ (And.intro @Zgj (And.intro @ZeK (And.intro @Zed (And.intro @Zgk (And.intro @ZfL (And.intro @Zmc (And.intro @Zkp (And.intro @Zkq (And.intro @ZiS (And.intro @Zmd (And.intro @Zkr (And.intro @Zme (And.intro @Zks (And.intro @Zkt (And.intro @ZiT (And.intro @ZhN (And.intro @Zg0 (And.intro @Zg1 (And.intro @Zgl (And.intro @ZhO (And.intro @Zg2 (And.intro @ZiU (And.intro @ZhP (And.intro @ZhQ (And.intro @Zg3 (And.intro @ZhR (And.intro @Zg4 (And.intro @Zg5 (And.intro @Zgm (And.intro @Zku (And.intro @ZiV (And.intro @ZiW (And.intro @ZhS (And.intro @Zkv (And.intro @ZiX (And.intro @ZiY (And.intro @ZhT (And.intro @ZhU (And.intro @Zg6 (And.intro @Zmf (And.intro @Zkw (And.intro @Zkx (And.intro @ZiZ (And.intro @Zmg (And.intro @Zky (And.intro @Zot (And.intro @Zmh (And.intro @Zmi (And.intro @Zkz (And.intro @Zou (And.intro @Zmj (And.intro @Zg7 (And.intro @Zgn (And.intro @Zgo (And.intro @ZfM (And.intro @ZhV (And.intro @Zg8 (And.intro @Zg9 (And.intro @Zgp (And.intro @Zha (And.intro @Zgq (And.intro @Zgr (And.intro @ZfN (And.intro @Zhb (And.intro @Zgs (And.intro @ZcE (And.intro @Zbx (And.intro @ZkB (And.intro @Zi0 (And.intro @ZaE (And.intro @Zba (And.intro @Zcz (And.intro @Zc6 (And.intro @ZbN (And.intro @Zbz (And.intro @ZdH (And.intro @Zgg (And.intro @ZfI (And.intro @Zfo (And.intro @ZeU (And.intro @Zgh (And.intro @Zav (And.intro @Zbc (And.intro @ZfJ (@Zgi)))))))))))))))))))))))))))))))))))))))))))))))))))))))))))))))))))))))))))))))))))))))))))))))))))))))):=And.intro @ZiR (And.intro @Zfp (And.intro @ZdI (And.intro @ZeI (And.intro @Zem (And.intro @ZhM (And.intro @Zko (And.intro @Zf2 (And.intro @ZcH (And.intro @ZcU (And.intro @ZgL (And.intro @Zf3 (And.intro @Zf4 (And.intro @Zfq (And.intro @Zfr (And.intro @ZeJ (And.intro @ZbX (And.intro @Zdc (And.intro @ZgZ (And.intro @Zgj (And.intro @ZeK (And.intro @Zed (And.intro @Zgk (And.intro @ZfL (And.intro @Zmc (And.intro @Zkp (And.intro @Zkq (And.intro @ZiS (And.intro @Zmd (And.intro @Zkr (And.intro @Zme (And.intro @Zks (And.intro @Zkt (And.intro @ZiT (And.intro @ZhN (And.intro @Zg0 (And.intro @Zg1 (And.intro @Zgl (And.intro @ZhO (And.intro @Zg2 (And.intro @ZiU (And.intro @ZhP (And.intro @ZhQ (And.intro @Zg3 (And.intro @ZhR (And.intro @Zg4 (And.intro @Zg5 (And.intro @Zgm (And.intro @Zku (And.intro @ZiV (And.intro @ZiW (And.intro @ZhS (And.intro @Zkv (And.intro @ZiX (And.intro @ZiY (And.intro @ZhT (And.intro @ZhU (And.intro @Zg6 (And.intro @Zmf (And.intro @Zkw (And.intro @Zkx (And.intro @ZiZ (And.intro @Zmg (And.intro @Zky (And.intro @Zot (And.intro @Zmh (And.intro @Zmi (And.intro @Zkz (And.intro @Zou (And.intro @Zmj (And.intro @Zg7 (And.intro @Zgn (And.intro @Zgo (And.intro @ZfM (And.intro @ZhV (And.intro @Zg8 (And.intro @Zg9 (And.intro @Zgp (And.intro @Zha (And.intro @Zgq (And.intro @Zgr (And.intro @ZfN (And.intro @Zhb (And.intro @Zgs (And.intro @ZcE (And.intro @Zbx (And.intro @ZkB (And.intro @Zi0 (And.intro @ZaE (And.intro @Zba (And.intro @Zcz (And.intro @Zc6 (And.intro @ZbN (And.intro @Zbz (And.intro @ZdH (And.intro @Zgg (And.intro @ZfI (And.intro @Zfo (And.intro @ZeU (And.intro @Zgh (And.intro @Zav (And.intro @Zbc (And.intro @ZfJ (@Zgi)))))))))))))))))))))))))))))))))))))))))))))))))))))))))))))))))))))))))))))))))))))))))))))))))))))))
end Go.Proofs.YtkeglpnnedflnaaGreatDoor
