import Derived.Test.YtkompmgleojmlaaGreatFBmQ
import Derived.Test.YtkompmgleojmlaaGreatFLists
import Derived.IntWalk
namespace Go.Proofs.YtkompmgleojmlaaGreat
open Go.ChangeShapes Go.WideShapes Go.ChangeAt Go.RowKit Go.Joins Go.Deep
def ZaC:Ty:=.int .i64
def Zib:Ty:=.bool
def ZaK:Ty:=.str
def ZkC:Ty:=(.prod ZaC ZaK)
def ZaN:Ty:=(.prod ZaC ZaC)
def Zar:Ty:=(.prod ZaC (.prod (.list ZaK) ZaC))
def Zdi:Ty:=(.prod Zib (.list Zar))
def Zoy:Ty:=(.prod ZaK (.prod ZaC (.prod ZaK (.prod ZaK (.prod Zib (.prod (.list ZaN) (.prod ZaC (.prod ZaC (.prod ZaK Zdi)))))))))
def ZaT:Ty:=(.prod ZaC (.prod ZaC ZaK))
def Zak:Ty:=(.prod ZaK (.prod ZaC (.prod ZaC (.list ZaT))))
def Zah:Ty:=(.prod ZaC (.prod ZaC (.prod ZaC (.prod ZaC (.prod ZaK ZaK)))))
def ZbI:Ty:=(.prod (.list Zak) (.prod (.list Zah) ZaC))
def ZsE:Ty:=(.prod Zib (.prod ZaK (.prod ZaC (.prod ZaC (.prod (.list ZaN) Zib)))))
def Zai:Ty:=(.prod ZaC (.prod ZaC (.prod ZaC ZaK)))
def ZbJ:Ty:=(.prod (.list Zai) (.prod Zib Zib))
def Zm4:Ty:=(.prod ZaK ZaK)
def ZCX:Ty:=(.prod ZaK Zib)
def Zae:Ty:=(.prod Zib (.prod ZaC (.prod ZaC (.prod ZaC (.prod (.list ZaN) (.prod Zdi (.prod ZaK (.prod ZaK (.prod ZbJ (.prod ZCX (.prod Zm4 ZaC)))))))))))
def Zbp:Ty:=(.prod ZbI (.list Zae))
def Zf2:Ty:=(.prod ZaC (.prod ZaK ZaC))
def L0:Nat→List AV→Mem→Zbn:=fun _ _ _=>⟨Unit,fun _=>([],[]),fun _=>False,fun _=>0⟩
def tmI (tm:List AV) (i:Nat):Int:=match tm.getD i .any with | .w (.c (.int _ x))=>x | _=>0
def Zjs (M:Mem):List (Nat × Blk)→Mem
  | []=>M
  | p :: l=>Zjs (M.set p.1 p.2) l
theorem Zoz {x:AV}:leV x .any=True:=by unfold leV; split <;> simp_all
theorem ZoA {k:IntKind} {x y:Int}:leV (.w (.c (.int k x))) (.w (.c (.int k y)))=(x=y):=by simp [leV,leC]
theorem Zni {x y:Bool}:leV (.w (.c (.bool x))) (.w (.c (.bool y)))=(x=y):=by simp [leV,leC]
theorem ZsF {x y:ByteArray}:leV (.w (.c (.str x))) (.w (.c (.str y)))=(x=y):=by simp [leV,leC]
theorem ZAy:∀ {x:AC},leC x x
  | .int _ _=>⟨rfl,rfl⟩
  | .bool _=>rfl
  | .str _=>rfl
  | .opq _=>rfl
  | .hs _ _ _=>⟨rfl,rfl,rfl⟩
  | .bp _ _=>rfl
  | .ep _ _ _ _ _=>rfl
  | .row _ _=>rfl
  | .rp _ _ _ _ _=>rfl
  | .sl _ _ _ _ _ _=>rfl
  | .sp _ _ _ _ _ _ _ _ _=>rfl
  | .tl _ _ _ _=>rfl
  | .mp _=>rfl
  | .fn _ _=>rfl
  | .raw _=>rfl
  | .junk=>rfl
theorem ZsG:∀ {x:List AC},leL x x
  | []=>trivial
  | _ :: _=>⟨ZAy,ZsG⟩
theorem Zk2 {x:AV}:leV x x=True:=by
  cases x with
  | any=>simp [Zoz]
  | tp l=>simp [leV]
  | w x =>
    cases x with
    | c a=>exact eq_true (ZAy (x:=a))
    | ag l=>exact eq_true (ZsG (x:=l))
theorem ZhW {x:Blk}:leB x x=True:=by
  cases x with
  | box l=>exact eq_true (ZsG (x:=l))
  | row t xs v c h=>cases h with
    | none=>exact eq_true ⟨⟨rfl,rfl⟩,rfl,rfl⟩
    | some _=>simp [leB]
  | _=>simp [leB]
def TN:Nat→Prop→Prop
  | 0,p=>p
  | n + 1,p=>True∧TN n p
theorem ZEv {p:Prop}:∀ {n:Nat},TN n p=p
  | 0=>rfl
  | n + 1=>by
    show (True∧TN n p)=p
    rw [ZEv (n:=n),true_and]
def lxs:List AV→Prop→Prop
  | [],p=>p
  | x :: l,p=>leV x x∧lxs l p
theorem ZqX {p:Prop}:∀ {l:List AV},lxs l p=p
  | []=>rfl
  | x :: l=>by
    show (leV x x∧lxs l p)=p
    rw [ZqX (l:=l),Zk2,true_and]
def lb (x:Blk):Prop:=leB x x
theorem ZsH {x:Blk}:lb x=True:=ZhW
def ZcN:List AV→Nat→Nat→List AV
  | tm,_,0=>tm
  | tm,i,n + 1=>ZcN (tm.set i .any) (i + 1) n
theorem Zl6 {k:IntKind} {x y:Int}:leC (.int k x) (.int k y)=(x=y):=by simp [leC]
theorem Zjt {x y:Bool}:leC (.bool x) (.bool y)=(x=y):=by simp [leC]
theorem Zl7 {x y:ByteArray}:leC (.str x) (.str y)=(x=y):=by simp [leC]
theorem ZAz {L:Lnd} {t:Ty} {x y:List t.den}:leC (.hs L t x) (.hs L t y)=(x=y):=by simp [leC]
theorem ZaV {t:Ty} {x y:List t.den} {v c:Nat}:leB (.row t x v c none) (.row t y v c none)=(x=y):=by simp [leB]
theorem ZAA {x y:List Int}:leB (.mp x) (.mp y)=(x=y):=by simp [leB]
def rB (x y:Bool):Prop:=(true=true∧leC (.bool x) (.bool y))∧true=true
theorem ZGd {x y:Bool}:rB x y=(x=y):=by simp [rB,Zjt]
def rI (x y:Int):Prop:=(true=true∧leC (.int .i64 x) (.int .i64 y))∧true=true
theorem ZGe {x y:Int}:rI x y=(x=y):=by simp [rI,Zl6]
def rS (x y:ByteArray):Prop:=(true=true∧leC (.str x) (.str y))∧true=true
theorem ZGf {x y:ByteArray}:rS x y=(x=y):=by simp [rS,Zl7]
theorem bc0 {P:Program} (Γ:List (ZaI P)) (H:List (Zhu P)) (H2:List (Zma P)) (G:List (Zcd P)) (L:Nat→List AV→Mem→Zbn) {f:FuncId} {fn:Func} {args:List AW} {res:AV} {new:Mem} (hf:P.funcs[f]?=some fn) (h:WfA args→ZCp ⟨Γ,H,H2,G,none,fun _=>[],0,[],[]⟩ L fn args [] (ZJA res new)):Zat P f args res new:=ZiS hf ⟨⟨rfl,rfl⟩,rfl⟩ h
theorem ZbN {k:Nat} (h:k + 1≤maxLen):IntKind.wrap .i64 (((k:Nat):Int) + 1)=((k + 1:Nat):Int):=by
  have:IntKind.i64.wrap (((k:Nat):Int) + 1)=((k:Nat):Int) + 1:=IntWalk.i64_in _ (by unfold maxLen at h; omega)
  rw [this]
  rfl
theorem Zau {t:Ty} {xs:List t.den} {k:Nat} (h:k < xs.length):xs[k]?=some (nth t xs k):=by
  unfold nth
  rw [List.getD_eq_getElem?_getD,List.getElem?_eq_getElem h]
  rfl
theorem ZbS {P:Nat→Prop} {k:Nat} (h:∀ j,j < k→P j) (hk:P k):∀ j,j < k + 1→P j:=fun j hj=>by
  rcases Nat.lt_or_ge j k with h1 | h1
  · exact h j h1
  · obtain rfl:j=k:=by omega
    exact hk
theorem Zbl {P:Nat→Prop}:∀ j,j < 0→P j:=fun j hj=>absurd hj (Nat.not_lt_zero j)
theorem ZfB {t:Ty} {xs:List t.den} {p:t.den→Bool} (h:∀ j,j < xs.length→p (nth t xs j)=false):xs.any p=false:=by
  rw [List.any_eq_false]
  intro x hx
  obtain ⟨j,hj,rfl⟩:=List.mem_iff_getElem.1 hx
  have h1:=h j hj
  have h2:=Zau hj
  rw [List.getElem?_eq_getElem hj] at h2
  rw [← Option.some.inj h2] at h1
  simp [h1]
theorem any_at_nth {t:Ty} {xs:List t.den} {p:t.den→Bool} {k:Nat} (hk:k < xs.length) (h:p (nth t xs k)=true):xs.any p=true:=ZI7 (Zau hk) h
theorem ZGg {t:Ty} {xs:List t.den} {p:t.den→Bool} {k:Nat} (hk:k≤xs.length) (h:∀ j,j < k→p (nth t xs j)=false):(xs.take k).any p=false:=by
  rw [List.any_eq_false]
  intro x hx
  obtain ⟨j,hj,rfl⟩:=List.mem_take_iff_getElem.1 hx
  have h1:=h j (by omega)
  have h2:=Zau (t:=t) (xs:=xs) (k:=j) (by omega)
  rw [List.getElem?_eq_getElem (by omega)] at h2
  rw [← Option.some.inj h2] at h1
  simp [h1]
theorem Zd4 {t:Ty} {xs:List t.den} {p:t.den→Bool} {k:Nat} (hk:k < xs.length) (h:∀ j,j < k→p (nth t xs j)=false) (hp:p (nth t xs k)=true):ZcO p xs=((k:Nat):Int):=Zz1 (ZGg (by omega) h) (Zau hk) hp
theorem ZbW {t:Ty} {xs:List t.den} {p:t.den→Bool} (h:∀ j,j < xs.length→p (nth t xs j)=false):ZcO p xs=-1:=Zpn (ZfB h)
theorem ZeQ {t:Ty} {xs ys:List t.den} (hl:xs.length=ys.length) (h:∀ j,j < xs.length→nth t xs j=nth t ys j):xs=ys:=by
  apply List.ext_getElem?
  intro j
  rcases Nat.lt_or_ge j xs.length with h1 | h1
  · rw [Zau h1,Zau (by omega),h j h1]
  · rw [List.getElem?_eq_none h1,List.getElem?_eq_none (by omega)]
theorem ZHU (x y:Int) (b:Bool):((x == y) && b)=true↔x=y∧b=true:=by simp
theorem ZGh (x y b:Bool):((x == y) && b)=true↔x=y∧b=true:=by simp
theorem ZHV (x y:ByteArray) (b:Bool):(decide (x=y) && b)=true↔x=y∧b=true:=by simp
def Ty.plain:Ty→Bool
  | .prod a b=>a.plain && b.plain
  | .list _=>false
  | .opq=>false
  | _=>true
theorem ZkD:∀ (t:Ty),t.plain=true→∀ (x y:t.den) (l k:List AC),Zck (cellsOf t x ++ l) (cellsOf t y ++ k)=true↔x=y∧Zck l k=true
  | .int _,_,x,y,l,k=>ZHU x y _
  | .bool,_,x,y,l,k=>ZGh x y _
  | .str,_,x,y,l,k=>ZHV x y _
  | .prod a b,h,x,y,l,k=>by
    have h' : (a.plain && b.plain)=true:=h
    rw [Bool.and_eq_true] at h'
    show Zck ((cellsOf a x.1 ++ cellsOf b x.2) ++ l) ((cellsOf a y.1 ++ cellsOf b y.2) ++ k)=true↔_
    rw [List.append_assoc,List.append_assoc,ZkD a h'.1,ZkD b h'.2]
    constructor
    · rintro ⟨h1,h2,h3⟩
      exact ⟨Prod.ext h1 h2,h3⟩
    · rintro ⟨rfl,h3⟩
      exact ⟨rfl,rfl,h3⟩
  | .list _,h,_,_,_,_=>by cases h
  | .opq,h,_,_,_,_=>by cases h
theorem ZcE {t:Ty} (h:t.plain=true) {x y:t.den}:Zck (cellsOf t x) (cellsOf t y)=true↔x=y:=by
  have:=ZkD t h x y [] []
  rw [List.append_nil,List.append_nil] at this
  rw [this]
  exact ⟨fun h=>h.1,fun h=>⟨h,rfl⟩⟩
theorem ZcF {t:Ty} (h:t.plain=true) {x y:t.den}:Zck (cellsOf t x) (cellsOf t y)=false↔¬ x=y:=by
  rw [← ZcE h]
  simp
def eqI (a b:Int):Bool:=a == b
def neI (a b:Int):Bool:=a != b
def ltI (a b:Int):Bool:=decide (a < b)
def leI (a b:Int):Bool:=decide (a≤b)
def gtI (a b:Int):Bool:=decide (a > b)
def geI (a b:Int):Bool:=decide (a ≥ b)
def eqS (a b:ByteArray):Bool:=decide (a=b)
def eqO (a b:Bool):Bool:=a == b
section
variable {a b:Int} {x y:ByteArray} {p q:Bool}
theorem ZbA:eqI a b=true↔a=b:=by simp [eqI]
theorem Zb2:eqI a b=false↔¬ a=b:=by simp [eqI]
theorem ZdK:neI a b=true↔¬ a=b:=by simp [neI]
theorem Zdp:neI a b=false↔a=b:=by simp [neI]
theorem ZhX:ltI a b=true↔a < b:=by simp [ltI]
theorem Zhi:ltI a b=false↔¬ a < b:=by simp [ltI]
theorem Zc3:leI a b=true↔a≤b:=by simp [leI]
theorem ZeR:leI a b=false↔¬ a≤b:=by simp [leI]
theorem Zju:gtI a b=true↔b < a:=by simp [gtI]
theorem Zhj:gtI a b=false↔¬ b < a:=by simp [gtI]
theorem Zdj:geI a b=true↔b≤a:=by simp [geI]
theorem Zhk:geI a b=false↔¬ b≤a:=by simp [geI]
theorem Zc4:eqS x y=true↔x=y:=by simp [eqS]
theorem Zdq:eqS x y=false↔¬ x=y:=by simp [eqS]
theorem Zjv:eqO p q=true↔p=q:=by simp [eqO]
theorem Zhl:eqO p q=false↔¬ p=q:=by simp [eqO]
end
def ZuQ (x y:Zjj):Bool:=eqB x y
theorem ZjR {x y:Zjj}:ZuQ x y=true↔x=y:=Zbe
theorem ZiT {x y:Zjj}:ZuQ x y=false↔¬ x=y:=Za2
def ZqY (x y:List Zjj):Bool:=eqB x y
theorem ZiU {x y:List Zjj}:ZqY x y=true↔x=y:=Zbe
theorem Zic {x y:List Zjj}:ZqY x y=false↔¬ x=y:=Za2
def ZuR (x y:Zjj):Bool:=Zck (cellsOf ZkC x) (cellsOf ZkC y)
theorem ZjS {x y:Zjj}:ZuR x y=true↔x=y:=ZcE (t:=ZkC) rfl
theorem ZiV {x y:Zjj}:ZuR x y=false↔¬ x=y:=ZcF (t:=ZkC) rfl
def Zgy (x y:Zb9):Bool:=eqB x y
theorem Zk3 {x y:Zb9}:Zgy x y=true↔x=y:=Zbe
theorem ZgW {x y:Zb9}:Zgy x y=false↔¬ x=y:=Za2
def ZcS (x y:List Zb9):Bool:=eqB x y
theorem ZgX {x y:List Zb9}:ZcS x y=true↔x=y:=Zbe
theorem Zd5 {x y:List Zb9}:ZcS x y=false↔¬ x=y:=Za2
def ZAB (x y:Zb9):Bool:=Zck (cellsOf ZaN x) (cellsOf ZaN y)
theorem Zk4 {x y:Zb9}:ZAB x y=true↔x=y:=ZcE (t:=ZaN) rfl
theorem ZjT {x y:Zb9}:ZAB x y=false↔¬ x=y:=ZcF (t:=ZaN) rfl
def ZbE (xs:List Zb9) (k:Nat):Zb9:=nth ZaN xs k
def Zd6 (x y:Za3):Bool:=eqB x y
theorem ZjU {x y:Za3}:Zd6 x y=true↔x=y:=Zbe
theorem Zf3 {x y:Za3}:Zd6 x y=false↔¬ x=y:=Za2
def ZdR (x y:List Za3):Bool:=eqB x y
theorem Zf4 {x y:List Za3}:ZdR x y=true↔x=y:=Zbe
theorem Zfa {x y:List Za3}:ZdR x y=false↔¬ x=y:=Za2
def Zav (xs:List Za3) (k:Nat):Za3:=nth Zar xs k
def ZdS (x y:ZbP):Bool:=eqB x y
theorem ZiW {x y:ZbP}:ZdS x y=true↔x=y:=Zbe
theorem Zfb {x y:ZbP}:ZdS x y=false↔¬ x=y:=Za2
def ZoB (x y:List ZbP):Bool:=eqB x y
theorem Zid {x y:List ZbP}:ZoB x y=true↔x=y:=Zbe
theorem Zhm {x y:List ZbP}:ZoB x y=false↔¬ x=y:=Za2
def ZoC (x y:ZgL):Bool:=eqB x y
theorem Zie {x y:ZgL}:ZoC x y=true↔x=y:=Zbe
theorem Zhn {x y:ZgL}:ZoC x y=false↔¬ x=y:=Za2
def Zmu (x y:List ZgL):Bool:=eqB x y
theorem Zho {x y:List ZgL}:Zmu x y=true↔x=y:=Zbe
theorem Zgz {x y:List ZgL}:Zmu x y=false↔¬ x=y:=Za2
def ZhY (x y:ZcU):Bool:=eqB x y
theorem Zmv {x y:ZcU}:ZhY x y=true↔x=y:=Zbe
theorem ZhZ {x y:ZcU}:ZhY x y=false↔¬ x=y:=Za2
def ZgA (x y:List ZcU):Bool:=eqB x y
theorem Zh0 {x y:List ZcU}:ZgA x y=true↔x=y:=Zbe
theorem ZgY {x y:List ZcU}:ZgA x y=false↔¬ x=y:=Za2
def ZEw (x y:ZcU):Bool:=Zck (cellsOf ZaT x) (cellsOf ZaT y)
theorem Zmw {x y:ZcU}:ZEw x y=true↔x=y:=ZcE (t:=ZaT) rfl
theorem Zk5 {x y:ZcU}:ZEw x y=false↔¬ x=y:=ZcF (t:=ZaT) rfl
def ZaL (xs:List ZcU) (k:Nat):ZcU:=nth ZaT xs k
def ZgZ (x y:ZaM):Bool:=eqB x y
theorem Zmx {x y:ZaM}:ZgZ x y=true↔x=y:=Zbe
theorem Zh1 {x y:ZaM}:ZgZ x y=false↔¬ x=y:=Za2
def ZgB (x y:List ZaM):Bool:=eqB x y
theorem Zh2 {x y:List ZaM}:ZgB x y=true↔x=y:=Zbe
theorem Zg0 {x y:List ZaM}:ZgB x y=false↔¬ x=y:=Za2
def Zab (xs:List ZaM) (k:Nat):ZaM:=nth Zak xs k
def Zcy (x y:Zax):Bool:=eqB x y
theorem ZiX {x y:Zax}:Zcy x y=true↔x=y:=Zbe
theorem Zfc {x y:Zax}:Zcy x y=false↔¬ x=y:=Za2
def Zdr (x y:List Zax):Bool:=eqB x y
theorem Zfd {x y:List Zax}:Zdr x y=true↔x=y:=Zbe
theorem ZeA {x y:List Zax}:Zdr x y=false↔¬ x=y:=Za2
def Zcc (x y:Zax):Bool:=Zck (cellsOf Zah x) (cellsOf Zah y)
theorem Zf5 {x y:Zax}:Zcc x y=true↔x=y:=ZcE (t:=Zah) rfl
theorem Zif {x y:Zax}:Zcc x y=false↔¬ x=y:=ZcF (t:=Zah) rfl
def Zac (xs:List Zax) (k:Nat):Zax:=nth Zah xs k
def Zd7 (x y:Za7):Bool:=eqB x y
theorem ZjV {x y:Za7}:Zd7 x y=true↔x=y:=Zbe
theorem Zf6 {x y:Za7}:Zd7 x y=false↔¬ x=y:=Za2
def ZqZ (x y:List Za7):Bool:=eqB x y
theorem ZiY {x y:List Za7}:ZqZ x y=true↔x=y:=Zbe
theorem Zig {x y:List Za7}:ZqZ x y=false↔¬ x=y:=Za2
def Zq0 (x y:Zjk):Bool:=eqB x y
theorem ZiZ {x y:Zjk}:Zq0 x y=true↔x=y:=Zbe
theorem Zih {x y:Zjk}:Zq0 x y=false↔¬ x=y:=Za2
def ZoD (x y:List Zjk):Bool:=eqB x y
theorem Zii {x y:List Zjk}:ZoD x y=true↔x=y:=Zbe
theorem Zhp {x y:List Zjk}:ZoD x y=false↔¬ x=y:=Za2
def ZeI (x y:Zay):Bool:=eqB x y
theorem Zk6 {x y:Zay}:ZeI x y=true↔x=y:=Zbe
theorem Zg1 {x y:Zay}:ZeI x y=false↔¬ x=y:=Za2
def ZeS (x y:List Zay):Bool:=eqB x y
theorem Zg2 {x y:List Zay}:ZeS x y=true↔x=y:=Zbe
theorem Zf7 {x y:List Zay}:ZeS x y=false↔¬ x=y:=Za2
def Zc5 (x y:Zay):Bool:=Zck (cellsOf Zai x) (cellsOf Zai y)
theorem Zfv {x y:Zay}:Zc5 x y=true↔x=y:=ZcE (t:=Zai) rfl
theorem ZjW {x y:Zay}:Zc5 x y=false↔¬ x=y:=ZcF (t:=Zai) rfl
def Zaf (xs:List Zay) (k:Nat):Zay:=nth Zai xs k
def Zd8 (x y:ZaU):Bool:=eqB x y
theorem ZjX {x y:ZaU}:Zd8 x y=true↔x=y:=Zbe
theorem Zf8 {x y:ZaU}:Zd8 x y=false↔¬ x=y:=Za2
def Zq1 (x y:List ZaU):Bool:=eqB x y
theorem Zi0 {x y:List ZaU}:Zq1 x y=true↔x=y:=Zbe
theorem Zij {x y:List ZaU}:Zq1 x y=false↔¬ x=y:=Za2
def Zi1 (x y:Zxj):Bool:=eqB x y
theorem Zmy {x y:Zxj}:Zi1 x y=true↔x=y:=Zbe
theorem Zh3 {x y:Zxj}:Zi1 x y=false↔¬ x=y:=Za2
def ZAC (x y:List Zxj):Bool:=eqB x y
theorem Zk7 {x y:List Zxj}:ZAC x y=true↔x=y:=Zbe
theorem ZjY {x y:List Zxj}:ZAC x y=false↔¬ x=y:=Za2
def ZEx (x y:Zxj):Bool:=Zck (cellsOf Zm4 x) (cellsOf Zm4 y)
theorem Zmz {x y:Zxj}:ZEx x y=true↔x=y:=ZcE (t:=Zm4) rfl
theorem Zk8 {x y:Zxj}:ZEx x y=false↔¬ x=y:=ZcF (t:=Zm4) rfl
def ZmA (x y:GIn):Bool:=eqB x y
theorem ZoE {x y:GIn}:ZmA x y=true↔x=y:=Zbe
theorem Zi2 {x y:GIn}:ZmA x y=false↔¬ x=y:=Za2
def ZEy (x y:List GIn):Bool:=eqB x y
theorem ZmB {x y:List GIn}:ZEy x y=true↔x=y:=Zbe
theorem Zk9 {x y:List GIn}:ZEy x y=false↔¬ x=y:=Za2
def ZHh (x y:GIn):Bool:=Zck (cellsOf ZCX x) (cellsOf ZCX y)
theorem ZoF {x y:GIn}:ZHh x y=true↔x=y:=ZcE (t:=ZCX) rfl
theorem ZmC {x y:GIn}:ZHh x y=false↔¬ x=y:=ZcF (t:=ZCX) rfl
def ZdP (x y:Zal):Bool:=eqB x y
theorem Zik {x y:Zal}:ZdP x y=true↔x=y:=Zbe
theorem ZeB {x y:Zal}:ZdP x y=false↔¬ x=y:=Za2
def ZcZ (x y:List Zal):Bool:=eqB x y
theorem ZeC {x y:List Zal}:ZcZ x y=true↔x=y:=Zbe
theorem Zd9 {x y:List Zal}:ZcZ x y=false↔¬ x=y:=Za2
def Zaa (xs:List Zal) (k:Nat):Zal:=nth Zae xs k
def Zcz (x y:Za6):Bool:=eqB x y
theorem Zf9 {x y:Za6}:Zcz x y=true↔x=y:=Zbe
theorem Zfe {x y:Za6}:Zcz x y=false↔¬ x=y:=Za2
def ZoG (x y:List Za6):Bool:=eqB x y
theorem Zil {x y:List Za6}:ZoG x y=true↔x=y:=Zbe
theorem Zhq {x y:List Za6}:ZoG x y=false↔¬ x=y:=Za2
def ZoH (x y:Zee):Bool:=eqB x y
theorem Zim {x y:Zee}:ZoH x y=true↔x=y:=Zbe
theorem Zhr {x y:Zee}:ZoH x y=false↔¬ x=y:=Za2
def ZmD (x y:List Zee):Bool:=eqB x y
theorem Zhs {x y:List Zee}:ZmD x y=true↔x=y:=Zbe
theorem ZgC {x y:List Zee}:ZmD x y=false↔¬ x=y:=Za2
def ZoI (x y:Zee):Bool:=Zck (cellsOf Zf2 x) (cellsOf Zf2 y)
theorem Zin {x y:Zee}:ZoI x y=true↔x=y:=ZcE (t:=Zf2) rfl
theorem Zht {x y:Zee}:ZoI x y=false↔¬ x=y:=ZcF (t:=Zf2) rfl
theorem Zq2 {x y:List Int} {v c:Nat}:leB (.row ZaC x v c none) (.row ZaC y v c none)=(x=y):=ZaV (t:=ZaC)
theorem Zq3 {x y:List ByteArray} {v c:Nat}:leB (.row ZaK x v c none) (.row ZaK y v c none)=(x=y):=ZaV (t:=ZaK)
theorem ZoJ {x y:List Bool} {v c:Nat}:leB (.row Zib x v c none) (.row Zib y v c none)=(x=y):=ZaV (t:=Zib)
theorem ZmE {x y:List Zjj} {v c:Nat}:leB (.row ZkC x v c none) (.row ZkC y v c none)=(x=y):=ZaV (t:=ZkC)
theorem ZoK {x y:List Zb9} {v c:Nat}:leB (.row ZaN x v c none) (.row ZaN y v c none)=(x=y):=ZaV (t:=ZaN)
theorem ZmF {x y:List Za3} {v c:Nat}:leB (.row Zar x v c none) (.row Zar y v c none)=(x=y):=ZaV (t:=Zar)
theorem Zla {x y:List ZbP} {v c:Nat}:leB (.row Zdi x v c none) (.row Zdi y v c none)=(x=y):=ZaV (t:=Zdi)
theorem ZjZ {x y:List ZgL} {v c:Nat}:leB (.row Zoy x v c none) (.row Zoy y v c none)=(x=y):=ZaV (t:=Zoy)
theorem Zq4 {x y:List ZcU} {v c:Nat}:leB (.row ZaT x v c none) (.row ZaT y v c none)=(x=y):=ZaV (t:=ZaT)
theorem Zq5 {x y:List ZaM} {v c:Nat}:leB (.row Zak x v c none) (.row Zak y v c none)=(x=y):=ZaV (t:=Zak)
theorem Zlb {x y:List Zax} {v c:Nat}:leB (.row Zah x v c none) (.row Zah y v c none)=(x=y):=ZaV (t:=Zah)
theorem ZmG {x y:List Za7} {v c:Nat}:leB (.row ZbI x v c none) (.row ZbI y v c none)=(x=y):=ZaV (t:=ZbI)
theorem Zlc {x y:List Zjk} {v c:Nat}:leB (.row ZsE x v c none) (.row ZsE y v c none)=(x=y):=ZaV (t:=ZsE)
theorem ZoL {x y:List Zay} {v c:Nat}:leB (.row Zai x v c none) (.row Zai y v c none)=(x=y):=ZaV (t:=Zai)
theorem ZmH {x y:List ZaU} {v c:Nat}:leB (.row ZbJ x v c none) (.row ZbJ y v c none)=(x=y):=ZaV (t:=ZbJ)
theorem Zq6 {x y:List Zxj} {v c:Nat}:leB (.row Zm4 x v c none) (.row Zm4 y v c none)=(x=y):=ZaV (t:=Zm4)
theorem ZuS {x y:List GIn} {v c:Nat}:leB (.row ZCX x v c none) (.row ZCX y v c none)=(x=y):=ZaV (t:=ZCX)
theorem Zj0 {x y:List Zal} {v c:Nat}:leB (.row Zae x v c none) (.row Zae y v c none)=(x=y):=ZaV (t:=Zae)
theorem Zld {x y:List Za6} {v c:Nat}:leB (.row Zbp x v c none) (.row Zbp y v c none)=(x=y):=ZaV (t:=Zbp)
theorem Zj1 {x y:List Zee} {v c:Nat}:leB (.row Zf2 x v c none) (.row Zf2 y v c none)=(x=y):=ZaV (t:=Zf2)
def ZmI:Zb9:=Ty.dflt ZaN
def Zi3:Za3:=Ty.dflt Zar
def ZuT:ZcU:=Ty.dflt ZaT
def ZoM:ZaM:=Ty.dflt Zak
def ZgD:Zax:=Ty.dflt Zah
def Zio:Zay:=Ty.dflt Zai
def ZeT:Zal:=Ty.dflt Zae
abbrev ZbT:=ByteArray × Int × Int × Value
def ZcL:Ty:=.prod ZaK (.prod ZaC (.prod ZaC .opq))
def Zdk (xs:List ZbT) (k:Nat):ZbT:=nth ZcL xs k
def ZaJ (xs:List ByteArray) (k:Nat):ByteArray:=nth ZaK xs k
def Zds (x y:List ByteArray):Bool:=eqB x y
theorem Zff {x y:List ByteArray}:Zds x y=true↔x=y:=Zbe
theorem ZeD {x y:List ByteArray}:Zds x y=false↔¬ x=y:=Za2
def ZAD (x y:List Int):Bool:=eqB x y
theorem Zle {x y:List Int}:ZAD x y=true↔x=y:=Zbe
theorem Zj2 {x y:List Int}:ZAD x y=false↔¬ x=y:=Za2
def T2 (p:Prop):Prop:=True∧(True∧p)
def T3 (p:Prop):Prop:=True∧(True∧(True∧p))
def T4 (p:Prop):Prop:=True∧(True∧(True∧(True∧p)))
def T5 (p:Prop):Prop:=True∧(True∧(True∧(True∧(True∧p))))
def T6 (p:Prop):Prop:=True∧(True∧(True∧(True∧(True∧(True∧p)))))
def T7 (p:Prop):Prop:=True∧(True∧(True∧(True∧(True∧(True∧(True∧p))))))
def T8 (p:Prop):Prop:=True∧(True∧(True∧(True∧(True∧(True∧(True∧(True∧p)))))))
def T9 (p:Prop):Prop:=True∧(True∧(True∧(True∧(True∧(True∧(True∧(True∧(True∧p))))))))
def T10 (p:Prop):Prop:=True∧(True∧(True∧(True∧(True∧(True∧(True∧(True∧(True∧(True∧p)))))))))
def T11 (p:Prop):Prop:=True∧(True∧(True∧(True∧(True∧(True∧(True∧(True∧(True∧(True∧(True∧p))))))))))
def T12 (p:Prop):Prop:=True∧(True∧(True∧(True∧(True∧(True∧(True∧(True∧(True∧(True∧(True∧(True∧p)))))))))))
theorem ZGi {p:Prop}:T2 p=p:=by simp [T2]
theorem ZGj {p:Prop}:T3 p=p:=by simp [T3]
theorem ZGk {p:Prop}:T4 p=p:=by simp [T4]
theorem ZGl {p:Prop}:T5 p=p:=by simp [T5]
theorem ZGm {p:Prop}:T6 p=p:=by simp [T6]
theorem ZGn {p:Prop}:T7 p=p:=by simp [T7]
theorem ZGo {p:Prop}:T8 p=p:=by simp [T8]
theorem ZGp {p:Prop}:T9 p=p:=by simp [T9]
theorem ZAE {p:Prop}:T10 p=p:=by simp [T10]
theorem ZAF {p:Prop}:T11 p=p:=by simp [T11]
theorem ZAG {p:Prop}:T12 p=p:=by simp [T12]
def ix (j:Nat) (x:Int) (n:Nat):Prop:=j=j∧(0:Int)≤x∧x < (n:Int)
theorem ZGq {j n:Nat} {x:Int}:ix j x n=((0:Int)≤x∧x < (n:Int)):=by simp [ix]
def vI (x y:Int):Prop:=leV (.c (.int .i64 x)) (.c (.int .i64 y))
theorem ZGr {x y:Int}:vI x y=(x=y):=ZoA
def cI (x y:Int):Prop:=true=true∧leC (.int .i64 x) (.int .i64 y)
theorem ZGs {x y:Int}:cI x y=(x=y):=by simp [cI,Zl6]
def cB (x y:Bool):Prop:=true=true∧leC (.bool x) (.bool y)
theorem ZGt {x y:Bool}:cB x y=(x=y):=by simp [cB,Zjt]
def cS (x y:ByteArray):Prop:=true=true∧leC (.str x) (.str y)
theorem ZGu {x y:ByteArray}:cS x y=(x=y):=by simp [cS,Zl7]
def w64 (x:Int):Int:=IntKind.wrap .i64 x
theorem ZAH {x:Int}:w64 x=IntKind.wrap .i64 x:=rfl
def tpn (n:Nat) (p:Prop):Prop:=lxs (List.replicate n (.tp [])) p
theorem ZAI {n:Nat} {p:Prop}:tpn n p=p:=ZqX
def ci (x:Int):AV:=.c (.int .i64 x)
theorem ZGv {x:Int}:ci x=.c (.int .i64 x):=rfl
def hn (t:Ty) (x:List t.den):AV:=.c (.hs .no t x)
theorem ZGw {t:Ty} {x:List t.den}:hn t x=.c (.hs .no t x):=rfl
def pt (p:Prop):Prop:=p∧true=true
theorem ZGx {p:Prop}:pt p=p:=by simp [pt]
theorem SIA:type_of% (And.intro @ZGq (And.intro @ZGr (And.intro @ZGs (And.intro @ZGt (And.intro @ZGu (And.intro @ZAH (And.intro @ZAI (And.intro @ZGv (And.intro @ZGw (And.intro @ZGx (And.intro @ZGi (And.intro @ZGj (And.intro @ZGk (And.intro @ZGl (And.intro @ZGm (And.intro @ZGn (And.intro @ZGo (And.intro @ZGp (And.intro @ZAE (And.intro @ZAF (And.intro @ZAG (And.intro @ZEv (And.intro @ZqX (And.intro @ZsH (And.intro @ZGd (And.intro @ZGe (And.intro @ZGf (And.intro @ZAA (And.intro @true_and (And.intro @and_true (And.intro @Zng (And.intro @ZbA (And.intro @Zb2 (And.intro @ZdK (And.intro @Zdp (And.intro @ZhX (And.intro @Zhi (And.intro @Zc3 (And.intro @ZeR (And.intro @Zju (And.intro @Zhj (And.intro @Zdj (And.intro @Zhk (And.intro @Zc4 (And.intro @Zdq (And.intro @Zjv (And.intro @Zhl (And.intro @not_true (And.intro @not_false (And.intro @Bool.not_eq_true' (And.intro @Bool.not_eq_false' (And.intro @Zoz (And.intro @ZoA (And.intro @Zni (And.intro @ZsF (And.intro @Zk2 (And.intro @ZhW (And.intro @Zl6 (And.intro @Zjt (And.intro @Zl7 (And.intro @ZAz (And.intro @ZaV (@Int.toNat_natCast))))))))))))))))))))))))))))))))))))))))))))))))))))))))))))))):=And.intro @ZGq (And.intro @ZGr (And.intro @ZGs (And.intro @ZGt (And.intro @ZGu (And.intro @ZAH (And.intro @ZAI (And.intro @ZGv (And.intro @ZGw (And.intro @ZGx (And.intro @ZGi (And.intro @ZGj (And.intro @ZGk (And.intro @ZGl (And.intro @ZGm (And.intro @ZGn (And.intro @ZGo (And.intro @ZGp (And.intro @ZAE (And.intro @ZAF (And.intro @ZAG (And.intro @ZEv (And.intro @ZqX (And.intro @ZsH (And.intro @ZGd (And.intro @ZGe (And.intro @ZGf (And.intro @ZAA (And.intro @true_and (And.intro @and_true (And.intro @Zng (And.intro @ZbA (And.intro @Zb2 (And.intro @ZdK (And.intro @Zdp (And.intro @ZhX (And.intro @Zhi (And.intro @Zc3 (And.intro @ZeR (And.intro @Zju (And.intro @Zhj (And.intro @Zdj (And.intro @Zhk (And.intro @Zc4 (And.intro @Zdq (And.intro @Zjv (And.intro @Zhl (And.intro @not_true (And.intro @not_false (And.intro @Bool.not_eq_true' (And.intro @Bool.not_eq_false' (And.intro @Zoz (And.intro @ZoA (And.intro @Zni (And.intro @ZsF (And.intro @Zk2 (And.intro @ZhW (And.intro @Zl6 (And.intro @Zjt (And.intro @Zl7 (And.intro @ZAz (And.intro @ZaV (@Int.toNat_natCast))))))))))))))))))))))))))))))))))))))))))))))))))))))))))))))
theorem Zd0:type_of% (And.intro @ZGq (And.intro @ZGr (And.intro @ZGs (And.intro @ZGt (And.intro @ZGu (And.intro @ZAH (And.intro @ZAI (And.intro @ZGv (And.intro @ZGw (And.intro @ZGx (And.intro @ZGi (And.intro @ZGj (And.intro @ZGk (And.intro @ZGl (And.intro @ZGm (And.intro @ZGn (And.intro @ZGo (And.intro @ZGp (And.intro @ZAE (And.intro @ZAF (And.intro @ZAG (And.intro @ZEv (And.intro @ZqX (And.intro @ZsH (And.intro @ZGd (And.intro @ZGe (And.intro @ZGf (And.intro @ZAA (And.intro @true_and (And.intro @and_true (And.intro @Zng (And.intro @ZbA (And.intro @Zb2 (And.intro @ZdK (And.intro @Zdp (And.intro @ZhX (And.intro @Zhi (And.intro @Zc3 (And.intro @ZeR (And.intro @Zju (And.intro @Zhj (And.intro @Zdj (And.intro @Zhk (And.intro @Zc4 (And.intro @Zdq (And.intro @Zjv (And.intro @Zhl (And.intro @not_true (And.intro @not_false (And.intro @Bool.not_eq_true' (And.intro @Bool.not_eq_false' (And.intro @Zoz (And.intro @ZoA (And.intro @Zni (And.intro @ZsF (And.intro @Zk2 (And.intro @ZhW (And.intro @Zl6 (And.intro @Zjt (And.intro @Zl7 (And.intro @ZAz (And.intro @ZaV (And.intro @Zq2 (And.intro @Zq3 (And.intro @ZoJ (And.intro @ZmE (And.intro @ZoK (And.intro @ZmF (And.intro @Zla (And.intro @ZjZ (And.intro @Zq4 (And.intro @Zq5 (And.intro @Zlb (And.intro @ZmG (And.intro @Zlc (And.intro @ZoL (And.intro @ZmH (And.intro @Zq6 (And.intro @ZuS (And.intro @Zj0 (And.intro @Zld (And.intro @Zj1 (@Int.toNat_natCast))))))))))))))))))))))))))))))))))))))))))))))))))))))))))))))))))))))))))))))))))):=And.intro @ZGq (And.intro @ZGr (And.intro @ZGs (And.intro @ZGt (And.intro @ZGu (And.intro @ZAH (And.intro @ZAI (And.intro @ZGv (And.intro @ZGw (And.intro @ZGx (And.intro @ZGi (And.intro @ZGj (And.intro @ZGk (And.intro @ZGl (And.intro @ZGm (And.intro @ZGn (And.intro @ZGo (And.intro @ZGp (And.intro @ZAE (And.intro @ZAF (And.intro @ZAG (And.intro @ZEv (And.intro @ZqX (And.intro @ZsH (And.intro @ZGd (And.intro @ZGe (And.intro @ZGf (And.intro @ZAA (And.intro @true_and (And.intro @and_true (And.intro @Zng (And.intro @ZbA (And.intro @Zb2 (And.intro @ZdK (And.intro @Zdp (And.intro @ZhX (And.intro @Zhi (And.intro @Zc3 (And.intro @ZeR (And.intro @Zju (And.intro @Zhj (And.intro @Zdj (And.intro @Zhk (And.intro @Zc4 (And.intro @Zdq (And.intro @Zjv (And.intro @Zhl (And.intro @not_true (And.intro @not_false (And.intro @Bool.not_eq_true' (And.intro @Bool.not_eq_false' (And.intro @Zoz (And.intro @ZoA (And.intro @Zni (And.intro @ZsF (And.intro @Zk2 (And.intro @ZhW (And.intro @Zl6 (And.intro @Zjt (And.intro @Zl7 (And.intro @ZAz (And.intro @ZaV (And.intro @Zq2 (And.intro @Zq3 (And.intro @ZoJ (And.intro @ZmE (And.intro @ZoK (And.intro @ZmF (And.intro @Zla (And.intro @ZjZ (And.intro @Zq4 (And.intro @Zq5 (And.intro @Zlb (And.intro @ZmG (And.intro @Zlc (And.intro @ZoL (And.intro @ZmH (And.intro @Zq6 (And.intro @ZuS (And.intro @Zj0 (And.intro @Zld (And.intro @Zj1 (@Int.toNat_natCast))))))))))))))))))))))))))))))))))))))))))))))))))))))))))))))))))))))))))))))))))
theorem EQA:type_of% (And.intro @ZjR (And.intro @ZiT (And.intro @ZiU (And.intro @Zic (And.intro @ZjS (And.intro @ZiV (And.intro @Zk3 (And.intro @ZgW (And.intro @ZgX (And.intro @Zd5 (And.intro @Zk4 (And.intro @ZjT (And.intro @ZjU (And.intro @Zf3 (And.intro @Zf4 (And.intro @Zfa (And.intro @ZiW (And.intro @Zfb (And.intro @Zid (And.intro @Zhm (And.intro @Zie (And.intro @Zhn (And.intro @Zho (And.intro @Zgz (And.intro @Zmv (And.intro @ZhZ (And.intro @Zh0 (And.intro @ZgY (And.intro @Zmw (And.intro @Zk5 (And.intro @Zmx (And.intro @Zh1 (And.intro @Zh2 (And.intro @Zg0 (And.intro @ZiX (And.intro @Zfc (And.intro @Zfd (And.intro @ZeA (And.intro @Zf5 (And.intro @Zif (And.intro @ZjV (And.intro @Zf6 (And.intro @ZiY (And.intro @Zig (And.intro @ZiZ (And.intro @Zih (And.intro @Zii (And.intro @Zhp (And.intro @Zk6 (And.intro @Zg1 (And.intro @Zg2 (And.intro @Zf7 (And.intro @Zfv (And.intro @ZjW (And.intro @ZjX (And.intro @Zf8 (And.intro @Zi0 (And.intro @Zij (And.intro @Zmy (And.intro @Zh3 (And.intro @Zk7 (And.intro @ZjY (And.intro @Zmz (And.intro @Zk8 (And.intro @ZoE (And.intro @Zi2 (And.intro @ZmB (And.intro @Zk9 (And.intro @ZoF (And.intro @ZmC (And.intro @Zik (And.intro @ZeB (And.intro @ZeC (And.intro @Zd9 (And.intro @Zf9 (And.intro @Zfe (And.intro @Zil (And.intro @Zhq (And.intro @Zim (And.intro @Zhr (And.intro @Zhs (And.intro @ZgC (And.intro @Zin (And.intro @Zht (And.intro @Zff (And.intro @ZeD (And.intro @Zle (And.intro @Zj2 (And.intro @ZbA (And.intro @Zb2 (And.intro @ZdK (And.intro @Zdp (And.intro @ZhX (And.intro @Zhi (And.intro @Zc3 (And.intro @ZeR (And.intro @Zju (And.intro @Zhj (And.intro @Zdj (And.intro @Zhk (And.intro @Zc4 (And.intro @Zdq (And.intro @Zjv (@Zhl)))))))))))))))))))))))))))))))))))))))))))))))))))))))))))))))))))))))))))))))))))))))))))))))))))))))):=And.intro @ZjR (And.intro @ZiT (And.intro @ZiU (And.intro @Zic (And.intro @ZjS (And.intro @ZiV (And.intro @Zk3 (And.intro @ZgW (And.intro @ZgX (And.intro @Zd5 (And.intro @Zk4 (And.intro @ZjT (And.intro @ZjU (And.intro @Zf3 (And.intro @Zf4 (And.intro @Zfa (And.intro @ZiW (And.intro @Zfb (And.intro @Zid (And.intro @Zhm (And.intro @Zie (And.intro @Zhn (And.intro @Zho (And.intro @Zgz (And.intro @Zmv (And.intro @ZhZ (And.intro @Zh0 (And.intro @ZgY (And.intro @Zmw (And.intro @Zk5 (And.intro @Zmx (And.intro @Zh1 (And.intro @Zh2 (And.intro @Zg0 (And.intro @ZiX (And.intro @Zfc (And.intro @Zfd (And.intro @ZeA (And.intro @Zf5 (And.intro @Zif (And.intro @ZjV (And.intro @Zf6 (And.intro @ZiY (And.intro @Zig (And.intro @ZiZ (And.intro @Zih (And.intro @Zii (And.intro @Zhp (And.intro @Zk6 (And.intro @Zg1 (And.intro @Zg2 (And.intro @Zf7 (And.intro @Zfv (And.intro @ZjW (And.intro @ZjX (And.intro @Zf8 (And.intro @Zi0 (And.intro @Zij (And.intro @Zmy (And.intro @Zh3 (And.intro @Zk7 (And.intro @ZjY (And.intro @Zmz (And.intro @Zk8 (And.intro @ZoE (And.intro @Zi2 (And.intro @ZmB (And.intro @Zk9 (And.intro @ZoF (And.intro @ZmC (And.intro @Zik (And.intro @ZeB (And.intro @ZeC (And.intro @Zd9 (And.intro @Zf9 (And.intro @Zfe (And.intro @Zil (And.intro @Zhq (And.intro @Zim (And.intro @Zhr (And.intro @Zhs (And.intro @ZgC (And.intro @Zin (And.intro @Zht (And.intro @Zff (And.intro @ZeD (And.intro @Zle (And.intro @Zj2 (And.intro @ZbA (And.intro @Zb2 (And.intro @ZdK (And.intro @Zdp (And.intro @ZhX (And.intro @Zhi (And.intro @Zc3 (And.intro @ZeR (And.intro @Zju (And.intro @Zhj (And.intro @Zdj (And.intro @Zhk (And.intro @Zc4 (And.intro @Zdq (And.intro @Zjv (@Zhl)))))))))))))))))))))))))))))))))))))))))))))))))))))))))))))))))))))))))))))))))))))))))))))))))))))))
end Go.Proofs.YtkompmgleojmlaaGreat
