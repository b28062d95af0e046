import Derived.Test.YtafhbjjcpncfnaaGreatIBmQ
import Derived.Test.YtafhbjjcpncfnaaGreatILists
import Derived.IntWalk
namespace Go.Proofs.YtafhbjjcpncfnaaGreat
open Go.ChangeShapes Go.WideShapes Go.ChangeAt Go.RowKit Go.Joins Go.Deep
def Zax:Ty:=.int .i64
def Zi7:Ty:=.bool
def Za1:Ty:=.str
def ZlR:Ty:=(.prod Zax Za1)
def Zay:Ty:=(.prod Zax Zax)
def Zak:Ty:=(.prod Zax (.prod (.list Za1) Zax))
def Zdd:Ty:=(.prod Zi7 (.list Zak))
def ZqT:Ty:=(.prod Za1 (.prod Zax (.prod Za1 (.prod Za1 (.prod Zi7 (.prod (.list Zay) (.prod Zax (.prod Zax (.prod Za1 Zdd)))))))))
def ZaR:Ty:=(.prod Zax (.prod Zax Za1))
def Zaj:Ty:=(.prod Za1 (.prod Zax (.prod Zax (.list ZaR))))
def Zag:Ty:=(.prod Zax (.prod Zax (.prod Zax (.prod Zax (.prod Za1 Za1)))))
def ZbJ:Ty:=(.prod (.list Zaj) (.prod (.list Zag) Zax))
def ZvE:Ty:=(.prod Zi7 (.prod Za1 (.prod Zax (.prod Zax (.prod (.list Zay) Zi7)))))
def Zal:Ty:=(.prod Zax (.prod Zax (.prod Zax Za1)))
def Zdv:Ty:=(.prod (.list Zal) (.prod Zi7 Zi7))
def Zmx:Ty:=(.prod Za1 Za1)
def ZEU:Ty:=(.prod Za1 Zi7)
def Zae:Ty:=(.prod Zi7 (.prod Zax (.prod Zax (.prod Zax (.prod (.list Zay) (.prod Zdd (.prod Za1 (.prod Za1 (.prod Zdv (.prod ZEU (.prod Zmx Zax)))))))))))
def Zbm:Ty:=(.prod ZbJ (.list Zae))
def Zg6:Ty:=(.prod Zax (.prod Za1 Zax))
def L0:Nat→List AV→Mem→Zbd:=fun _ _ _=>⟨Unit,fun _=>([],[]),fun _=>False,fun _=>0⟩
def tmI (tm:List AV) (i:Nat):Int:=match tm.getD i .any with | .w (.c (.int _ x))=>x | _=>0
def tmB (tm:List AV) (i:Nat):Bool:=match tm.getD i .any with | .w (.c (.bool x))=>x | _=>false
def Zky (M:Mem):List (Nat × Blk)→Mem
 | []=>M
 | p :: l=>Zky (M.set p.1 p.2) l
theorem ZqU {x:AV}:leV x .any=True:=by unfold leV; split <;> simp_all
theorem ZqV {k:IntKind} {x y:Int}:leV (.w (.c (.int k x))) (.w (.c (.int k y)))=(x=y):=by simp [leV,leC]
theorem ZoS {x y:Bool}:leV (.w (.c (.bool x))) (.w (.c (.bool y)))=(x=y):=by simp [leV,leC]
theorem ZvF {x y:ByteArray}:leV (.w (.c (.str x))) (.w (.c (.str y)))=(x=y):=by simp [leV,leC]
theorem ZEV:∀ {x:AC},leC x x
 | .int _ _=>⟨rfl,rfl⟩
 | .bool _=>rfl
 | .str _=>rfl
 | .opq _=>rfl
 | .hs _ _ _=>⟨rfl,rfl,rfl⟩
 | .bp _ _=>rfl
 | .ep _ _ _ _ _=>rfl
 | .row _ _=>rfl
 | .rp _ _ _ _ _=>rfl
 | .sl _ _ _ _ _ _=>rfl
 | .sp _ _ _ _ _ _ _ _ _=>rfl
 | .tl _ _ _ _=>rfl
 | .mp _=>rfl
 | .fn _ _=>rfl
 | .raw _=>rfl
 | .junk=>rfl
theorem ZvG:∀ {x:List AC},leL x x
 | []=>trivial
 | _ :: _=>⟨ZEV,ZvG⟩
theorem Zmy {x:AV}:leV x x=True:=by
 cases x with
 | any=>simp [ZqU]
 | tp l=>simp [leV]
 | w x =>
  cases x with
  | c a=>exact eq_true (ZEV (x:=a))
  | ag l=>exact eq_true (ZvG (x:=l))
theorem Zmz {x:Blk}:leB x x=True:=by
 cases x with
 | box l=>exact eq_true (ZvG (x:=l))
 | row t xs v c h=>cases h with
  | none=>exact eq_true ⟨⟨rfl,rfl⟩,rfl,rfl⟩
  | some _=>simp [leB]
 | _=>simp [leB]
def TN:Nat→Prop→Prop
 | 0,p=>p
 | n + 1,p=>True∧TN n p
theorem ZI8 {p:Prop}:∀ {n:Nat},TN n p=p
 | 0=>rfl
 | n + 1=>by
  show (True∧TN n p)=p
  rw [ZI8 (n:=n),true_and]
def lxs:List AV→Prop→Prop
 | [],p=>p
 | x :: l,p=>leV x x∧lxs l p
theorem Ztf {p:Prop}:∀ {l:List AV},lxs l p=p
 | []=>rfl
 | x :: l=>by
  show (leV x x∧lxs l p)=p
  rw [Ztf (l:=l),Zmy,true_and]
def lb (x:Blk):Prop:=leB x x
theorem ZvH {x:Blk}:lb x=True:=Zmz
def Zcf:List AV→Nat→Nat→List AV
 | tm,_,0=>tm
 | tm,i,n + 1=>Zcf (tm.set i .any) (i + 1) n
theorem ZnA {k:IntKind} {x y:Int}:leC (.int k x) (.int k y)=(x=y):=by simp [leC]
theorem Zkz {x y:Bool}:leC (.bool x) (.bool y)=(x=y):=by simp [leC]
theorem ZnB {x y:ByteArray}:leC (.str x) (.str y)=(x=y):=by simp [leC]
theorem ZEW {L:Lnd} {t:Ty} {x y:List t.den}:leC (.hs L t x) (.hs L t y)=(x=y):=by simp [leC]
theorem Za6 {t:Ty} {x y:List t.den} {v c:Nat}:leB (.row t x v c none) (.row t y v c none)=(x=y):=by simp [leB]
theorem ZEX {x y:List Int}:leB (.mp x) (.mp y)=(x=y):=by simp [leB]
def rB (x y:Bool):Prop:=(true=true∧leC (.bool x) (.bool y))∧true=true
theorem ZKS {x y:Bool}:rB x y=(x=y):=by simp [rB,Zkz]
def rI (x y:Int):Prop:=(true=true∧leC (.int .i64 x) (.int .i64 y))∧true=true
theorem ZKT {x y:Int}:rI x y=(x=y):=by simp [rI,ZnA]
def rS (x y:ByteArray):Prop:=(true=true∧leC (.str x) (.str y))∧true=true
theorem ZKU {x y:ByteArray}:rS x y=(x=y):=by simp [rS,ZnB]
theorem bc0 {P:Program} (Γ:List (ZaE P)) (H:List (Zhy P)) (H2:List (ZjR P)) (G:List (Zdb P)) (L:Nat→List AV→Mem→Zbd) {f:FuncId} {fn:Func} {args:List AW} {res:AV} {new:Mem} (hf:P.funcs[f]?=some fn) (h:WfA args→ZGy ⟨Γ,H,H2,G,none,fun _=>[],0,[],[]⟩ L fn args [] (ZOe res new)):Zao P f args res new:=ZcS hf ⟨⟨rfl,rfl⟩,rfl⟩ h
theorem Zbs {k:Nat} (h:k + 1≤maxLen):IntKind.wrap .i64 (((k:Nat):Int) + 1)=((k + 1:Nat):Int):=by
 have:IntKind.i64.wrap (((k:Nat):Int) + 1)=((k:Nat):Int) + 1:=IntWalk.i64_in _ (by unfold maxLen at h; omega)
 rw [this]
 rfl
theorem Zat {t:Ty} {xs:List t.den} {k:Nat} (h:k < xs.length):xs[k]?=some (nth t xs k):=by
 unfold nth
 rw [List.getD_eq_getElem?_getD,List.getElem?_eq_getElem h]
 rfl
theorem ZaU {P:Nat→Prop} {k:Nat} (h:∀ j,j < k→P j) (hk:P k):∀ j,j < k + 1→P j:=fun j hj=>by
 rcases Nat.lt_or_ge j k with h1 | h1
 ·exact h j h1
 ·obtain rfl:j=k:=by omega
  exact hk
theorem Za3 {P:Nat→Prop}:∀ j,j < 0→P j:=fun j hj=>absurd hj (Nat.not_lt_zero j)
theorem Zie {t:Ty} {xs:List t.den} {p:t.den→Bool} (h:∀ j,j < xs.length→p (nth t xs j)=false):xs.any p=false:=by
 rw [List.any_eq_false]
 intro x hx
 obtain ⟨j,hj,rfl⟩:=List.mem_iff_getElem.1 hx
 have h1:=h j hj
 have h2:=Zat hj
 rw [List.getElem?_eq_getElem hj] at h2
 rw [← Option.some.inj h2] at h1
 simp [h1]
theorem ZkA {t:Ty} {xs:List t.den} {p:t.den→Bool} {k:Nat} (hk:k < xs.length) (h:p (nth t xs k)=true):xs.any p=true:=ZNN (Zat hk) h
theorem ZKV {t:Ty} {xs:List t.den} {p:t.den→Bool} {k:Nat} (hk:k≤xs.length) (h:∀ j,j < k→p (nth t xs j)=false):(xs.take k).any p=false:=by
 rw [List.any_eq_false]
 intro x hx
 obtain ⟨j,hj,rfl⟩:=List.mem_take_iff_getElem.1 hx
 have h1:=h j (by omega)
 have h2:=Zat (t:=t) (xs:=xs) (k:=j) (by omega)
 rw [List.getElem?_eq_getElem (by omega)] at h2
 rw [← Option.some.inj h2] at h1
 simp [h1]
theorem Zfu {t:Ty} {xs:List t.den} {p:t.den→Bool} {k:Nat} (hk:k < xs.length) (h:∀ j,j < k→p (nth t xs j)=false) (hp:p (nth t xs k)=true):Zf0 p xs=((k:Nat):Int):=ZD7 (ZKV (by omega) h) (Zat hk) hp
theorem Zcv {t:Ty} {xs:List t.den} {p:t.den→Bool} (h:∀ j,j < xs.length→p (nth t xs j)=false):Zf0 p xs=-1:=Zrl (Zie h)
theorem Zch {t:Ty} {xs ys:List t.den} (hl:xs.length=ys.length) (h:∀ j,j < xs.length→nth t xs j=nth t ys j):xs=ys:=by
 apply List.ext_getElem?
 intro j
 rcases Nat.lt_or_ge j xs.length with h1 | h1
 ·rw [Zat h1,Zat (by omega),h j h1]
 ·rw [List.getElem?_eq_none h1,List.getElem?_eq_none (by omega)]
theorem ZEY {t:Ty} {xs ys:List t.den} {p:t.den→t.den→Bool} (hl:xs.length=ys.length) (h:∀ j,j < xs.length→p (nth t xs j) (nth t ys j)=true):ZkQ p xs ys=true:=by
 have key:∀ k,k≤xs.length→ZkQ p (xs.take k) (ys.take k)=true:=by
  intro k
  induction k with
  | zero=>intro _; rfl
  | succ k ih=>intro hk; exact ZyK (ih (by omega)) (Zat (by omega)) (Zat (by omega)) (h k (by omega))
 have:=key xs.length (Nat.le_refl _)
 rwa [List.take_length,hl,List.take_length] at this
theorem ZqW {t:Ty} {xs ys:List t.den} {p:t.den→t.den→Bool} {k:Nat} (hk:k < xs.length) (hk2:k < ys.length) (h:p (nth t xs k) (nth t ys k)=false):ZkQ p xs ys=false:=ZJr (Zat hk) (Zat hk2) h
theorem ZMF (x y:Int) (b:Bool):((x == y) && b)=true↔x=y∧b=true:=by simp
theorem ZKW (x y b:Bool):((x == y) && b)=true↔x=y∧b=true:=by simp
theorem ZMG (x y:ByteArray) (b:Bool):(decide (x=y) && b)=true↔x=y∧b=true:=by simp
def Ty.plain:Ty→Bool
 | .prod a b=>a.plain && b.plain
 | .list _=>false
 | .opq=>false
 | _=>true
theorem ZlS:∀ (t:Ty),t.plain=true→∀ (x y:t.den) (l k:List AC),ZcJ (cellsOf t x ++ l) (cellsOf t y ++ k)=true↔x=y∧ZcJ l k=true
 | .int _,_,x,y,l,k=>ZMF x y _
 | .bool,_,x,y,l,k=>ZKW x y _
 | .str,_,x,y,l,k=>ZMG x y _
 | .prod a b,h,x,y,l,k=>by
  have h' : (a.plain && b.plain)=true:=h
  rw [Bool.and_eq_true] at h'
  show ZcJ ((cellsOf a x.1 ++ cellsOf b x.2) ++ l) ((cellsOf a y.1 ++ cellsOf b y.2) ++ k)=true↔_
  rw [List.append_assoc,List.append_assoc,ZlS a h'.1,ZlS b h'.2]
  constructor
  ·rintro ⟨h1,h2,h3⟩
   exact ⟨Prod.ext h1 h2,h3⟩
  ·rintro ⟨rfl,h3⟩
   exact ⟨rfl,rfl,h3⟩
 | .list _,h,_,_,_,_=>by cases h
 | .opq,h,_,_,_,_=>by cases h
theorem Zde {t:Ty} (h:t.plain=true) {x y:t.den}:ZcJ (cellsOf t x) (cellsOf t y)=true↔x=y:=by
 have:=ZlS t h x y [] []
 rw [List.append_nil,List.append_nil] at this
 rw [this]
 exact ⟨fun h=>h.1,fun h=>⟨h,rfl⟩⟩
theorem Zdf {t:Ty} (h:t.plain=true) {x y:t.den}:ZcJ (cellsOf t x) (cellsOf t y)=false↔¬ x=y:=by
 rw [← Zde h]
 simp
def eqI (a b:Int):Bool:=a == b
def neI (a b:Int):Bool:=a != b
def ltI (a b:Int):Bool:=decide (a < b)
def leI (a b:Int):Bool:=decide (a≤b)
def gtI (a b:Int):Bool:=decide (a > b)
def geI (a b:Int):Bool:=decide (a ≥ b)
def eqS (a b:ByteArray):Bool:=decide (a=b)
def eqO (a b:Bool):Bool:=a == b
section
variable {a b:Int} {x y:ByteArray} {p q:Bool}
theorem ZaJ:eqI a b=true↔a=b:=by simp [eqI]
theorem ZaS:eqI a b=false↔¬ a=b:=by simp [eqI]
theorem ZbW:neI a b=true↔¬ a=b:=by simp [neI]
theorem Zby:neI a b=false↔a=b:=by simp [neI]
theorem ZhB:ltI a b=true↔a < b:=by simp [ltI]
theorem Zg7:ltI a b=false↔¬ a < b:=by simp [ltI]
theorem Zcn:leI a b=true↔a≤b:=by simp [leI]
theorem ZcT:leI a b=false↔¬ a≤b:=by simp [leI]
theorem gtI_true:gtI a b=true↔b < a:=by simp [gtI]
theorem ZfI:gtI a b=false↔¬ b < a:=by simp [gtI]
theorem ZdZ:geI a b=true↔b≤a:=by simp [geI]
theorem Zif:geI a b=false↔¬ b≤a:=by simp [geI]
theorem Zbp:eqS x y=true↔x=y:=by simp [eqS]
theorem Zbo:eqS x y=false↔¬ x=y:=by simp [eqS]
theorem ZkB:eqO p q=true↔p=q:=by simp [eqO]
theorem Zig:eqO p q=false↔¬ p=q:=by simp [eqO]
end
def Zyk (x y:Zkh):Bool:=eqB x y
theorem Zk6 {x y:Zkh}:Zyk x y=true↔x=y:=Zbz
theorem ZjX {x y:Zkh}:Zyk x y=false↔¬ x=y:=Zbg
def Ztg (x y:List Zkh):Bool:=eqB x y
theorem ZjY {x y:List Zkh}:Ztg x y=true↔x=y:=Zbz
theorem Zi8 {x y:List Zkh}:Ztg x y=false↔¬ x=y:=Zbg
def Zyl (x y:Zkh):Bool:=ZcJ (cellsOf ZlR x) (cellsOf ZlR y)
theorem Zk7 {x y:Zkh}:Zyl x y=true↔x=y:=Zde (t:=ZlR) rfl
theorem ZjZ {x y:Zkh}:Zyl x y=false↔¬ x=y:=Zdf (t:=ZlR) rfl
def ZhC (x y:ZbT):Bool:=eqB x y
theorem ZmA {x y:ZbT}:ZhC x y=true↔x=y:=Zbz
theorem ZhX {x y:ZbT}:ZhC x y=false↔¬ x=y:=Zbg
def Zbt (x y:List ZbT):Bool:=eqB x y
theorem Zer {x y:List ZbT}:Zbt x y=true↔x=y:=Zbz
theorem ZcA {x y:List ZbT}:Zbt x y=false↔¬ x=y:=Zbg
def ZoT (x y:ZbT):Bool:=ZcJ (cellsOf Zay x) (cellsOf Zay y)
theorem ZiV {x y:ZbT}:ZoT x y=true↔x=y:=Zde (t:=Zay) rfl
theorem Zfv {x y:ZbT}:ZoT x y=false↔¬ x=y:=Zdf (t:=Zay) rfl
def ZaV (xs:List ZbT) (k:Nat):ZbT:=nth Zay xs k
def ZcF (x y:ZaW):Bool:=eqB x y
theorem ZhY {x y:ZaW}:ZcF x y=true↔x=y:=Zbz
theorem Zg8 {x y:ZaW}:ZcF x y=false↔¬ x=y:=Zbg
def ZeF (x y:List ZaW):Bool:=eqB x y
theorem Zg9 {x y:List ZaW}:ZeF x y=true↔x=y:=Zbz
theorem ZfW {x y:List ZaW}:ZeF x y=false↔¬ x=y:=Zbg
def Zas (xs:List ZaW) (k:Nat):ZaW:=nth Zak xs k
def ZbK (x y:Zb1):Bool:=eqB x y
theorem ZeQ {x y:Zb1}:ZbK x y=true↔x=y:=Zbz
theorem Zey {x y:Zb1}:ZbK x y=false↔¬ x=y:=Zbg
def ZqX (x y:List Zb1):Bool:=eqB x y
theorem Zi9 {x y:List Zb1}:ZqX x y=true↔x=y:=Zbz
theorem Zih {x y:List Zb1}:ZqX x y=false↔¬ x=y:=Zbg
def ZqY (x y:ZhJ):Bool:=eqB x y
theorem Zja {x y:ZhJ}:ZqY x y=true↔x=y:=Zbz
theorem Zii {x y:ZhJ}:ZqY x y=false↔¬ x=y:=Zbg
def ZnY (x y:List ZhJ):Bool:=eqB x y
theorem Zij {x y:List ZhJ}:ZnY x y=true↔x=y:=Zbz
theorem ZhD {x y:List ZhJ}:ZnY x y=false↔¬ x=y:=Zbg
def ZiW (x y:Zdr):Bool:=eqB x y
theorem ZnZ {x y:Zdr}:ZiW x y=true↔x=y:=Zbz
theorem ZiX {x y:Zdr}:ZiW x y=false↔¬ x=y:=Zbg
def Zd0 (x y:List Zdr):Bool:=eqB x y
theorem Zgo {x y:List Zdr}:Zd0 x y=true↔x=y:=Zbz
theorem Zes {x y:List Zdr}:Zd0 x y=false↔¬ x=y:=Zbg
def ZvI (x y:Zdr):Bool:=ZcJ (cellsOf ZaR x) (cellsOf ZaR y)
theorem Zj0 {x y:Zdr}:ZvI x y=true↔x=y:=Zde (t:=ZaR) rfl
theorem Zgp {x y:Zdr}:ZvI x y=false↔¬ x=y:=Zdf (t:=ZaR) rfl
def ZaG (xs:List Zdr) (k:Nat):Zdr:=nth ZaR xs k
def Zcq (x y:ZaO):Bool:=eqB x y
theorem ZfJ {x y:ZaO}:Zcq x y=true↔x=y:=Zbz
theorem ZcL {x y:ZaO}:Zcq x y=false↔¬ x=y:=Zbg
def Zca (x y:List ZaO):Bool:=eqB x y
theorem Zdg {x y:List ZaO}:Zca x y=true↔x=y:=Zbz
theorem eqT_LBox_false {x y:List ZaO}:Zca x y=false↔¬ x=y:=Zbg
def Zab (xs:List ZaO) (k:Nat):ZaO:=nth Zaj xs k
def Zc6 (x y:ZaA):Bool:=eqB x y
theorem Zj1 {x y:ZaA}:Zc6 x y=true↔x=y:=Zbz
theorem ZfX {x y:ZaA}:Zc6 x y=false↔¬ x=y:=Zbg
def Zea (x y:List ZaA):Bool:=eqB x y
theorem ZfY {x y:List ZaA}:Zea x y=true↔x=y:=Zbz
theorem Zfm {x y:List ZaA}:Zea x y=false↔¬ x=y:=Zbg
def ZcD (x y:ZaA):Bool:=ZcJ (cellsOf Zag x) (cellsOf Zag y)
theorem Zha {x y:ZaA}:ZcD x y=true↔x=y:=Zde (t:=Zag) rfl
theorem Zjb {x y:ZaA}:ZcD x y=false↔¬ x=y:=Zdf (t:=Zag) rfl
def Zac (xs:List ZaA) (k:Nat):ZaA:=nth Zag xs k
def ZeR (x y:ZaI):Bool:=eqB x y
theorem Zk8 {x y:ZaI}:ZeR x y=true↔x=y:=Zbz
theorem Zhb {x y:ZaI}:ZeR x y=false↔¬ x=y:=Zbg
def Zth (x y:List ZaI):Bool:=eqB x y
theorem Zj2 {x y:List ZaI}:Zth x y=true↔x=y:=Zbz
theorem Zjc {x y:List ZaI}:Zth x y=false↔¬ x=y:=Zbg
def Zti (x y:Zki):Bool:=eqB x y
theorem Zj3 {x y:Zki}:Zti x y=true↔x=y:=Zbz
theorem Zjd {x y:Zki}:Zti x y=false↔¬ x=y:=Zbg
def ZqZ (x y:List Zki):Bool:=eqB x y
theorem Zje {x y:List Zki}:ZqZ x y=true↔x=y:=Zbz
theorem Zik {x y:List Zki}:ZqZ x y=false↔¬ x=y:=Zbg
def Zfw (x y:ZaM):Bool:=eqB x y
theorem ZmB {x y:ZaM}:Zfw x y=true↔x=y:=Zbz
theorem ZhZ {x y:ZaM}:Zfw x y=false↔¬ x=y:=Zbg
def Zdh (x y:List ZaM):Bool:=eqB x y
theorem Zfx {x y:List ZaM}:Zdh x y=true↔x=y:=Zbz
theorem Zeb {x y:List ZaM}:Zdh x y=false↔¬ x=y:=Zbg
def Zcw (x y:ZaM):Bool:=ZcJ (cellsOf Zal x) (cellsOf Zal y)
theorem Zdi {x y:ZaM}:Zcw x y=true↔x=y:=Zde (t:=Zal) rfl
theorem Zfy {x y:ZaM}:Zcw x y=false↔¬ x=y:=Zdf (t:=Zal) rfl
def Zaf (xs:List ZaM) (k:Nat):ZaM:=nth Zal xs k
def ZbV (x y:ZbH):Bool:=eqB x y
theorem Zfz {x y:ZbH}:ZbV x y=true↔x=y:=Zbz
theorem ZcU {x y:ZbH}:ZbV x y=false↔¬ x=y:=Zbg
def Ztj (x y:List ZbH):Bool:=eqB x y
theorem Zj4 {x y:List ZbH}:Ztj x y=true↔x=y:=Zbz
theorem Zjf {x y:List ZbH}:Ztj x y=false↔¬ x=y:=Zbg
def Zj5 (x y:ZsC):Bool:=eqB x y
theorem Zn0 {x y:ZsC}:Zj5 x y=true↔x=y:=Zbz
theorem ZiY {x y:ZsC}:Zj5 x y=false↔¬ x=y:=Zbg
def ZEZ (x y:List ZsC):Bool:=eqB x y
theorem ZmC {x y:List ZsC}:ZEZ x y=true↔x=y:=Zbz
theorem Zk9 {x y:List ZsC}:ZEZ x y=false↔¬ x=y:=Zbg
def ZvJ (x y:ZsC):Bool:=ZcJ (cellsOf Zmx x) (cellsOf Zmx y)
theorem Zn1 {x y:ZsC}:ZvJ x y=true↔x=y:=Zde (t:=Zmx) rfl
theorem ZmD {x y:ZsC}:ZvJ x y=false↔¬ x=y:=Zdf (t:=Zmx) rfl
def Zn2 (x y:GIn):Bool:=eqB x y
theorem Zq0 {x y:GIn}:Zn2 x y=true↔x=y:=Zbz
theorem Zj6 {x y:GIn}:Zn2 x y=false↔¬ x=y:=Zbg
def ZI9 (x y:List GIn):Bool:=eqB x y
theorem Zn3 {x y:List GIn}:ZI9 x y=true↔x=y:=Zbz
theorem ZmE {x y:List GIn}:ZI9 x y=false↔¬ x=y:=Zbg
def ZE0 (x y:GIn):Bool:=ZcJ (cellsOf ZEU x) (cellsOf ZEU y)
theorem Zq1 {x y:GIn}:ZE0 x y=true↔x=y:=Zde (t:=ZEU) rfl
theorem Zn4 {x y:GIn}:ZE0 x y=false↔¬ x=y:=Zdf (t:=ZEU) rfl
def Zbi (x y:Zad):Bool:=eqB x y
theorem ZdL {x y:Zad}:Zbi x y=true↔x=y:=Zbz
theorem Zfn {x y:Zad}:Zbi x y=false↔¬ x=y:=Zbg
def ZdA (x y:List Zad):Bool:=eqB x y
theorem Zfo {x y:List Zad}:ZdA x y=true↔x=y:=Zbz
theorem ZeS {x y:List Zad}:ZdA x y=false↔¬ x=y:=Zbg
def Zaa (xs:List Zad) (k:Nat):Zad:=nth Zae xs k
def Zc7 (x y:ZaT):Bool:=eqB x y
theorem Zhc {x y:ZaT}:Zc7 x y=true↔x=y:=Zbz
theorem ZfZ {x y:ZaT}:Zc7 x y=false↔¬ x=y:=Zbg
def Zq2 (x y:List ZaT):Bool:=eqB x y
theorem Zjg {x y:List ZaT}:Zq2 x y=true↔x=y:=Zbz
theorem Zil {x y:List ZaT}:Zq2 x y=false↔¬ x=y:=Zbg
def Zq3 (x y:Ze1):Bool:=eqB x y
theorem Zjh {x y:Ze1}:Zq3 x y=true↔x=y:=Zbz
theorem Zim {x y:Ze1}:Zq3 x y=false↔¬ x=y:=Zbg
def Zn5 (x y:List Ze1):Bool:=eqB x y
theorem Zin {x y:List Ze1}:Zn5 x y=true↔x=y:=Zbz
theorem ZhE {x y:List Ze1}:Zn5 x y=false↔¬ x=y:=Zbg
def Zq4 (x y:Ze1):Bool:=ZcJ (cellsOf Zg6 x) (cellsOf Zg6 y)
theorem Zji {x y:Ze1}:Zq4 x y=true↔x=y:=Zde (t:=Zg6) rfl
theorem Zio {x y:Ze1}:Zq4 x y=false↔¬ x=y:=Zdf (t:=Zg6) rfl
theorem Ztk {x y:List Int} {v c:Nat}:leB (.row Zax x v c none) (.row Zax y v c none)=(x=y):=Za6 (t:=Zax)
theorem Ztl {x y:List ByteArray} {v c:Nat}:leB (.row Za1 x v c none) (.row Za1 y v c none)=(x=y):=Za6 (t:=Za1)
theorem Zq5 {x y:List Bool} {v c:Nat}:leB (.row Zi7 x v c none) (.row Zi7 y v c none)=(x=y):=Za6 (t:=Zi7)
theorem Zn6 {x y:List Zkh} {v c:Nat}:leB (.row ZlR x v c none) (.row ZlR y v c none)=(x=y):=Za6 (t:=ZlR)
theorem Zq6 {x y:List ZbT} {v c:Nat}:leB (.row Zay x v c none) (.row Zay y v c none)=(x=y):=Za6 (t:=Zay)
theorem Zn7 {x y:List ZaW} {v c:Nat}:leB (.row Zak x v c none) (.row Zak y v c none)=(x=y):=Za6 (t:=Zak)
theorem ZmF {x y:List Zb1} {v c:Nat}:leB (.row Zdd x v c none) (.row Zdd y v c none)=(x=y):=Za6 (t:=Zdd)
theorem Zla {x y:List ZhJ} {v c:Nat}:leB (.row ZqT x v c none) (.row ZqT y v c none)=(x=y):=Za6 (t:=ZqT)
theorem Ztm {x y:List Zdr} {v c:Nat}:leB (.row ZaR x v c none) (.row ZaR y v c none)=(x=y):=Za6 (t:=ZaR)
theorem Ztn {x y:List ZaO} {v c:Nat}:leB (.row Zaj x v c none) (.row Zaj y v c none)=(x=y):=Za6 (t:=Zaj)
theorem ZmG {x y:List ZaA} {v c:Nat}:leB (.row Zag x v c none) (.row Zag y v c none)=(x=y):=Za6 (t:=Zag)
theorem Zn8 {x y:List ZaI} {v c:Nat}:leB (.row ZbJ x v c none) (.row ZbJ y v c none)=(x=y):=Za6 (t:=ZbJ)
theorem ZmH {x y:List Zki} {v c:Nat}:leB (.row ZvE x v c none) (.row ZvE y v c none)=(x=y):=Za6 (t:=ZvE)
theorem Zq7 {x y:List ZaM} {v c:Nat}:leB (.row Zal x v c none) (.row Zal y v c none)=(x=y):=Za6 (t:=Zal)
theorem Zn9 {x y:List ZbH} {v c:Nat}:leB (.row Zdv x v c none) (.row Zdv y v c none)=(x=y):=Za6 (t:=Zdv)
theorem Zto {x y:List ZsC} {v c:Nat}:leB (.row Zmx x v c none) (.row Zmx y v c none)=(x=y):=Za6 (t:=Zmx)
theorem Zym {x y:List GIn} {v c:Nat}:leB (.row ZEU x v c none) (.row ZEU y v c none)=(x=y):=Za6 (t:=ZEU)
theorem Zlb {x y:List Zad} {v c:Nat}:leB (.row Zae x v c none) (.row Zae y v c none)=(x=y):=Za6 (t:=Zae)
theorem ZmI {x y:List ZaT} {v c:Nat}:leB (.row Zbm x v c none) (.row Zbm y v c none)=(x=y):=Za6 (t:=Zbm)
theorem Zlc {x y:List Ze1} {v c:Nat}:leB (.row Zg6 x v c none) (.row Zg6 y v c none)=(x=y):=Za6 (t:=Zg6)
def Zoa:ZbT:=Ty.dflt Zay
def Zj7:ZaW:=Ty.dflt Zak
def Zyn:Zdr:=Ty.dflt ZaR
def Zq8:ZaO:=Ty.dflt Zaj
def ZhF:ZaA:=Ty.dflt Zag
def Zob:ZaM:=Ty.dflt Zal
def ZfK:Zad:=Ty.dflt Zae
abbrev Zce:=ByteArray × Int × Int × Value
def Zds:Ty:=.prod Za1 (.prod Zax (.prod Zax .opq))
def Zd1 (xs:List Zce) (k:Nat):Zce:=nth Zds xs k
def Zar (xs:List Int) (k:Nat):Int:=nth Zax xs k
def ZaF (xs:List ByteArray) (k:Nat):ByteArray:=nth Za1 xs k
def ZbO (x y:List ByteArray):Bool:=eqB x y
theorem ZdM {x y:List ByteArray}:ZbO x y=true↔x=y:=Zbz
theorem Zcr {x y:List ByteArray}:ZbO x y=false↔¬ x=y:=Zbg
def ZeT (x y:List Int):Bool:=eqB x y
theorem Zgq {x y:List Int}:ZeT x y=true↔x=y:=Zbz
theorem Zh0 {x y:List Int}:ZeT x y=false↔¬ x=y:=Zbg
def T2 (p:Prop):Prop:=True∧(True∧p)
def T3 (p:Prop):Prop:=True∧(True∧(True∧p))
def T4 (p:Prop):Prop:=True∧(True∧(True∧(True∧p)))
def T5 (p:Prop):Prop:=True∧(True∧(True∧(True∧(True∧p))))
def T6 (p:Prop):Prop:=True∧(True∧(True∧(True∧(True∧(True∧p)))))
def T7 (p:Prop):Prop:=True∧(True∧(True∧(True∧(True∧(True∧(True∧p))))))
def T8 (p:Prop):Prop:=True∧(True∧(True∧(True∧(True∧(True∧(True∧(True∧p)))))))
def T9 (p:Prop):Prop:=True∧(True∧(True∧(True∧(True∧(True∧(True∧(True∧(True∧p))))))))
def T10 (p:Prop):Prop:=True∧(True∧(True∧(True∧(True∧(True∧(True∧(True∧(True∧(True∧p)))))))))
def T11 (p:Prop):Prop:=True∧(True∧(True∧(True∧(True∧(True∧(True∧(True∧(True∧(True∧(True∧p))))))))))
def T12 (p:Prop):Prop:=True∧(True∧(True∧(True∧(True∧(True∧(True∧(True∧(True∧(True∧(True∧(True∧p)))))))))))
theorem ZKX {p:Prop}:T2 p=p:=by simp [T2]
theorem ZKY {p:Prop}:T3 p=p:=by simp [T3]
theorem ZKZ {p:Prop}:T4 p=p:=by simp [T4]
theorem ZK0 {p:Prop}:T5 p=p:=by simp [T5]
theorem ZK1 {p:Prop}:T6 p=p:=by simp [T6]
theorem ZK2 {p:Prop}:T7 p=p:=by simp [T7]
theorem ZK3 {p:Prop}:T8 p=p:=by simp [T8]
theorem ZK4 {p:Prop}:T9 p=p:=by simp [T9]
theorem ZE1 {p:Prop}:T10 p=p:=by simp [T10]
theorem ZE2 {p:Prop}:T11 p=p:=by simp [T11]
theorem ZE3 {p:Prop}:T12 p=p:=by simp [T12]
def ix (j:Nat) (x:Int) (n:Nat):Prop:=j=j∧(0:Int)≤x∧x < (n:Int)
theorem ZK5 {j n:Nat} {x:Int}:ix j x n=((0:Int)≤x∧x < (n:Int)):=by simp [ix]
def vI (x y:Int):Prop:=leV (.c (.int .i64 x)) (.c (.int .i64 y))
theorem ZK6 {x y:Int}:vI x y=(x=y):=ZqV
def cI (x y:Int):Prop:=true=true∧leC (.int .i64 x) (.int .i64 y)
theorem ZK7 {x y:Int}:cI x y=(x=y):=by simp [cI,ZnA]
def cB (x y:Bool):Prop:=true=true∧leC (.bool x) (.bool y)
theorem ZK8 {x y:Bool}:cB x y=(x=y):=by simp [cB,Zkz]
def cS (x y:ByteArray):Prop:=true=true∧leC (.str x) (.str y)
theorem ZK9 {x y:ByteArray}:cS x y=(x=y):=by simp [cS,ZnB]
def w64 (x:Int):Int:=IntKind.wrap .i64 x
theorem ZE4 {x:Int}:w64 x=IntKind.wrap .i64 x:=rfl
def tpn (n:Nat) (p:Prop):Prop:=lxs (List.replicate n (.tp [])) p
theorem ZE5 {n:Nat} {p:Prop}:tpn n p=p:=Ztf
def ci (x:Int):AV:=.c (.int .i64 x)
theorem ZLa {x:Int}:ci x=.c (.int .i64 x):=rfl
def hn (t:Ty) (x:List t.den):AV:=.c (.hs .no t x)
theorem ZLb {t:Ty} {x:List t.den}:hn t x=.c (.hs .no t x):=rfl
def pt (p:Prop):Prop:=p∧true=true
theorem ZLc {p:Prop}:pt p=p:=by simp [pt]
theorem SIA:type_of% (And.intro @ZK5 (And.intro @ZK6 (And.intro @ZK7 (And.intro @ZK8 (And.intro @ZK9 (And.intro @ZE4 (And.intro @ZE5 (And.intro @ZLa (And.intro @ZLb (And.intro @ZLc (And.intro @ZKX (And.intro @ZKY (And.intro @ZKZ (And.intro @ZK0 (And.intro @ZK1 (And.intro @ZK2 (And.intro @ZK3 (And.intro @ZK4 (And.intro @ZE1 (And.intro @ZE2 (And.intro @ZE3 (And.intro @ZI8 (And.intro @Ztf (And.intro @ZvH (And.intro @ZKS (And.intro @ZKT (And.intro @ZKU (And.intro @ZEX (And.intro @true_and (And.intro @and_true (And.intro @ZoQ (And.intro @ZaJ (And.intro @ZaS (And.intro @ZbW (And.intro @Zby (And.intro @ZhB (And.intro @Zg7 (And.intro @Zcn (And.intro @ZcT (And.intro @gtI_true (And.intro @ZfI (And.intro @ZdZ (And.intro @Zif (And.intro @Zbp (And.intro @Zbo (And.intro @ZkB (And.intro @Zig (And.intro @not_true (And.intro @not_false (And.intro @Bool.not_eq_true' (And.intro @Bool.not_eq_false' (And.intro @ZqU (And.intro @ZqV (And.intro @ZoS (And.intro @ZvF (And.intro @Zmy (And.intro @Zmz (And.intro @ZnA (And.intro @Zkz (And.intro @ZnB (And.intro @ZEW (And.intro @Za6 (@Int.toNat_natCast))))))))))))))))))))))))))))))))))))))))))))))))))))))))))))))):=And.intro @ZK5 (And.intro @ZK6 (And.intro @ZK7 (And.intro @ZK8 (And.intro @ZK9 (And.intro @ZE4 (And.intro @ZE5 (And.intro @ZLa (And.intro @ZLb (And.intro @ZLc (And.intro @ZKX (And.intro @ZKY (And.intro @ZKZ (And.intro @ZK0 (And.intro @ZK1 (And.intro @ZK2 (And.intro @ZK3 (And.intro @ZK4 (And.intro @ZE1 (And.intro @ZE2 (And.intro @ZE3 (And.intro @ZI8 (And.intro @Ztf (And.intro @ZvH (And.intro @ZKS (And.intro @ZKT (And.intro @ZKU (And.intro @ZEX (And.intro @true_and (And.intro @and_true (And.intro @ZoQ (And.intro @ZaJ (And.intro @ZaS (And.intro @ZbW (And.intro @Zby (And.intro @ZhB (And.intro @Zg7 (And.intro @Zcn (And.intro @ZcT (And.intro @gtI_true (And.intro @ZfI (And.intro @ZdZ (And.intro @Zif (And.intro @Zbp (And.intro @Zbo (And.intro @ZkB (And.intro @Zig (And.intro @not_true (And.intro @not_false (And.intro @Bool.not_eq_true' (And.intro @Bool.not_eq_false' (And.intro @ZqU (And.intro @ZqV (And.intro @ZoS (And.intro @ZvF (And.intro @Zmy (And.intro @Zmz (And.intro @ZnA (And.intro @Zkz (And.intro @ZnB (And.intro @ZEW (And.intro @Za6 (@Int.toNat_natCast))))))))))))))))))))))))))))))))))))))))))))))))))))))))))))))
theorem Zeg:type_of% (And.intro @ZK5 (And.intro @ZK6 (And.intro @ZK7 (And.intro @ZK8 (And.intro @ZK9 (And.intro @ZE4 (And.intro @ZE5 (And.intro @ZLa (And.intro @ZLb (And.intro @ZLc (And.intro @ZKX (And.intro @ZKY (And.intro @ZKZ (And.intro @ZK0 (And.intro @ZK1 (And.intro @ZK2 (And.intro @ZK3 (And.intro @ZK4 (And.intro @ZE1 (And.intro @ZE2 (And.intro @ZE3 (And.intro @ZI8 (And.intro @Ztf (And.intro @ZvH (And.intro @ZKS (And.intro @ZKT (And.intro @ZKU (And.intro @ZEX (And.intro @true_and (And.intro @and_true (And.intro @ZoQ (And.intro @ZaJ (And.intro @ZaS (And.intro @ZbW (And.intro @Zby (And.intro @ZhB (And.intro @Zg7 (And.intro @Zcn (And.intro @ZcT (And.intro @gtI_true (And.intro @ZfI (And.intro @ZdZ (And.intro @Zif (And.intro @Zbp (And.intro @Zbo (And.intro @ZkB (And.intro @Zig (And.intro @not_true (And.intro @not_false (And.intro @Bool.not_eq_true' (And.intro @Bool.not_eq_false' (And.intro @ZqU (And.intro @ZqV (And.intro @ZoS (And.intro @ZvF (And.intro @Zmy (And.intro @Zmz (And.intro @ZnA (And.intro @Zkz (And.intro @ZnB (And.intro @ZEW (And.intro @Za6 (And.intro @Ztk (And.intro @Ztl (And.intro @Zq5 (And.intro @Zn6 (And.intro @Zq6 (And.intro @Zn7 (And.intro @ZmF (And.intro @Zla (And.intro @Ztm (And.intro @Ztn (And.intro @ZmG (And.intro @Zn8 (And.intro @ZmH (And.intro @Zq7 (And.intro @Zn9 (And.intro @Zto (And.intro @Zym (And.intro @Zlb (And.intro @ZmI (And.intro @Zlc (@Int.toNat_natCast))))))))))))))))))))))))))))))))))))))))))))))))))))))))))))))))))))))))))))))))))):=And.intro @ZK5 (And.intro @ZK6 (And.intro @ZK7 (And.intro @ZK8 (And.intro @ZK9 (And.intro @ZE4 (And.intro @ZE5 (And.intro @ZLa (And.intro @ZLb (And.intro @ZLc (And.intro @ZKX (And.intro @ZKY (And.intro @ZKZ (And.intro @ZK0 (And.intro @ZK1 (And.intro @ZK2 (And.intro @ZK3 (And.intro @ZK4 (And.intro @ZE1 (And.intro @ZE2 (And.intro @ZE3 (And.intro @ZI8 (And.intro @Ztf (And.intro @ZvH (And.intro @ZKS (And.intro @ZKT (And.intro @ZKU (And.intro @ZEX (And.intro @true_and (And.intro @and_true (And.intro @ZoQ (And.intro @ZaJ (And.intro @ZaS (And.intro @ZbW (And.intro @Zby (And.intro @ZhB (And.intro @Zg7 (And.intro @Zcn (And.intro @ZcT (And.intro @gtI_true (And.intro @ZfI (And.intro @ZdZ (And.intro @Zif (And.intro @Zbp (And.intro @Zbo (And.intro @ZkB (And.intro @Zig (And.intro @not_true (And.intro @not_false (And.intro @Bool.not_eq_true' (And.intro @Bool.not_eq_false' (And.intro @ZqU (And.intro @ZqV (And.intro @ZoS (And.intro @ZvF (And.intro @Zmy (And.intro @Zmz (And.intro @ZnA (And.intro @Zkz (And.intro @ZnB (And.intro @ZEW (And.intro @Za6 (And.intro @Ztk (And.intro @Ztl (And.intro @Zq5 (And.intro @Zn6 (And.intro @Zq6 (And.intro @Zn7 (And.intro @ZmF (And.intro @Zla (And.intro @Ztm (And.intro @Ztn (And.intro @ZmG (And.intro @Zn8 (And.intro @ZmH (And.intro @Zq7 (And.intro @Zn9 (And.intro @Zto (And.intro @Zym (And.intro @Zlb (And.intro @ZmI (And.intro @Zlc (@Int.toNat_natCast))))))))))))))))))))))))))))))))))))))))))))))))))))))))))))))))))))))))))))))))))
theorem EQA:type_of% (And.intro @Zk6 (And.intro @ZjX (And.intro @ZjY (And.intro @Zi8 (And.intro @Zk7 (And.intro @ZjZ (And.intro @ZmA (And.intro @ZhX (And.intro @Zer (And.intro @ZcA (And.intro @ZiV (And.intro @Zfv (And.intro @ZhY (And.intro @Zg8 (And.intro @Zg9 (And.intro @ZfW (And.intro @ZeQ (And.intro @Zey (And.intro @Zi9 (And.intro @Zih (And.intro @Zja (And.intro @Zii (And.intro @Zij (And.intro @ZhD (And.intro @ZnZ (And.intro @ZiX (And.intro @Zgo (And.intro @Zes (And.intro @Zj0 (And.intro @Zgp (And.intro @ZfJ (And.intro @ZcL (And.intro @Zdg (And.intro @eqT_LBox_false (And.intro @Zj1 (And.intro @ZfX (And.intro @ZfY (And.intro @Zfm (And.intro @Zha (And.intro @Zjb (And.intro @Zk8 (And.intro @Zhb (And.intro @Zj2 (And.intro @Zjc (And.intro @Zj3 (And.intro @Zjd (And.intro @Zje (And.intro @Zik (And.intro @ZmB (And.intro @ZhZ (And.intro @Zfx (And.intro @Zeb (And.intro @Zdi (And.intro @Zfy (And.intro @Zfz (And.intro @ZcU (And.intro @Zj4 (And.intro @Zjf (And.intro @Zn0 (And.intro @ZiY (And.intro @ZmC (And.intro @Zk9 (And.intro @Zn1 (And.intro @ZmD (And.intro @Zq0 (And.intro @Zj6 (And.intro @Zn3 (And.intro @ZmE (And.intro @Zq1 (And.intro @Zn4 (And.intro @ZdL (And.intro @Zfn (And.intro @Zfo (And.intro @ZeS (And.intro @Zhc (And.intro @ZfZ (And.intro @Zjg (And.intro @Zil (And.intro @Zjh (And.intro @Zim (And.intro @Zin (And.intro @ZhE (And.intro @Zji (And.intro @Zio (And.intro @ZdM (And.intro @Zcr (And.intro @Zgq (And.intro @Zh0 (And.intro @ZaJ (And.intro @ZaS (And.intro @ZbW (And.intro @Zby (And.intro @ZhB (And.intro @Zg7 (And.intro @Zcn (And.intro @ZcT (And.intro @gtI_true (And.intro @ZfI (And.intro @ZdZ (And.intro @Zif (And.intro @Zbp (And.intro @Zbo (And.intro @ZkB (@Zig)))))))))))))))))))))))))))))))))))))))))))))))))))))))))))))))))))))))))))))))))))))))))))))))))))))))):=And.intro @Zk6 (And.intro @ZjX (And.intro @ZjY (And.intro @Zi8 (And.intro @Zk7 (And.intro @ZjZ (And.intro @ZmA (And.intro @ZhX (And.intro @Zer (And.intro @ZcA (And.intro @ZiV (And.intro @Zfv (And.intro @ZhY (And.intro @Zg8 (And.intro @Zg9 (And.intro @ZfW (And.intro @ZeQ (And.intro @Zey (And.intro @Zi9 (And.intro @Zih (And.intro @Zja (And.intro @Zii (And.intro @Zij (And.intro @ZhD (And.intro @ZnZ (And.intro @ZiX (And.intro @Zgo (And.intro @Zes (And.intro @Zj0 (And.intro @Zgp (And.intro @ZfJ (And.intro @ZcL (And.intro @Zdg (And.intro @eqT_LBox_false (And.intro @Zj1 (And.intro @ZfX (And.intro @ZfY (And.intro @Zfm (And.intro @Zha (And.intro @Zjb (And.intro @Zk8 (And.intro @Zhb (And.intro @Zj2 (And.intro @Zjc (And.intro @Zj3 (And.intro @Zjd (And.intro @Zje (And.intro @Zik (And.intro @ZmB (And.intro @ZhZ (And.intro @Zfx (And.intro @Zeb (And.intro @Zdi (And.intro @Zfy (And.intro @Zfz (And.intro @ZcU (And.intro @Zj4 (And.intro @Zjf (And.intro @Zn0 (And.intro @ZiY (And.intro @ZmC (And.intro @Zk9 (And.intro @Zn1 (And.intro @ZmD (And.intro @Zq0 (And.intro @Zj6 (And.intro @Zn3 (And.intro @ZmE (And.intro @Zq1 (And.intro @Zn4 (And.intro @ZdL (And.intro @Zfn (And.intro @Zfo (And.intro @ZeS (And.intro @Zhc (And.intro @ZfZ (And.intro @Zjg (And.intro @Zil (And.intro @Zjh (And.intro @Zim (And.intro @Zin (And.intro @ZhE (And.intro @Zji (And.intro @Zio (And.intro @ZdM (And.intro @Zcr (And.intro @Zgq (And.intro @Zh0 (And.intro @ZaJ (And.intro @ZaS (And.intro @ZbW (And.intro @Zby (And.intro @ZhB (And.intro @Zg7 (And.intro @Zcn (And.intro @ZcT (And.intro @gtI_true (And.intro @ZfI (And.intro @ZdZ (And.intro @Zif (And.intro @Zbp (And.intro @Zbo (And.intro @ZkB (@Zig)))))))))))))))))))))))))))))))))))))))))))))))))))))))))))))))))))))))))))))))))))))))))))))))))))))))
end Go.Proofs.YtafhbjjcpncfnaaGreat
