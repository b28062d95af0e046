import Derived.Test.YtkompmgleojmlaaGreatHBmQ
import Derived.Test.YtkompmgleojmlaaGreatHLists
import Derived.IntWalk
namespace Go.Proofs.YtkompmgleojmlaaGreat
open Go.ChangeShapes Go.WideShapes Go.ChangeAt Go.RowKit Go.Joins Go.Deep
def Zaz:Ty:=.int .i64
def Zi5:Ty:=.bool
def ZaW:Ty:=.str
def ZlP:Ty:=(.prod Zaz ZaW)
def Zay:Ty:=(.prod Zaz Zaz)
def Zak:Ty:=(.prod Zaz (.prod (.list ZaW) Zaz))
def Zdd:Ty:=(.prod Zi5 (.list Zak))
def ZqE:Ty:=(.prod ZaW (.prod Zaz (.prod ZaW (.prod ZaW (.prod Zi5 (.prod (.list Zay) (.prod Zaz (.prod Zaz (.prod ZaW Zdd)))))))))
def ZaU:Ty:=(.prod Zaz (.prod Zaz ZaW))
def Zaj:Ty:=(.prod ZaW (.prod Zaz (.prod Zaz (.list ZaU))))
def Zag:Ty:=(.prod Zaz (.prod Zaz (.prod Zaz (.prod Zaz (.prod ZaW ZaW)))))
def ZbJ:Ty:=(.prod (.list Zaj) (.prod (.list Zag) Zaz))
def Zvy:Ty:=(.prod Zi5 (.prod ZaW (.prod Zaz (.prod Zaz (.prod (.list Zay) Zi5)))))
def Zal:Ty:=(.prod Zaz (.prod Zaz (.prod Zaz ZaW)))
def Zdz:Ty:=(.prod (.list Zal) (.prod Zi5 Zi5))
def ZkP:Ty:=(.prod ZaW ZaW)
def ZAY:Ty:=(.prod ZaW Zi5)
def Zae:Ty:=(.prod Zi5 (.prod Zaz (.prod Zaz (.prod Zaz (.prod (.list Zay) (.prod Zdd (.prod ZaW (.prod ZaW (.prod Zdz (.prod ZAY (.prod ZkP Zaz)))))))))))
def ZaV:Ty:=(.prod ZbJ (.list Zae))
def ZgW:Ty:=(.prod Zaz (.prod ZaW Zaz))
def L0:Nat→List AV→Mem→Zbj:=fun _ _ _=>⟨Unit,fun _=>([],[]),fun _=>False,fun _=>0⟩
def tmI (tm:List AV) (i:Nat):Int:=match tm.getD i .any with | .w (.c (.int _ x))=>x | _=>0
def tmB (tm:List AV) (i:Nat):Bool:=match tm.getD i .any with | .w (.c (.bool x))=>x | _=>false
def ZlQ (M:Mem):List (Nat × Blk)→Mem
 | []=>M
 | p :: l=>ZlQ (M.set p.1 p.2) l
theorem ZqF {x:AV}:leV x .any=True:=by unfold leV; split <;> simp_all
theorem ZqG {k:IntKind} {x y:Int}:leV (.w (.c (.int k x))) (.w (.c (.int k y)))=(x=y):=by simp [leV,leC]
theorem ZoT {x y:Bool}:leV (.w (.c (.bool x))) (.w (.c (.bool y)))=(x=y):=by simp [leV,leC]
theorem Zvz {x y:ByteArray}:leV (.w (.c (.str x))) (.w (.c (.str y)))=(x=y):=by simp [leV,leC]
theorem ZE7:∀ {x:AC},leC x x
 | .int _ _=>⟨rfl,rfl⟩
 | .bool _=>rfl
 | .str _=>rfl
 | .opq _=>rfl
 | .hs _ _ _=>⟨rfl,rfl,rfl⟩
 | .bp _ _=>rfl
 | .ep _ _ _ _ _=>rfl
 | .row _ _=>rfl
 | .rp _ _ _ _ _=>rfl
 | .sl _ _ _ _ _ _=>rfl
 | .sp _ _ _ _ _ _ _ _ _=>rfl
 | .tl _ _ _ _=>rfl
 | .mp _=>rfl
 | .fn _ _=>rfl
 | .raw _=>rfl
 | .junk=>rfl
theorem ZvA:∀ {x:List AC},leL x x
 | []=>trivial
 | _ :: _=>⟨ZE7,ZvA⟩
theorem Zmu {x:AV}:leV x x=True:=by
 cases x with
 | any=>simp [ZqF]
 | tp l=>simp [leV]
 | w x =>
  cases x with
  | c a=>exact eq_true (ZE7 (x:=a))
  | ag l=>exact eq_true (ZvA (x:=l))
theorem Zmv {x:Blk}:leB x x=True:=by
 cases x with
 | box l=>exact eq_true (ZvA (x:=l))
 | row t xs v c h=>cases h with
  | none=>exact eq_true ⟨⟨rfl,rfl⟩,rfl,rfl⟩
  | some _=>simp [leB]
 | _=>simp [leB]
def TN:Nat→Prop→Prop
 | 0,p=>p
 | n + 1,p=>True∧TN n p
theorem ZJj {p:Prop}:∀ {n:Nat},TN n p=p
 | 0=>rfl
 | n + 1=>by
  show (True∧TN n p)=p
  rw [ZJj (n:=n),true_and]
def lxs:List AV→Prop→Prop
 | [],p=>p
 | x :: l,p=>leV x x∧lxs l p
theorem Ztf {p:Prop}:∀ {l:List AV},lxs l p=p
 | []=>rfl
 | x :: l=>by
  show (leV x x∧lxs l p)=p
  rw [Ztf (l:=l),Zmu,true_and]
def lb (x:Blk):Prop:=leB x x
theorem ZvB {x:Blk}:lb x=True:=Zmv
def Zcn:List AV→Nat→Nat→List AV
 | tm,_,0=>tm
 | tm,i,n + 1=>Zcn (tm.set i .any) (i + 1) n
theorem Znv {k:IntKind} {x y:Int}:leC (.int k x) (.int k y)=(x=y):=by simp [leC]
theorem Zkv {x y:Bool}:leC (.bool x) (.bool y)=(x=y):=by simp [leC]
theorem Znw {x y:ByteArray}:leC (.str x) (.str y)=(x=y):=by simp [leC]
theorem ZE8 {L:Lnd} {t:Ty} {x y:List t.den}:leC (.hs L t x) (.hs L t y)=(x=y):=by simp [leC]
theorem Za9 {t:Ty} {x y:List t.den} {v c:Nat}:leB (.row t x v c none) (.row t y v c none)=(x=y):=by simp [leB]
theorem ZE9 {x y:List Int}:leB (.mp x) (.mp y)=(x=y):=by simp [leB]
def rB (x y:Bool):Prop:=(true=true∧leC (.bool x) (.bool y))∧true=true
theorem ZK9 {x y:Bool}:rB x y=(x=y):=by simp [rB,Zkv]
def rI (x y:Int):Prop:=(true=true∧leC (.int .i64 x) (.int .i64 y))∧true=true
theorem ZLa {x y:Int}:rI x y=(x=y):=by simp [rI,Znv]
def rS (x y:ByteArray):Prop:=(true=true∧leC (.str x) (.str y))∧true=true
theorem ZLb {x y:ByteArray}:rS x y=(x=y):=by simp [rS,Znw]
theorem bc0 {P:Program} (Γ:List (ZaC P)) (H:List (Zhy P)) (H2:List (Zj9 P)) (G:List (Zdj P)) (L:Nat→List AV→Mem→Zbj) {f:FuncId} {fn:Func} {args:List AW} {res:AV} {new:Mem} (hf:P.funcs[f]?=some fn) (h:WfA args→ZGY ⟨Γ,H,H2,G,none,fun _=>[],0,[],[]⟩ L fn args [] (ZON res new)):Zam P f args res new:=ZcY hf ⟨⟨rfl,rfl⟩,rfl⟩ h
theorem ZbL {k:Nat} (h:k + 1≤maxLen):IntKind.wrap .i64 (((k:Nat):Int) + 1)=((k + 1:Nat):Int):=by
 have:IntKind.i64.wrap (((k:Nat):Int) + 1)=((k:Nat):Int) + 1:=IntWalk.i64_in _ (by unfold maxLen at h; omega)
 rw [this]
 rfl
theorem Zau {t:Ty} {xs:List t.den} {k:Nat} (h:k < xs.length):xs[k]?=some (nth t xs k):=by
 unfold nth
 rw [List.getD_eq_getElem?_getD,List.getElem?_eq_getElem h]
 rfl
theorem ZaY {P:Nat→Prop} {k:Nat} (h:∀ j,j < k→P j) (hk:P k):∀ j,j < k + 1→P j:=fun j hj=>by
 rcases Nat.lt_or_ge j k with h1 | h1
 ·exact h j h1
 ·obtain rfl:j=k:=by omega
  exact hk
theorem Za7 {P:Nat→Prop}:∀ j,j < 0→P j:=fun j hj=>absurd hj (Nat.not_lt_zero j)
theorem Zib {t:Ty} {xs:List t.den} {p:t.den→Bool} (h:∀ j,j < xs.length→p (nth t xs j)=false):xs.any p=false:=by
 rw [List.any_eq_false]
 intro x hx
 obtain ⟨j,hj,rfl⟩:=List.mem_iff_getElem.1 hx
 have h1:=h j hj
 have h2:=Zau hj
 rw [List.getElem?_eq_getElem hj] at h2
 rw [← Option.some.inj h2] at h1
 simp [h1]
theorem Zkw {t:Ty} {xs:List t.den} {p:t.den→Bool} {k:Nat} (hk:k < xs.length) (h:p (nth t xs k)=true):xs.any p=true:=ZOi (Zau hk) h
theorem ZLc {t:Ty} {xs:List t.den} {p:t.den→Bool} {k:Nat} (hk:k≤xs.length) (h:∀ j,j < k→p (nth t xs j)=false):(xs.take k).any p=false:=by
 rw [List.any_eq_false]
 intro x hx
 obtain ⟨j,hj,rfl⟩:=List.mem_take_iff_getElem.1 hx
 have h1:=h j (by omega)
 have h2:=Zau (t:=t) (xs:=xs) (k:=j) (by omega)
 rw [List.getElem?_eq_getElem (by omega)] at h2
 rw [← Option.some.inj h2] at h1
 simp [h1]
theorem Zfs {t:Ty} {xs:List t.den} {p:t.den→Bool} {k:Nat} (hk:k < xs.length) (h:∀ j,j < k→p (nth t xs j)=false) (hp:p (nth t xs k)=true):Zf2 p xs=((k:Nat):Int):=ZEp (ZLc (by omega) h) (Zau hk) hp
theorem Zcw {t:Ty} {xs:List t.den} {p:t.den→Bool} (h:∀ j,j < xs.length→p (nth t xs j)=false):Zf2 p xs=-1:=Zru (Zib h)
theorem Zcq {t:Ty} {xs ys:List t.den} (hl:xs.length=ys.length) (h:∀ j,j < xs.length→nth t xs j=nth t ys j):xs=ys:=by
 apply List.ext_getElem?
 intro j
 rcases Nat.lt_or_ge j xs.length with h1 | h1
 ·rw [Zau h1,Zau (by omega),h j h1]
 ·rw [List.getElem?_eq_none h1,List.getElem?_eq_none (by omega)]
theorem ZFa {t:Ty} {xs ys:List t.den} {p:t.den→t.den→Bool} (hl:xs.length=ys.length) (h:∀ j,j < xs.length→p (nth t xs j) (nth t ys j)=true):ZkR p xs ys=true:=by
 have key:∀ k,k≤xs.length→ZkR p (xs.take k) (ys.take k)=true:=by
  intro k
  induction k with
  | zero=>intro _; rfl
  | succ k ih=>intro hk; exact ZyI (ih (by omega)) (Zau (by omega)) (Zau (by omega)) (h k (by omega))
 have:=key xs.length (Nat.le_refl _)
 rwa [List.take_length,hl,List.take_length] at this
theorem ZqH {t:Ty} {xs ys:List t.den} {p:t.den→t.den→Bool} {k:Nat} (hk:k < xs.length) (hk2:k < ys.length) (h:p (nth t xs k) (nth t ys k)=false):ZkR p xs ys=false:=ZJT (Zau hk) (Zau hk2) h
theorem ZM1 (x y:Int) (b:Bool):((x == y) && b)=true↔x=y∧b=true:=by simp
theorem ZLd (x y b:Bool):((x == y) && b)=true↔x=y∧b=true:=by simp
theorem ZM2 (x y:ByteArray) (b:Bool):(decide (x=y) && b)=true↔x=y∧b=true:=by simp
def Ty.plain:Ty→Bool
 | .prod a b=>a.plain && b.plain
 | .list _=>false
 | .opq=>false
 | _=>true
theorem ZlR:∀ (t:Ty),t.plain=true→∀ (x y:t.den) (l k:List AC),ZcQ (cellsOf t x ++ l) (cellsOf t y ++ k)=true↔x=y∧ZcQ l k=true
 | .int _,_,x,y,l,k=>ZM1 x y _
 | .bool,_,x,y,l,k=>ZLd x y _
 | .str,_,x,y,l,k=>ZM2 x y _
 | .prod a b,h,x,y,l,k=>by
  have h' : (a.plain && b.plain)=true:=h
  rw [Bool.and_eq_true] at h'
  show ZcQ ((cellsOf a x.1 ++ cellsOf b x.2) ++ l) ((cellsOf a y.1 ++ cellsOf b y.2) ++ k)=true↔_
  rw [List.append_assoc,List.append_assoc,ZlR a h'.1,ZlR b h'.2]
  constructor
  ·rintro ⟨h1,h2,h3⟩
   exact ⟨Prod.ext h1 h2,h3⟩
  ·rintro ⟨rfl,h3⟩
   exact ⟨rfl,rfl,h3⟩
 | .list _,h,_,_,_,_=>by cases h
 | .opq,h,_,_,_,_=>by cases h
theorem Zde {t:Ty} (h:t.plain=true) {x y:t.den}:ZcQ (cellsOf t x) (cellsOf t y)=true↔x=y:=by
 have:=ZlR t h x y [] []
 rw [List.append_nil,List.append_nil] at this
 rw [this]
 exact ⟨fun h=>h.1,fun h=>⟨h,rfl⟩⟩
theorem Zdf {t:Ty} (h:t.plain=true) {x y:t.den}:ZcQ (cellsOf t x) (cellsOf t y)=false↔¬ x=y:=by
 rw [← Zde h]
 simp
def eqI (a b:Int):Bool:=a == b
def neI (a b:Int):Bool:=a != b
def ltI (a b:Int):Bool:=decide (a < b)
def leI (a b:Int):Bool:=decide (a≤b)
def gtI (a b:Int):Bool:=decide (a > b)
def geI (a b:Int):Bool:=decide (a ≥ b)
def eqS (a b:ByteArray):Bool:=decide (a=b)
def eqO (a b:Bool):Bool:=a == b
section
variable {a b:Int} {x y:ByteArray} {p q:Bool}
theorem ZaJ:eqI a b=true↔a=b:=by simp [eqI]
theorem ZaT:eqI a b=false↔¬ a=b:=by simp [eqI]
theorem ZbT:neI a b=true↔¬ a=b:=by simp [neI]
theorem Zbs:neI a b=false↔a=b:=by simp [neI]
theorem Zgp:ltI a b=true↔a < b:=by simp [ltI]
theorem ZfF:ltI a b=false↔¬ a < b:=by simp [ltI]
theorem Zce:leI a b=true↔a≤b:=by simp [leI]
theorem ZcL:leI a b=false↔¬ a≤b:=by simp [leI]
theorem gtI_true:gtI a b=true↔b < a:=by simp [gtI]
theorem Zeq:gtI a b=false↔¬ b < a:=by simp [gtI]
theorem ZdZ:geI a b=true↔b≤a:=by simp [geI]
theorem Zic:geI a b=false↔¬ b≤a:=by simp [geI]
theorem Zbp:eqS x y=true↔x=y:=by simp [eqS]
theorem Zbv:eqS x y=false↔¬ x=y:=by simp [eqS]
theorem Zkx:eqO p q=true↔p=q:=by simp [eqO]
theorem Zid:eqO p q=false↔¬ p=q:=by simp [eqO]
end
def ZxY (x y:Zkl):Bool:=eqB x y
theorem Zk3 {x y:Zkl}:ZxY x y=true↔x=y:=ZbA
theorem ZjT {x y:Zkl}:ZxY x y=false↔¬ x=y:=Zbh
def Ztg (x y:List Zkl):Bool:=eqB x y
theorem ZjU {x y:List Zkl}:Ztg x y=true↔x=y:=ZbA
theorem Zi6 {x y:List Zkl}:Ztg x y=false↔¬ x=y:=Zbh
def ZxZ (x y:Zkl):Bool:=ZcQ (cellsOf ZlP x) (cellsOf ZlP y)
theorem Zk4 {x y:Zkl}:ZxZ x y=true↔x=y:=Zde (t:=ZlP) rfl
theorem ZjV {x y:Zkl}:ZxZ x y=false↔¬ x=y:=Zdf (t:=ZlP) rfl
def Zhu (x y:ZbX):Bool:=eqB x y
theorem Zmw {x y:ZbX}:Zhu x y=true↔x=y:=ZbA
theorem ZhX {x y:ZbX}:Zhu x y=false↔¬ x=y:=Zbh
def Zbw (x y:List ZbX):Bool:=eqB x y
theorem Zer {x y:List ZbX}:Zbw x y=true↔x=y:=ZbA
theorem ZcB {x y:List ZbX}:Zbw x y=false↔¬ x=y:=Zbh
def ZoU (x y:ZbX):Bool:=ZcQ (cellsOf Zay x) (cellsOf Zay y)
theorem ZiS {x y:ZbX}:ZoU x y=true↔x=y:=Zde (t:=Zay) rfl
theorem Zft {x y:ZbX}:ZoU x y=false↔¬ x=y:=Zdf (t:=Zay) rfl
def ZaX (xs:List ZbX) (k:Nat):ZbX:=nth Zay xs k
def ZcM (x y:ZaZ):Bool:=eqB x y
theorem ZhY {x y:ZaZ}:ZcM x y=true↔x=y:=ZbA
theorem ZgX {x y:ZaZ}:ZcM x y=false↔¬ x=y:=Zbh
def ZeE (x y:List ZaZ):Bool:=eqB x y
theorem ZgY {x y:List ZaZ}:ZeE x y=true↔x=y:=ZbA
theorem ZfY {x y:List ZaZ}:ZeE x y=false↔¬ x=y:=Zbh
def Zaq (xs:List ZaZ) (k:Nat):ZaZ:=nth Zak xs k
def ZbK (x y:Zb3):Bool:=eqB x y
theorem ZeQ {x y:Zb3}:ZbK x y=true↔x=y:=ZbA
theorem Zew {x y:Zb3}:ZbK x y=false↔¬ x=y:=Zbh
def ZqI (x y:List Zb3):Bool:=eqB x y
theorem Zi7 {x y:List Zb3}:ZqI x y=true↔x=y:=ZbA
theorem Zie {x y:List Zb3}:ZqI x y=false↔¬ x=y:=Zbh
def ZqJ (x y:ZhG):Bool:=eqB x y
theorem Zi8 {x y:ZhG}:ZqJ x y=true↔x=y:=ZbA
theorem Zif {x y:ZhG}:ZqJ x y=false↔¬ x=y:=Zbh
def ZnW (x y:List ZhG):Bool:=eqB x y
theorem Zig {x y:List ZhG}:ZnW x y=true↔x=y:=ZbA
theorem Zhv {x y:List ZhG}:ZnW x y=false↔¬ x=y:=Zbh
def ZiT (x y:Zds):Bool:=eqB x y
theorem ZnX {x y:Zds}:ZiT x y=true↔x=y:=ZbA
theorem ZiU {x y:Zds}:ZiT x y=false↔¬ x=y:=Zbh
def Zd0 (x y:List Zds):Bool:=eqB x y
theorem Zgq {x y:List Zds}:Zd0 x y=true↔x=y:=ZbA
theorem Zes {x y:List Zds}:Zd0 x y=false↔¬ x=y:=Zbh
def ZvC (x y:Zds):Bool:=ZcQ (cellsOf ZaU x) (cellsOf ZaU y)
theorem ZjW {x y:Zds}:ZvC x y=true↔x=y:=Zde (t:=ZaU) rfl
theorem Zgr {x y:Zds}:ZvC x y=false↔¬ x=y:=Zdf (t:=ZaU) rfl
def ZaG (xs:List Zds) (k:Nat):Zds:=nth ZaU xs k
def Zcr (x y:ZaM):Bool:=eqB x y
theorem ZfG {x y:ZaM}:Zcr x y=true↔x=y:=ZbA
theorem ZcS {x y:ZaM}:Zcr x y=false↔¬ x=y:=Zbh
def Zcb (x y:List ZaM):Bool:=eqB x y
theorem Zdg {x y:List ZaM}:Zcb x y=true↔x=y:=ZbA
theorem eqT_LBox_false {x y:List ZaM}:Zcb x y=false↔¬ x=y:=Zbh
def Zab (xs:List ZaM) (k:Nat):ZaM:=nth Zaj xs k
def Zc8 (x y:Zax):Bool:=eqB x y
theorem ZjX {x y:Zax}:Zc8 x y=true↔x=y:=ZbA
theorem ZfZ {x y:Zax}:Zc8 x y=false↔¬ x=y:=Zbh
def Zd7 (x y:List Zax):Bool:=eqB x y
theorem Zf0 {x y:List Zax}:Zd7 x y=true↔x=y:=ZbA
theorem Zfj {x y:List Zax}:Zd7 x y=false↔¬ x=y:=Zbh
def ZcI (x y:Zax):Bool:=ZcQ (cellsOf Zag x) (cellsOf Zag y)
theorem ZgZ {x y:Zax}:ZcI x y=true↔x=y:=Zde (t:=Zag) rfl
theorem Zi9 {x y:Zax}:ZcI x y=false↔¬ x=y:=Zdf (t:=Zag) rfl
def Zac (xs:List Zax) (k:Nat):Zax:=nth Zag xs k
def ZeR (x y:ZaI):Bool:=eqB x y
theorem Zk5 {x y:ZaI}:ZeR x y=true↔x=y:=ZbA
theorem Zg0 {x y:ZaI}:ZeR x y=false↔¬ x=y:=Zbh
def Zth (x y:List ZaI):Bool:=eqB x y
theorem ZjY {x y:List ZaI}:Zth x y=true↔x=y:=ZbA
theorem Zja {x y:List ZaI}:Zth x y=false↔¬ x=y:=Zbh
def Zti (x y:Zkm):Bool:=eqB x y
theorem ZjZ {x y:Zkm}:Zti x y=true↔x=y:=ZbA
theorem Zjb {x y:Zkm}:Zti x y=false↔¬ x=y:=Zbh
def ZqK (x y:List Zkm):Bool:=eqB x y
theorem Zjc {x y:List Zkm}:ZqK x y=true↔x=y:=ZbA
theorem Zih {x y:List Zkm}:ZqK x y=false↔¬ x=y:=Zbh
def Zfu (x y:ZaO):Bool:=eqB x y
theorem Zmx {x y:ZaO}:Zfu x y=true↔x=y:=ZbA
theorem ZhZ {x y:ZaO}:Zfu x y=false↔¬ x=y:=Zbh
def Zdh (x y:List ZaO):Bool:=eqB x y
theorem Zfv {x y:List ZaO}:Zdh x y=true↔x=y:=ZbA
theorem Zd8 {x y:List ZaO}:Zdh x y=false↔¬ x=y:=Zbh
def Zcx (x y:ZaO):Bool:=ZcQ (cellsOf Zal x) (cellsOf Zal y)
theorem Zdi {x y:ZaO}:Zcx x y=true↔x=y:=Zde (t:=Zal) rfl
theorem Zfw {x y:ZaO}:Zcx x y=false↔¬ x=y:=Zdf (t:=Zal) rfl
def Zaf (xs:List ZaO) (k:Nat):ZaO:=nth Zal xs k
def ZbY (x y:ZbH):Bool:=eqB x y
theorem Zfx {x y:ZbH}:ZbY x y=true↔x=y:=ZbA
theorem ZcZ {x y:ZbH}:ZbY x y=false↔¬ x=y:=Zbh
def Ztj (x y:List ZbH):Bool:=eqB x y
theorem Zj0 {x y:List ZbH}:Ztj x y=true↔x=y:=ZbA
theorem Zjd {x y:List ZbH}:Ztj x y=false↔¬ x=y:=Zbh
def Zj1 (x y:Zl0):Bool:=eqB x y
theorem ZnY {x y:Zl0}:Zj1 x y=true↔x=y:=ZbA
theorem ZiV {x y:Zl0}:Zj1 x y=false↔¬ x=y:=Zbh
def ZFb (x y:List Zl0):Bool:=eqB x y
theorem Zmy {x y:List Zl0}:ZFb x y=true↔x=y:=ZbA
theorem Zk6 {x y:List Zl0}:ZFb x y=false↔¬ x=y:=Zbh
def ZvD (x y:Zl0):Bool:=ZcQ (cellsOf ZkP x) (cellsOf ZkP y)
theorem ZnZ {x y:Zl0}:ZvD x y=true↔x=y:=Zde (t:=ZkP) rfl
theorem Zmz {x y:Zl0}:ZvD x y=false↔¬ x=y:=Zdf (t:=ZkP) rfl
def Zn0 (x y:GIn):Bool:=eqB x y
theorem ZqL {x y:GIn}:Zn0 x y=true↔x=y:=ZbA
theorem Zj2 {x y:GIn}:Zn0 x y=false↔¬ x=y:=Zbh
def ZJk (x y:List GIn):Bool:=eqB x y
theorem Zn1 {x y:List GIn}:ZJk x y=true↔x=y:=ZbA
theorem ZmA {x y:List GIn}:ZJk x y=false↔¬ x=y:=Zbh
def ZFc (x y:GIn):Bool:=ZcQ (cellsOf ZAY x) (cellsOf ZAY y)
theorem ZqM {x y:GIn}:ZFc x y=true↔x=y:=Zde (t:=ZAY) rfl
theorem Zn2 {x y:GIn}:ZFc x y=false↔¬ x=y:=Zdf (t:=ZAY) rfl
def Zbk (x y:Zad):Bool:=eqB x y
theorem ZdO {x y:Zad}:Zbk x y=true↔x=y:=ZbA
theorem Zfk {x y:Zad}:Zbk x y=false↔¬ x=y:=Zbh
def ZdE (x y:List Zad):Bool:=eqB x y
theorem Zfl {x y:List Zad}:ZdE x y=true↔x=y:=ZbA
theorem ZeS {x y:List Zad}:ZdE x y=false↔¬ x=y:=Zbh
def Zaa (xs:List Zad) (k:Nat):Zad:=nth Zae xs k
def ZbV (x y:ZaE):Bool:=eqB x y
theorem Zd9 {x y:ZaE}:ZbV x y=true↔x=y:=ZbA
theorem Zf1 {x y:ZaE}:ZbV x y=false↔¬ x=y:=Zbh
def ZqN (x y:List ZaE):Bool:=eqB x y
theorem Zje {x y:List ZaE}:ZqN x y=true↔x=y:=ZbA
theorem Zii {x y:List ZaE}:ZqN x y=false↔¬ x=y:=Zbh
def ZqO (x y:ZeX):Bool:=eqB x y
theorem Zjf {x y:ZeX}:ZqO x y=true↔x=y:=ZbA
theorem Zij {x y:ZeX}:ZqO x y=false↔¬ x=y:=Zbh
def Zn3 (x y:List ZeX):Bool:=eqB x y
theorem Zik {x y:List ZeX}:Zn3 x y=true↔x=y:=ZbA
theorem Zhw {x y:List ZeX}:Zn3 x y=false↔¬ x=y:=Zbh
def ZqP (x y:ZeX):Bool:=ZcQ (cellsOf ZgW x) (cellsOf ZgW y)
theorem Zjg {x y:ZeX}:ZqP x y=true↔x=y:=Zde (t:=ZgW) rfl
theorem Zil {x y:ZeX}:ZqP x y=false↔¬ x=y:=Zdf (t:=ZgW) rfl
theorem Ztk {x y:List Int} {v c:Nat}:leB (.row Zaz x v c none) (.row Zaz y v c none)=(x=y):=Za9 (t:=Zaz)
theorem Ztl {x y:List ByteArray} {v c:Nat}:leB (.row ZaW x v c none) (.row ZaW y v c none)=(x=y):=Za9 (t:=ZaW)
theorem ZqQ {x y:List Bool} {v c:Nat}:leB (.row Zi5 x v c none) (.row Zi5 y v c none)=(x=y):=Za9 (t:=Zi5)
theorem Zn4 {x y:List Zkl} {v c:Nat}:leB (.row ZlP x v c none) (.row ZlP y v c none)=(x=y):=Za9 (t:=ZlP)
theorem ZqR {x y:List ZbX} {v c:Nat}:leB (.row Zay x v c none) (.row Zay y v c none)=(x=y):=Za9 (t:=Zay)
theorem Zn5 {x y:List ZaZ} {v c:Nat}:leB (.row Zak x v c none) (.row Zak y v c none)=(x=y):=Za9 (t:=Zak)
theorem ZmB {x y:List Zb3} {v c:Nat}:leB (.row Zdd x v c none) (.row Zdd y v c none)=(x=y):=Za9 (t:=Zdd)
theorem Zk7 {x y:List ZhG} {v c:Nat}:leB (.row ZqE x v c none) (.row ZqE y v c none)=(x=y):=Za9 (t:=ZqE)
theorem Ztm {x y:List Zds} {v c:Nat}:leB (.row ZaU x v c none) (.row ZaU y v c none)=(x=y):=Za9 (t:=ZaU)
theorem Ztn {x y:List ZaM} {v c:Nat}:leB (.row Zaj x v c none) (.row Zaj y v c none)=(x=y):=Za9 (t:=Zaj)
theorem ZmC {x y:List Zax} {v c:Nat}:leB (.row Zag x v c none) (.row Zag y v c none)=(x=y):=Za9 (t:=Zag)
theorem Zn6 {x y:List ZaI} {v c:Nat}:leB (.row ZbJ x v c none) (.row ZbJ y v c none)=(x=y):=Za9 (t:=ZbJ)
theorem ZmD {x y:List Zkm} {v c:Nat}:leB (.row Zvy x v c none) (.row Zvy y v c none)=(x=y):=Za9 (t:=Zvy)
theorem ZqS {x y:List ZaO} {v c:Nat}:leB (.row Zal x v c none) (.row Zal y v c none)=(x=y):=Za9 (t:=Zal)
theorem Zn7 {x y:List ZbH} {v c:Nat}:leB (.row Zdz x v c none) (.row Zdz y v c none)=(x=y):=Za9 (t:=Zdz)
theorem Zto {x y:List Zl0} {v c:Nat}:leB (.row ZkP x v c none) (.row ZkP y v c none)=(x=y):=Za9 (t:=ZkP)
theorem Zx0 {x y:List GIn} {v c:Nat}:leB (.row ZAY x v c none) (.row ZAY y v c none)=(x=y):=Za9 (t:=ZAY)
theorem Zk8 {x y:List Zad} {v c:Nat}:leB (.row Zae x v c none) (.row Zae y v c none)=(x=y):=Za9 (t:=Zae)
theorem ZmE {x y:List ZaE} {v c:Nat}:leB (.row ZaV x v c none) (.row ZaV y v c none)=(x=y):=Za9 (t:=ZaV)
theorem Zk9 {x y:List ZeX} {v c:Nat}:leB (.row ZgW x v c none) (.row ZgW y v c none)=(x=y):=Za9 (t:=ZgW)
def Zn8:ZbX:=Ty.dflt Zay
def Zj3:ZaZ:=Ty.dflt Zak
def Zx1:Zds:=Ty.dflt ZaU
def ZqT:ZaM:=Ty.dflt Zaj
def Zhx:Zax:=Ty.dflt Zag
def Zn9:ZaO:=Ty.dflt Zal
def ZfH:Zad:=Ty.dflt Zae
abbrev Zcg:=ByteArray × Int × Int × Value
def Zdu:Ty:=.prod ZaW (.prod Zaz (.prod Zaz .opq))
def Zd1 (xs:List Zcg) (k:Nat):Zcg:=nth Zdu xs k
def Zaw (xs:List Int) (k:Nat):Int:=nth Zaz xs k
def ZaF (xs:List ByteArray) (k:Nat):ByteArray:=nth ZaW xs k
def ZbP (x y:List ByteArray):Bool:=eqB x y
theorem ZdP {x y:List ByteArray}:ZbP x y=true↔x=y:=ZbA
theorem Zcs {x y:List ByteArray}:ZbP x y=false↔¬ x=y:=Zbh
def ZFd (x y:List Int):Bool:=eqB x y
theorem ZmF {x y:List Int}:ZFd x y=true↔x=y:=ZbA
theorem Zla {x y:List Int}:ZFd x y=false↔¬ x=y:=Zbh
def T2 (p:Prop):Prop:=True∧(True∧p)
def T3 (p:Prop):Prop:=True∧(True∧(True∧p))
def T4 (p:Prop):Prop:=True∧(True∧(True∧(True∧p)))
def T5 (p:Prop):Prop:=True∧(True∧(True∧(True∧(True∧p))))
def T6 (p:Prop):Prop:=True∧(True∧(True∧(True∧(True∧(True∧p)))))
def T7 (p:Prop):Prop:=True∧(True∧(True∧(True∧(True∧(True∧(True∧p))))))
def T8 (p:Prop):Prop:=True∧(True∧(True∧(True∧(True∧(True∧(True∧(True∧p)))))))
def T9 (p:Prop):Prop:=True∧(True∧(True∧(True∧(True∧(True∧(True∧(True∧(True∧p))))))))
def T10 (p:Prop):Prop:=True∧(True∧(True∧(True∧(True∧(True∧(True∧(True∧(True∧(True∧p)))))))))
def T11 (p:Prop):Prop:=True∧(True∧(True∧(True∧(True∧(True∧(True∧(True∧(True∧(True∧(True∧p))))))))))
def T12 (p:Prop):Prop:=True∧(True∧(True∧(True∧(True∧(True∧(True∧(True∧(True∧(True∧(True∧(True∧p)))))))))))
theorem ZLe {p:Prop}:T2 p=p:=by simp [T2]
theorem ZLf {p:Prop}:T3 p=p:=by simp [T3]
theorem ZLg {p:Prop}:T4 p=p:=by simp [T4]
theorem ZLh {p:Prop}:T5 p=p:=by simp [T5]
theorem ZLi {p:Prop}:T6 p=p:=by simp [T6]
theorem ZLj {p:Prop}:T7 p=p:=by simp [T7]
theorem ZLk {p:Prop}:T8 p=p:=by simp [T8]
theorem ZLl {p:Prop}:T9 p=p:=by simp [T9]
theorem ZFe {p:Prop}:T10 p=p:=by simp [T10]
theorem ZFf {p:Prop}:T11 p=p:=by simp [T11]
theorem ZFg {p:Prop}:T12 p=p:=by simp [T12]
def ix (j:Nat) (x:Int) (n:Nat):Prop:=j=j∧(0:Int)≤x∧x < (n:Int)
theorem ZLm {j n:Nat} {x:Int}:ix j x n=((0:Int)≤x∧x < (n:Int)):=by simp [ix]
def vI (x y:Int):Prop:=leV (.c (.int .i64 x)) (.c (.int .i64 y))
theorem ZLn {x y:Int}:vI x y=(x=y):=ZqG
def cI (x y:Int):Prop:=true=true∧leC (.int .i64 x) (.int .i64 y)
theorem ZLo {x y:Int}:cI x y=(x=y):=by simp [cI,Znv]
def cB (x y:Bool):Prop:=true=true∧leC (.bool x) (.bool y)
theorem ZLp {x y:Bool}:cB x y=(x=y):=by simp [cB,Zkv]
def cS (x y:ByteArray):Prop:=true=true∧leC (.str x) (.str y)
theorem ZLq {x y:ByteArray}:cS x y=(x=y):=by simp [cS,Znw]
def w64 (x:Int):Int:=IntKind.wrap .i64 x
theorem ZFh {x:Int}:w64 x=IntKind.wrap .i64 x:=rfl
def tpn (n:Nat) (p:Prop):Prop:=lxs (List.replicate n (.tp [])) p
theorem ZFi {n:Nat} {p:Prop}:tpn n p=p:=Ztf
def ci (x:Int):AV:=.c (.int .i64 x)
theorem ZLr {x:Int}:ci x=.c (.int .i64 x):=rfl
def hn (t:Ty) (x:List t.den):AV:=.c (.hs .no t x)
theorem ZLs {t:Ty} {x:List t.den}:hn t x=.c (.hs .no t x):=rfl
def pt (p:Prop):Prop:=p∧true=true
theorem ZLt {p:Prop}:pt p=p:=by simp [pt]
theorem SIA:type_of% (And.intro @ZLm (And.intro @ZLn (And.intro @ZLo (And.intro @ZLp (And.intro @ZLq (And.intro @ZFh (And.intro @ZFi (And.intro @ZLr (And.intro @ZLs (And.intro @ZLt (And.intro @ZLe (And.intro @ZLf (And.intro @ZLg (And.intro @ZLh (And.intro @ZLi (And.intro @ZLj (And.intro @ZLk (And.intro @ZLl (And.intro @ZFe (And.intro @ZFf (And.intro @ZFg (And.intro @ZJj (And.intro @Ztf (And.intro @ZvB (And.intro @ZK9 (And.intro @ZLa (And.intro @ZLb (And.intro @ZE9 (And.intro @true_and (And.intro @and_true (And.intro @ZoR (And.intro @ZaJ (And.intro @ZaT (And.intro @ZbT (And.intro @Zbs (And.intro @Zgp (And.intro @ZfF (And.intro @Zce (And.intro @ZcL (And.intro @gtI_true (And.intro @Zeq (And.intro @ZdZ (And.intro @Zic (And.intro @Zbp (And.intro @Zbv (And.intro @Zkx (And.intro @Zid (And.intro @not_true (And.intro @not_false (And.intro @Bool.not_eq_true' (And.intro @Bool.not_eq_false' (And.intro @ZqF (And.intro @ZqG (And.intro @ZoT (And.intro @Zvz (And.intro @Zmu (And.intro @Zmv (And.intro @Znv (And.intro @Zkv (And.intro @Znw (And.intro @ZE8 (And.intro @Za9 (@Int.toNat_natCast))))))))))))))))))))))))))))))))))))))))))))))))))))))))))))))):=And.intro @ZLm (And.intro @ZLn (And.intro @ZLo (And.intro @ZLp (And.intro @ZLq (And.intro @ZFh (And.intro @ZFi (And.intro @ZLr (And.intro @ZLs (And.intro @ZLt (And.intro @ZLe (And.intro @ZLf (And.intro @ZLg (And.intro @ZLh (And.intro @ZLi (And.intro @ZLj (And.intro @ZLk (And.intro @ZLl (And.intro @ZFe (And.intro @ZFf (And.intro @ZFg (And.intro @ZJj (And.intro @Ztf (And.intro @ZvB (And.intro @ZK9 (And.intro @ZLa (And.intro @ZLb (And.intro @ZE9 (And.intro @true_and (And.intro @and_true (And.intro @ZoR (And.intro @ZaJ (And.intro @ZaT (And.intro @ZbT (And.intro @Zbs (And.intro @Zgp (And.intro @ZfF (And.intro @Zce (And.intro @ZcL (And.intro @gtI_true (And.intro @Zeq (And.intro @ZdZ (And.intro @Zic (And.intro @Zbp (And.intro @Zbv (And.intro @Zkx (And.intro @Zid (And.intro @not_true (And.intro @not_false (And.intro @Bool.not_eq_true' (And.intro @Bool.not_eq_false' (And.intro @ZqF (And.intro @ZqG (And.intro @ZoT (And.intro @Zvz (And.intro @Zmu (And.intro @Zmv (And.intro @Znv (And.intro @Zkv (And.intro @Znw (And.intro @ZE8 (And.intro @Za9 (@Int.toNat_natCast))))))))))))))))))))))))))))))))))))))))))))))))))))))))))))))
theorem Zdq:type_of% (And.intro @ZLm (And.intro @ZLn (And.intro @ZLo (And.intro @ZLp (And.intro @ZLq (And.intro @ZFh (And.intro @ZFi (And.intro @ZLr (And.intro @ZLs (And.intro @ZLt (And.intro @ZLe (And.intro @ZLf (And.intro @ZLg (And.intro @ZLh (And.intro @ZLi (And.intro @ZLj (And.intro @ZLk (And.intro @ZLl (And.intro @ZFe (And.intro @ZFf (And.intro @ZFg (And.intro @ZJj (And.intro @Ztf (And.intro @ZvB (And.intro @ZK9 (And.intro @ZLa (And.intro @ZLb (And.intro @ZE9 (And.intro @true_and (And.intro @and_true (And.intro @ZoR (And.intro @ZaJ (And.intro @ZaT (And.intro @ZbT (And.intro @Zbs (And.intro @Zgp (And.intro @ZfF (And.intro @Zce (And.intro @ZcL (And.intro @gtI_true (And.intro @Zeq (And.intro @ZdZ (And.intro @Zic (And.intro @Zbp (And.intro @Zbv (And.intro @Zkx (And.intro @Zid (And.intro @not_true (And.intro @not_false (And.intro @Bool.not_eq_true' (And.intro @Bool.not_eq_false' (And.intro @ZqF (And.intro @ZqG (And.intro @ZoT (And.intro @Zvz (And.intro @Zmu (And.intro @Zmv (And.intro @Znv (And.intro @Zkv (And.intro @Znw (And.intro @ZE8 (And.intro @Za9 (And.intro @Ztk (And.intro @Ztl (And.intro @ZqQ (And.intro @Zn4 (And.intro @ZqR (And.intro @Zn5 (And.intro @ZmB (And.intro @Zk7 (And.intro @Ztm (And.intro @Ztn (And.intro @ZmC (And.intro @Zn6 (And.intro @ZmD (And.intro @ZqS (And.intro @Zn7 (And.intro @Zto (And.intro @Zx0 (And.intro @Zk8 (And.intro @ZmE (And.intro @Zk9 (@Int.toNat_natCast))))))))))))))))))))))))))))))))))))))))))))))))))))))))))))))))))))))))))))))))))):=And.intro @ZLm (And.intro @ZLn (And.intro @ZLo (And.intro @ZLp (And.intro @ZLq (And.intro @ZFh (And.intro @ZFi (And.intro @ZLr (And.intro @ZLs (And.intro @ZLt (And.intro @ZLe (And.intro @ZLf (And.intro @ZLg (And.intro @ZLh (And.intro @ZLi (And.intro @ZLj (And.intro @ZLk (And.intro @ZLl (And.intro @ZFe (And.intro @ZFf (And.intro @ZFg (And.intro @ZJj (And.intro @Ztf (And.intro @ZvB (And.intro @ZK9 (And.intro @ZLa (And.intro @ZLb (And.intro @ZE9 (And.intro @true_and (And.intro @and_true (And.intro @ZoR (And.intro @ZaJ (And.intro @ZaT (And.intro @ZbT (And.intro @Zbs (And.intro @Zgp (And.intro @ZfF (And.intro @Zce (And.intro @ZcL (And.intro @gtI_true (And.intro @Zeq (And.intro @ZdZ (And.intro @Zic (And.intro @Zbp (And.intro @Zbv (And.intro @Zkx (And.intro @Zid (And.intro @not_true (And.intro @not_false (And.intro @Bool.not_eq_true' (And.intro @Bool.not_eq_false' (And.intro @ZqF (And.intro @ZqG (And.intro @ZoT (And.intro @Zvz (And.intro @Zmu (And.intro @Zmv (And.intro @Znv (And.intro @Zkv (And.intro @Znw (And.intro @ZE8 (And.intro @Za9 (And.intro @Ztk (And.intro @Ztl (And.intro @ZqQ (And.intro @Zn4 (And.intro @ZqR (And.intro @Zn5 (And.intro @ZmB (And.intro @Zk7 (And.intro @Ztm (And.intro @Ztn (And.intro @ZmC (And.intro @Zn6 (And.intro @ZmD (And.intro @ZqS (And.intro @Zn7 (And.intro @Zto (And.intro @Zx0 (And.intro @Zk8 (And.intro @ZmE (And.intro @Zk9 (@Int.toNat_natCast))))))))))))))))))))))))))))))))))))))))))))))))))))))))))))))))))))))))))))))))))
theorem EQA:type_of% (And.intro @Zk3 (And.intro @ZjT (And.intro @ZjU (And.intro @Zi6 (And.intro @Zk4 (And.intro @ZjV (And.intro @Zmw (And.intro @ZhX (And.intro @Zer (And.intro @ZcB (And.intro @ZiS (And.intro @Zft (And.intro @ZhY (And.intro @ZgX (And.intro @ZgY (And.intro @ZfY (And.intro @ZeQ (And.intro @Zew (And.intro @Zi7 (And.intro @Zie (And.intro @Zi8 (And.intro @Zif (And.intro @Zig (And.intro @Zhv (And.intro @ZnX (And.intro @ZiU (And.intro @Zgq (And.intro @Zes (And.intro @ZjW (And.intro @Zgr (And.intro @ZfG (And.intro @ZcS (And.intro @Zdg (And.intro @eqT_LBox_false (And.intro @ZjX (And.intro @ZfZ (And.intro @Zf0 (And.intro @Zfj (And.intro @ZgZ (And.intro @Zi9 (And.intro @Zk5 (And.intro @Zg0 (And.intro @ZjY (And.intro @Zja (And.intro @ZjZ (And.intro @Zjb (And.intro @Zjc (And.intro @Zih (And.intro @Zmx (And.intro @ZhZ (And.intro @Zfv (And.intro @Zd8 (And.intro @Zdi (And.intro @Zfw (And.intro @Zfx (And.intro @ZcZ (And.intro @Zj0 (And.intro @Zjd (And.intro @ZnY (And.intro @ZiV (And.intro @Zmy (And.intro @Zk6 (And.intro @ZnZ (And.intro @Zmz (And.intro @ZqL (And.intro @Zj2 (And.intro @Zn1 (And.intro @ZmA (And.intro @ZqM (And.intro @Zn2 (And.intro @ZdO (And.intro @Zfk (And.intro @Zfl (And.intro @ZeS (And.intro @Zd9 (And.intro @Zf1 (And.intro @Zje (And.intro @Zii (And.intro @Zjf (And.intro @Zij (And.intro @Zik (And.intro @Zhw (And.intro @Zjg (And.intro @Zil (And.intro @ZdP (And.intro @Zcs (And.intro @ZmF (And.intro @Zla (And.intro @ZaJ (And.intro @ZaT (And.intro @ZbT (And.intro @Zbs (And.intro @Zgp (And.intro @ZfF (And.intro @Zce (And.intro @ZcL (And.intro @gtI_true (And.intro @Zeq (And.intro @ZdZ (And.intro @Zic (And.intro @Zbp (And.intro @Zbv (And.intro @Zkx (@Zid)))))))))))))))))))))))))))))))))))))))))))))))))))))))))))))))))))))))))))))))))))))))))))))))))))))))):=And.intro @Zk3 (And.intro @ZjT (And.intro @ZjU (And.intro @Zi6 (And.intro @Zk4 (And.intro @ZjV (And.intro @Zmw (And.intro @ZhX (And.intro @Zer (And.intro @ZcB (And.intro @ZiS (And.intro @Zft (And.intro @ZhY (And.intro @ZgX (And.intro @ZgY (And.intro @ZfY (And.intro @ZeQ (And.intro @Zew (And.intro @Zi7 (And.intro @Zie (And.intro @Zi8 (And.intro @Zif (And.intro @Zig (And.intro @Zhv (And.intro @ZnX (And.intro @ZiU (And.intro @Zgq (And.intro @Zes (And.intro @ZjW (And.intro @Zgr (And.intro @ZfG (And.intro @ZcS (And.intro @Zdg (And.intro @eqT_LBox_false (And.intro @ZjX (And.intro @ZfZ (And.intro @Zf0 (And.intro @Zfj (And.intro @ZgZ (And.intro @Zi9 (And.intro @Zk5 (And.intro @Zg0 (And.intro @ZjY (And.intro @Zja (And.intro @ZjZ (And.intro @Zjb (And.intro @Zjc (And.intro @Zih (And.intro @Zmx (And.intro @ZhZ (And.intro @Zfv (And.intro @Zd8 (And.intro @Zdi (And.intro @Zfw (And.intro @Zfx (And.intro @ZcZ (And.intro @Zj0 (And.intro @Zjd (And.intro @ZnY (And.intro @ZiV (And.intro @Zmy (And.intro @Zk6 (And.intro @ZnZ (And.intro @Zmz (And.intro @ZqL (And.intro @Zj2 (And.intro @Zn1 (And.intro @ZmA (And.intro @ZqM (And.intro @Zn2 (And.intro @ZdO (And.intro @Zfk (And.intro @Zfl (And.intro @ZeS (And.intro @Zd9 (And.intro @Zf1 (And.intro @Zje (And.intro @Zii (And.intro @Zjf (And.intro @Zij (And.intro @Zik (And.intro @Zhw (And.intro @Zjg (And.intro @Zil (And.intro @ZdP (And.intro @Zcs (And.intro @ZmF (And.intro @Zla (And.intro @ZaJ (And.intro @ZaT (And.intro @ZbT (And.intro @Zbs (And.intro @Zgp (And.intro @ZfF (And.intro @Zce (And.intro @ZcL (And.intro @gtI_true (And.intro @Zeq (And.intro @ZdZ (And.intro @Zic (And.intro @Zbp (And.intro @Zbv (And.intro @Zkx (@Zid)))))))))))))))))))))))))))))))))))))))))))))))))))))))))))))))))))))))))))))))))))))))))))))))))))))))
end Go.Proofs.YtkompmgleojmlaaGreat
