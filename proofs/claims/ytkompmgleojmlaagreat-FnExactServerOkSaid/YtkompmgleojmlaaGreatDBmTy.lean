import Derived.Test.YtkompmgleojmlaaGreatDBmQ
import Derived.Test.YtkompmgleojmlaaGreatDLists
import Derived.IntWalk
namespace Go.Proofs.YtkompmgleojmlaaGreat
open Go.ChangeShapes Go.WideShapes Go.ChangeAt Go.RowKit Go.Joins Go.Deep
def ZaC:Ty:=.int .i64
def Zhh:Ty:=.bool
def ZaL:Ty:=.str
def ZjN:Ty:=(.prod ZaC ZaL)
def Zal:Ty:=(.prod ZaC ZaC)
def Zak:Ty:=(.prod ZaC (.prod (.list ZaL) ZaC))
def ZcG:Ty:=(.prod Zhh (.list Zak))
def ZnQ:Ty:=(.prod ZaL (.prod ZaC (.prod ZaL (.prod ZaL (.prod Zhh (.prod (.list Zal) (.prod ZaC (.prod ZaC (.prod ZaL ZcG)))))))))
def ZaF:Ty:=(.prod ZaC (.prod ZaC ZaL))
def Zaf:Ty:=(.prod ZaL (.prod ZaC (.prod ZaC (.list ZaF))))
def Zae:Ty:=(.prod ZaC (.prod ZaC (.prod ZaC (.prod ZaC (.prod ZaL ZaL)))))
def Zbr:Ty:=(.prod (.list Zaf) (.prod (.list Zae) ZaC))
def ZrY:Ty:=(.prod Zhh (.prod ZaL (.prod ZaC (.prod ZaC (.prod (.list Zal) Zhh)))))
def Zah:Ty:=(.prod ZaC (.prod ZaC (.prod ZaC ZaL)))
def ZcU:Ty:=(.prod (.list Zah) (.prod Zhh Zhh))
def Zkl:Ty:=(.prod ZaL ZaL)
def ZAh:Ty:=(.prod ZaL Zhh)
def Zag:Ty:=(.prod Zhh (.prod ZaC (.prod ZaC (.prod ZaC (.prod (.list Zal) (.prod ZcG (.prod ZaL (.prod ZaL (.prod ZcU (.prod ZAh (.prod Zkl ZaC)))))))))))
def ZbP:Ty:=(.prod Zbr (.list Zag))
def Zfh:Ty:=(.prod ZaC (.prod ZaL ZaC))
def L0:Nat→List AV→Mem→Za3:=fun _ _ _=>⟨Unit,fun _=>([],[]),fun _=>False,fun _=>0⟩
def tmI (tm:List AV) (i:Nat):Int:=match tm.getD i .any with | .w (.c (.int _ x))=>x | _=>0
def tmB (tm:List AV) (i:Nat):Bool:=match tm.getD i .any with | .w (.c (.bool x))=>x | _=>false
def ZrZ (M:Mem):List (Nat × Blk)→Mem
  | []=>M
  | p :: l=>ZrZ (M.set p.1 p.2) l
theorem ZnR {x:AV}:leV x .any=True:=by unfold leV; split <;> simp_all
theorem ZnS {k:IntKind} {x y:Int}:leV (.w (.c (.int k x))) (.w (.c (.int k y)))=(x=y):=by simp [leV,leC]
theorem Zmv {x y:Bool}:leV (.w (.c (.bool x))) (.w (.c (.bool y)))=(x=y):=by simp [leV,leC]
theorem Zr0 {x y:ByteArray}:leV (.w (.c (.str x))) (.w (.c (.str y)))=(x=y):=by simp [leV,leC]
theorem ZAi:∀ {x:AC},leC x x
  | .int _ _=>⟨rfl,rfl⟩
  | .bool _=>rfl
  | .str _=>rfl
  | .opq _=>rfl
  | .hs _ _ _=>⟨rfl,rfl,rfl⟩
  | .bp _ _=>rfl
  | .ep _ _ _ _ _=>rfl
  | .row _ _=>rfl
  | .rp _ _ _ _ _=>rfl
  | .sl _ _ _ _ _ _=>rfl
  | .sp _ _ _ _ _ _ _ _ _=>rfl
  | .tl _ _ _ _=>rfl
  | .mp _=>rfl
  | .fn _ _=>rfl
  | .raw _=>rfl
  | .junk=>rfl
theorem Zr1:∀ {x:List AC},leL x x
  | []=>trivial
  | _ :: _=>⟨ZAi,Zr1⟩
theorem Zkm {x:AV}:leV x x=True:=by
  cases x with
  | any=>simp [ZnR]
  | tp l=>simp [leV]
  | w x =>
    cases x with
    | c a=>exact eq_true (ZAi (x:=a))
    | ag l=>exact eq_true (Zr1 (x:=l))
theorem Zkn {x:Blk}:leB x x=True:=by
  cases x with
  | box l=>exact eq_true (Zr1 (x:=l))
  | row t xs v c h=>cases h with
    | none=>exact eq_true ⟨⟨rfl,rfl⟩,rfl,rfl⟩
    | some _=>simp [leB]
  | _=>simp [leB]
def TN:Nat→Prop→Prop
  | 0,p=>p
  | n + 1,p=>True∧TN n p
theorem ZD6 {p:Prop}:∀ {n:Nat},TN n p=p
  | 0=>rfl
  | n + 1=>by
    show (True∧TN n p)=p
    rw [ZD6 (n:=n),true_and]
def lxs:List AV→Prop→Prop
  | [],p=>p
  | x :: l,p=>leV x x∧lxs l p
theorem Zp3 {p:Prop}:∀ {l:List AV},lxs l p=p
  | []=>rfl
  | x :: l=>by
    show (leV x x∧lxs l p)=p
    rw [Zp3 (l:=l),Zkm,true_and]
def lb (x:Blk):Prop:=leB x x
theorem Zr2 {x:Blk}:lb x=True:=Zkn
def Zb2:List AV→Nat→Nat→List AV
  | tm,_,0=>tm
  | tm,i,n + 1=>Zb2 (tm.set i .any) (i + 1) n
theorem Zlj {k:IntKind} {x y:Int}:leC (.int k x) (.int k y)=(x=y):=by simp [leC]
theorem ZiA {x y:Bool}:leC (.bool x) (.bool y)=(x=y):=by simp [leC]
theorem Zlk {x y:ByteArray}:leC (.str x) (.str y)=(x=y):=by simp [leC]
theorem ZAj {L:Lnd} {t:Ty} {x y:List t.den}:leC (.hs L t x) (.hs L t y)=(x=y):=by simp [leC]
theorem Za6 {t:Ty} {x y:List t.den} {v c:Nat}:leB (.row t x v c none) (.row t y v c none)=(x=y):=by simp [leB]
theorem ZAk {x y:List Int}:leB (.mp x) (.mp y)=(x=y):=by simp [leB]
def rB (x y:Bool):Prop:=(true=true∧leC (.bool x) (.bool y))∧true=true
theorem ZFR {x y:Bool}:rB x y=(x=y):=by simp [rB,ZiA]
def rI (x y:Int):Prop:=(true=true∧leC (.int .i64 x) (.int .i64 y))∧true=true
theorem ZFS {x y:Int}:rI x y=(x=y):=by simp [rI,Zlj]
def rS (x y:ByteArray):Prop:=(true=true∧leC (.str x) (.str y))∧true=true
theorem ZFT {x y:ByteArray}:rS x y=(x=y):=by simp [rS,Zlk]
theorem bc0 {P:Program} (Γ:List (Zat P)) (H:List (ZfW P)) (H2:List (Zif P)) (G:List (Zen P)) (L:Nat→List AV→Mem→Za3) {f:FuncId} {fn:Func} {args:List AW} {res:AV} {new:Mem} (hf:P.funcs[f]?=some fn) (h:WfA args→ZB2 ⟨Γ,H,H2,G,none,fun _=>[],0,[],[]⟩ L fn args [] (ZJo res new)):Zai P f args res new:=Zc2 hf ⟨⟨rfl,rfl⟩,rfl⟩ h
theorem Zbj {k:Nat} (h:k + 1≤maxLen):IntKind.wrap .i64 (((k:Nat):Int) + 1)=((k + 1:Nat):Int):=by
  have:IntKind.i64.wrap (((k:Nat):Int) + 1)=((k:Nat):Int) + 1:=IntWalk.i64_in _ (by unfold maxLen at h; omega)
  rw [this]
  rfl
theorem Zap {t:Ty} {xs:List t.den} {k:Nat} (h:k < xs.length):xs[k]?=some (nth t xs k):=by
  unfold nth
  rw [List.getD_eq_getElem?_getD,List.getElem?_eq_getElem h]
  rfl
theorem ZaD {P:Nat→Prop} {k:Nat} (h:∀ j,j < k→P j) (hk:P k):∀ j,j < k + 1→P j:=fun j hj=>by
  rcases Nat.lt_or_ge j k with h1 | h1
  · exact h j h1
  · obtain rfl:j=k:=by omega
    exact hk
theorem ZaH {P:Nat→Prop}:∀ j,j < 0→P j:=fun j hj=>absurd hj (Nat.not_lt_zero j)
theorem Zgn {t:Ty} {xs:List t.den} {p:t.den→Bool} (h:∀ j,j < xs.length→p (nth t xs j)=false):xs.any p=false:=by
  rw [List.any_eq_false]
  intro x hx
  obtain ⟨j,hj,rfl⟩:=List.mem_iff_getElem.1 hx
  have h1:=h j hj
  have h2:=Zap hj
  rw [List.getElem?_eq_getElem hj] at h2
  rw [← Option.some.inj h2] at h1
  simp [h1]
theorem ZiB {t:Ty} {xs:List t.den} {p:t.den→Bool} {k:Nat} (hk:k < xs.length) (h:p (nth t xs k)=true):xs.any p=true:=ZIU (Zap hk) h
theorem ZFU {t:Ty} {xs:List t.den} {p:t.den→Bool} {k:Nat} (hk:k≤xs.length) (h:∀ j,j < k→p (nth t xs j)=false):(xs.take k).any p=false:=by
  rw [List.any_eq_false]
  intro x hx
  obtain ⟨j,hj,rfl⟩:=List.mem_take_iff_getElem.1 hx
  have h1:=h j (by omega)
  have h2:=Zap (t:=t) (xs:=xs) (k:=j) (by omega)
  rw [List.getElem?_eq_getElem (by omega)] at h2
  rw [← Option.some.inj h2] at h1
  simp [h1]
theorem Zd7 {t:Ty} {xs:List t.den} {p:t.den→Bool} {k:Nat} (hk:k < xs.length) (h:∀ j,j < k→p (nth t xs j)=false) (hp:p (nth t xs k)=true):ZeC p xs=((k:Nat):Int):=ZzE (ZFU (by omega) h) (Zap hk) hp
theorem ZbH {t:Ty} {xs:List t.den} {p:t.den→Bool} (h:∀ j,j < xs.length→p (nth t xs j)=false):ZeC p xs=-1:=ZoG (Zgn h)
theorem ZbE {t:Ty} {xs ys:List t.den} (hl:xs.length=ys.length) (h:∀ j,j < xs.length→nth t xs j=nth t ys j):xs=ys:=by
  apply List.ext_getElem?
  intro j
  rcases Nat.lt_or_ge j xs.length with h1 | h1
  · rw [Zap h1,Zap (by omega),h j h1]
  · rw [List.getElem?_eq_none h1,List.getElem?_eq_none (by omega)]
theorem ZAl {t:Ty} {xs ys:List t.den} {p:t.den→t.den→Bool} (hl:xs.length=ys.length) (h:∀ j,j < xs.length→p (nth t xs j) (nth t ys j)=true):ZiV p xs ys=true:=by
  have key:∀ k,k≤xs.length→ZiV p (xs.take k) (ys.take k)=true:=by
    intro k
    induction k with
    | zero=>intro _; rfl
    | succ k ih=>intro hk; exact ZuO (ih (by omega)) (Zap (by omega)) (Zap (by omega)) (h k (by omega))
  have:=key xs.length (Nat.le_refl _)
  rwa [List.take_length,hl,List.take_length] at this
theorem ZnT {t:Ty} {xs ys:List t.den} {p:t.den→t.den→Bool} {k:Nat} (hk:k < xs.length) (hk2:k < ys.length) (h:p (nth t xs k) (nth t ys k)=false):ZiV p xs ys=false:=ZEG (Zap hk) (Zap hk2) h
theorem ZHF (x y:Int) (b:Bool):((x == y) && b)=true↔x=y∧b=true:=by simp
theorem ZFV (x y b:Bool):((x == y) && b)=true↔x=y∧b=true:=by simp
theorem ZHG (x y:ByteArray) (b:Bool):(decide (x=y) && b)=true↔x=y∧b=true:=by simp
def Ty.plain:Ty→Bool
  | .prod a b=>a.plain && b.plain
  | .list _=>false
  | .opq=>false
  | _=>true
theorem ZjO:∀ (t:Ty),t.plain=true→∀ (x y:t.den) (l k:List AC),ZbX (cellsOf t x ++ l) (cellsOf t y ++ k)=true↔x=y∧ZbX l k=true
  | .int _,_,x,y,l,k=>ZHF x y _
  | .bool,_,x,y,l,k=>ZFV x y _
  | .str,_,x,y,l,k=>ZHG x y _
  | .prod a b,h,x,y,l,k=>by
    have h' : (a.plain && b.plain)=true:=h
    rw [Bool.and_eq_true] at h'
    show ZbX ((cellsOf a x.1 ++ cellsOf b x.2) ++ l) ((cellsOf a y.1 ++ cellsOf b y.2) ++ k)=true↔_
    rw [List.append_assoc,List.append_assoc,ZjO a h'.1,ZjO b h'.2]
    constructor
    · rintro ⟨h1,h2,h3⟩
      exact ⟨Prod.ext h1 h2,h3⟩
    · rintro ⟨rfl,h3⟩
      exact ⟨rfl,rfl,h3⟩
  | .list _,h,_,_,_,_=>by cases h
  | .opq,h,_,_,_,_=>by cases h
theorem Zcj {t:Ty} (h:t.plain=true) {x y:t.den}:ZbX (cellsOf t x) (cellsOf t y)=true↔x=y:=by
  have:=ZjO t h x y [] []
  rw [List.append_nil,List.append_nil] at this
  rw [this]
  exact ⟨fun h=>h.1,fun h=>⟨h,rfl⟩⟩
theorem Zck {t:Ty} (h:t.plain=true) {x y:t.den}:ZbX (cellsOf t x) (cellsOf t y)=false↔¬ x=y:=by
  rw [← Zcj h]
  simp
def eqI (a b:Int):Bool:=a == b
def neI (a b:Int):Bool:=a != b
def ltI (a b:Int):Bool:=decide (a < b)
def leI (a b:Int):Bool:=decide (a≤b)
def gtI (a b:Int):Bool:=decide (a > b)
def geI (a b:Int):Bool:=decide (a ≥ b)
def eqS (a b:ByteArray):Bool:=decide (a=b)
def eqO (a b:Bool):Bool:=a == b
section
variable {a b:Int} {x y:ByteArray} {p q:Bool}
theorem Zao:eqI a b=true↔a=b:=by simp [eqI]
theorem ZaB:eqI a b=false↔¬ a=b:=by simp [eqI]
theorem Zbh:neI a b=true↔¬ a=b:=by simp [neI]
theorem ZaW:neI a b=false↔a=b:=by simp [neI]
theorem ZfR:ltI a b=true↔a < b:=by simp [ltI]
theorem Zfi:ltI a b=false↔¬ a < b:=by simp [ltI]
theorem ZbD:leI a b=true↔a≤b:=by simp [leI]
theorem Zb6:leI a b=false↔¬ a≤b:=by simp [leI]
theorem gtI_true:gtI a b=true↔b < a:=by simp [gtI]
theorem Zek:gtI a b=false↔¬ b < a:=by simp [gtI]
theorem ZcW:geI a b=true↔b≤a:=by simp [geI]
theorem Zgo:geI a b=false↔¬ b≤a:=by simp [geI]
theorem ZaU:eqS x y=true↔x=y:=by simp [eqS]
theorem Za1:eqS x y=false↔¬ x=y:=by simp [eqS]
theorem ZiC:eqO p q=true↔p=q:=by simp [eqO]
theorem Zgp:eqO p q=false↔¬ p=q:=by simp [eqO]
end
def Zt4 (x y:Ziq):Bool:=eqB x y
theorem Zi5 {x y:Ziq}:Zt4 x y=true↔x=y:=ZaX
theorem ZhZ {x y:Ziq}:Zt4 x y=false↔¬ x=y:=ZaP
def Zp4 (x y:List Ziq):Bool:=eqB x y
theorem Zh0 {x y:List Ziq}:Zp4 x y=true↔x=y:=ZaX
theorem Zhi {x y:List Ziq}:Zp4 x y=false↔¬ x=y:=ZaP
def Zt5 (x y:Ziq):Bool:=ZbX (cellsOf ZjN x) (cellsOf ZjN y)
theorem Zi6 {x y:Ziq}:Zt5 x y=true↔x=y:=Zcj (t:=ZjN) rfl
theorem Zh1 {x y:Ziq}:Zt5 x y=false↔¬ x=y:=Zck (t:=ZjN) rfl
def ZfS (x y:ZbB):Bool:=eqB x y
theorem Zko {x y:ZbB}:ZfS x y=true↔x=y:=ZaX
theorem Zga {x y:ZbB}:ZfS x y=false↔¬ x=y:=ZaP
def ZaS (x y:List ZbB):Bool:=eqB x y
theorem Zdl {x y:List ZbB}:ZaS x y=true↔x=y:=ZaX
theorem ZbM {x y:List ZbB}:ZaS x y=false↔¬ x=y:=ZaP
def Zmw (x y:ZbB):Bool:=ZbX (cellsOf Zal x) (cellsOf Zal y)
theorem Zg5 {x y:ZbB}:Zmw x y=true↔x=y:=Zcj (t:=Zal) rfl
theorem Zd8 {x y:ZbB}:Zmw x y=false↔¬ x=y:=Zck (t:=Zal) rfl
def ZaM (xs:List ZbB) (k:Nat):ZbB:=nth Zal xs k
def ZbT (x y:ZaK):Bool:=eqB x y
theorem Zgb {x y:ZaK}:ZbT x y=true↔x=y:=ZaX
theorem Zfj {x y:ZaK}:ZbT x y=false↔¬ x=y:=ZaP
def Zdx (x y:List ZaK):Bool:=eqB x y
theorem Zfk {x y:List ZaK}:Zdx x y=true↔x=y:=ZaX
theorem Zey {x y:List ZaK}:Zdx x y=false↔¬ x=y:=ZaP
def Zav (xs:List ZaK) (k:Nat):ZaK:=nth Zak xs k
def Za5 (x y:Zby):Bool:=eqB x y
theorem ZdH {x y:Zby}:Za5 x y=true↔x=y:=ZaX
theorem Zdp {x y:Zby}:Za5 x y=false↔¬ x=y:=ZaP
def ZnU (x y:List Zby):Bool:=eqB x y
theorem Zhj {x y:List Zby}:ZnU x y=true↔x=y:=ZaX
theorem Zgq {x y:List Zby}:ZnU x y=false↔¬ x=y:=ZaP
def ZnV (x y:Zf2):Bool:=eqB x y
theorem Zhk {x y:Zf2}:ZnV x y=true↔x=y:=ZaX
theorem Zgr {x y:Zf2}:ZnV x y=false↔¬ x=y:=ZaP
def ZlJ (x y:List Zf2):Bool:=eqB x y
theorem Zgs {x y:List Zf2}:ZlJ x y=true↔x=y:=ZaX
theorem ZfT {x y:List Zf2}:ZlJ x y=false↔¬ x=y:=ZaP
def Zg6 (x y:Zc7):Bool:=eqB x y
theorem ZlK {x y:Zc7}:Zg6 x y=true↔x=y:=ZaX
theorem Zg7 {x y:Zc7}:Zg6 x y=false↔¬ x=y:=ZaP
def ZcX (x y:List Zc7):Bool:=eqB x y
theorem ZeT {x y:List Zc7}:ZcX x y=true↔x=y:=ZaX
theorem Zdm {x y:List Zc7}:ZcX x y=false↔¬ x=y:=ZaP
def Zr3 (x y:Zc7):Bool:=ZbX (cellsOf ZaF x) (cellsOf ZaF y)
theorem Zh2 {x y:Zc7}:Zr3 x y=true↔x=y:=Zcj (t:=ZaF) rfl
theorem ZeU {x y:Zc7}:Zr3 x y=false↔¬ x=y:=Zck (t:=ZaF) rfl
def Zay (xs:List Zc7) (k:Nat):Zc7:=nth ZaF xs k
def ZbF (x y:Zaw):Bool:=eqB x y
theorem Zel {x y:Zaw}:ZbF x y=true↔x=y:=ZaX
theorem ZbZ {x y:Zaw}:ZbF x y=false↔¬ x=y:=ZaP
def Zbq (x y:List Zaw):Bool:=eqB x y
theorem Zcl {x y:List Zaw}:Zbq x y=true↔x=y:=ZaX
theorem eqT_LBox_false {x y:List Zaw}:Zbq x y=false↔¬ x=y:=ZaP
def Zaa (xs:List Zaw) (k:Nat):Zaw:=nth Zaf xs k
def Zcf (x y:Zam):Bool:=eqB x y
theorem Zh3 {x y:Zam}:Zcf x y=true↔x=y:=ZaX
theorem Zez {x y:Zam}:Zcf x y=false↔¬ x=y:=ZaP
def Zc3 (x y:List Zam):Bool:=eqB x y
theorem ZeA {x y:List Zam}:Zc3 x y=true↔x=y:=ZaX
theorem ZdZ {x y:List Zam}:Zc3 x y=false↔¬ x=y:=ZaP
def ZbQ (x y:Zam):Bool:=ZbX (cellsOf Zae x) (cellsOf Zae y)
theorem Zfl {x y:Zam}:ZbQ x y=true↔x=y:=Zcj (t:=Zae) rfl
theorem Zhl {x y:Zam}:ZbQ x y=false↔¬ x=y:=Zck (t:=Zae) rfl
def Zab (xs:List Zam) (k:Nat):Zam:=nth Zae xs k
def ZdI (x y:Zau):Bool:=eqB x y
theorem Zi7 {x y:Zau}:ZdI x y=true↔x=y:=ZaX
theorem Zfm {x y:Zau}:ZdI x y=false↔¬ x=y:=ZaP
def Zp5 (x y:List Zau):Bool:=eqB x y
theorem Zh4 {x y:List Zau}:Zp5 x y=true↔x=y:=ZaX
theorem Zhm {x y:List Zau}:Zp5 x y=false↔¬ x=y:=ZaP
def Zp6 (x y:Zir):Bool:=eqB x y
theorem Zh5 {x y:Zir}:Zp6 x y=true↔x=y:=ZaX
theorem Zhn {x y:Zir}:Zp6 x y=false↔¬ x=y:=ZaP
def ZnW (x y:List Zir):Bool:=eqB x y
theorem Zho {x y:List Zir}:ZnW x y=true↔x=y:=ZaX
theorem Zgt {x y:List Zir}:ZnW x y=false↔¬ x=y:=ZaP
def Zd9 (x y:Zaz):Bool:=eqB x y
theorem Zkp {x y:Zaz}:Zd9 x y=true↔x=y:=ZaX
theorem Zgc {x y:Zaz}:Zd9 x y=false↔¬ x=y:=ZaP
def Zcm (x y:List Zaz):Bool:=eqB x y
theorem Zea {x y:List Zaz}:Zcm x y=true↔x=y:=ZaX
theorem Zc4 {x y:List Zaz}:Zcm x y=false↔¬ x=y:=ZaP
def ZbI (x y:Zaz):Bool:=ZbX (cellsOf Zah x) (cellsOf Zah y)
theorem Zcn {x y:Zaz}:ZbI x y=true↔x=y:=Zcj (t:=Zah) rfl
theorem Zeb {x y:Zaz}:ZbI x y=false↔¬ x=y:=Zck (t:=Zah) rfl
def Zad (xs:List Zaz) (k:Nat):Zaz:=nth Zah xs k
def Zbf (x y:Zbc):Bool:=eqB x y
theorem Zec {x y:Zbc}:Zbf x y=true↔x=y:=ZaX
theorem Zb7 {x y:Zbc}:Zbf x y=false↔¬ x=y:=ZaP
def Zp7 (x y:List Zbc):Bool:=eqB x y
theorem Zh6 {x y:List Zbc}:Zp7 x y=true↔x=y:=ZaX
theorem Zhp {x y:List Zbc}:Zp7 x y=false↔¬ x=y:=ZaP
def Zh7 (x y:ZpD):Bool:=eqB x y
theorem ZlL {x y:ZpD}:Zh7 x y=true↔x=y:=ZaX
theorem Zg8 {x y:ZpD}:Zh7 x y=false↔¬ x=y:=ZaP
def ZAm (x y:List ZpD):Bool:=eqB x y
theorem Zkq {x y:List ZpD}:ZAm x y=true↔x=y:=ZaX
theorem Zi8 {x y:List ZpD}:ZAm x y=false↔¬ x=y:=ZaP
def Zr4 (x y:ZpD):Bool:=ZbX (cellsOf Zkl x) (cellsOf Zkl y)
theorem ZlM {x y:ZpD}:Zr4 x y=true↔x=y:=Zcj (t:=Zkl) rfl
theorem Zkr {x y:ZpD}:Zr4 x y=false↔¬ x=y:=Zck (t:=Zkl) rfl
def ZlN (x y:GIn):Bool:=eqB x y
theorem ZnX {x y:GIn}:ZlN x y=true↔x=y:=ZaX
theorem Zh8 {x y:GIn}:ZlN x y=false↔¬ x=y:=ZaP
def ZD7 (x y:List GIn):Bool:=eqB x y
theorem ZlO {x y:List GIn}:ZD7 x y=true↔x=y:=ZaX
theorem Zks {x y:List GIn}:ZD7 x y=false↔¬ x=y:=ZaP
def ZAn (x y:GIn):Bool:=ZbX (cellsOf ZAh x) (cellsOf ZAh y)
theorem ZnY {x y:GIn}:ZAn x y=true↔x=y:=Zcj (t:=ZAh) rfl
theorem ZlP {x y:GIn}:ZAn x y=false↔¬ x=y:=Zck (t:=ZAh) rfl
def ZaQ (x y:Zac):Bool:=eqB x y
theorem ZcO {x y:Zac}:ZaQ x y=true↔x=y:=ZaX
theorem Zd0 {x y:Zac}:ZaQ x y=false↔¬ x=y:=ZaP
def ZcD (x y:List Zac):Bool:=eqB x y
theorem Zd1 {x y:List Zac}:ZcD x y=true↔x=y:=ZaX
theorem ZdJ {x y:List Zac}:ZcD x y=false↔¬ x=y:=ZaP
def ZaA (xs:List Zac) (k:Nat):Zac:=nth Zag xs k
def Zdb (x y:Zbg):Bool:=eqB x y
theorem Zfn {x y:Zbg}:Zdb x y=true↔x=y:=ZaX
theorem ZeB {x y:Zbg}:Zdb x y=false↔¬ x=y:=ZaP
def ZnZ (x y:List Zbg):Bool:=eqB x y
theorem Zhq {x y:List Zbg}:ZnZ x y=true↔x=y:=ZaX
theorem Zgu {x y:List Zbg}:ZnZ x y=false↔¬ x=y:=ZaP
def Zn0 (x y:ZdN):Bool:=eqB x y
theorem Zhr {x y:ZdN}:Zn0 x y=true↔x=y:=ZaX
theorem Zgv {x y:ZdN}:Zn0 x y=false↔¬ x=y:=ZaP
def ZlQ (x y:List ZdN):Bool:=eqB x y
theorem Zgw {x y:List ZdN}:ZlQ x y=true↔x=y:=ZaX
theorem ZfU {x y:List ZdN}:ZlQ x y=false↔¬ x=y:=ZaP
def Zn1 (x y:ZdN):Bool:=ZbX (cellsOf Zfh x) (cellsOf Zfh y)
theorem Zhs {x y:ZdN}:Zn1 x y=true↔x=y:=Zcj (t:=Zfh) rfl
theorem Zgx {x y:ZdN}:Zn1 x y=false↔¬ x=y:=Zck (t:=Zfh) rfl
theorem Zp8 {x y:List Int} {v c:Nat}:leB (.row ZaC x v c none) (.row ZaC y v c none)=(x=y):=Za6 (t:=ZaC)
theorem Zp9 {x y:List ByteArray} {v c:Nat}:leB (.row ZaL x v c none) (.row ZaL y v c none)=(x=y):=Za6 (t:=ZaL)
theorem Zn2 {x y:List Bool} {v c:Nat}:leB (.row Zhh x v c none) (.row Zhh y v c none)=(x=y):=Za6 (t:=Zhh)
theorem ZlR {x y:List Ziq} {v c:Nat}:leB (.row ZjN x v c none) (.row ZjN y v c none)=(x=y):=Za6 (t:=ZjN)
theorem Zn3 {x y:List ZbB} {v c:Nat}:leB (.row Zal x v c none) (.row Zal y v c none)=(x=y):=Za6 (t:=Zal)
theorem ZlS {x y:List ZaK} {v c:Nat}:leB (.row Zak x v c none) (.row Zak y v c none)=(x=y):=Za6 (t:=Zak)
theorem Zkt {x y:List Zby} {v c:Nat}:leB (.row ZcG x v c none) (.row ZcG y v c none)=(x=y):=Za6 (t:=ZcG)
theorem Zi9 {x y:List Zf2} {v c:Nat}:leB (.row ZnQ x v c none) (.row ZnQ y v c none)=(x=y):=Za6 (t:=ZnQ)
theorem Zqa {x y:List Zc7} {v c:Nat}:leB (.row ZaF x v c none) (.row ZaF y v c none)=(x=y):=Za6 (t:=ZaF)
theorem Zqb {x y:List Zaw} {v c:Nat}:leB (.row Zaf x v c none) (.row Zaf y v c none)=(x=y):=Za6 (t:=Zaf)
theorem Zku {x y:List Zam} {v c:Nat}:leB (.row Zae x v c none) (.row Zae y v c none)=(x=y):=Za6 (t:=Zae)
theorem ZlT {x y:List Zau} {v c:Nat}:leB (.row Zbr x v c none) (.row Zbr y v c none)=(x=y):=Za6 (t:=Zbr)
theorem Zkv {x y:List Zir} {v c:Nat}:leB (.row ZrY x v c none) (.row ZrY y v c none)=(x=y):=Za6 (t:=ZrY)
theorem Zn4 {x y:List Zaz} {v c:Nat}:leB (.row Zah x v c none) (.row Zah y v c none)=(x=y):=Za6 (t:=Zah)
theorem ZlU {x y:List Zbc} {v c:Nat}:leB (.row ZcU x v c none) (.row ZcU y v c none)=(x=y):=Za6 (t:=ZcU)
theorem Zqc {x y:List ZpD} {v c:Nat}:leB (.row Zkl x v c none) (.row Zkl y v c none)=(x=y):=Za6 (t:=Zkl)
theorem Zt6 {x y:List GIn} {v c:Nat}:leB (.row ZAh x v c none) (.row ZAh y v c none)=(x=y):=Za6 (t:=ZAh)
theorem Zja {x y:List Zac} {v c:Nat}:leB (.row Zag x v c none) (.row Zag y v c none)=(x=y):=Za6 (t:=Zag)
theorem Zkw {x y:List Zbg} {v c:Nat}:leB (.row ZbP x v c none) (.row ZbP y v c none)=(x=y):=Za6 (t:=ZbP)
theorem Zjb {x y:List ZdN} {v c:Nat}:leB (.row Zfh x v c none) (.row Zfh y v c none)=(x=y):=Za6 (t:=Zfh)
def ZlV:ZbB:=Ty.dflt Zal
def Zh9:ZaK:=Ty.dflt Zak
def Zt7:Zc7:=Ty.dflt ZaF
def Zn5:Zaw:=Ty.dflt Zaf
def ZfV:Zam:=Ty.dflt Zae
def ZlW:Zaz:=Ty.dflt Zah
def Zem:Zac:=Ty.dflt Zag
abbrev Zbv:=ByteArray × Int × Int × Value
def Zcv:Ty:=.prod ZaL (.prod ZaC (.prod ZaC .opq))
def ZcY (xs:List Zbv) (k:Nat):Zbv:=nth Zcv xs k
def Zaj (xs:List Int) (k:Nat):Int:=nth ZaC xs k
def Zas (xs:List ByteArray) (k:Nat):ByteArray:=nth ZaL xs k
def Za8 (x y:List ByteArray):Bool:=eqB x y
theorem ZcP {x y:List ByteArray}:Za8 x y=true↔x=y:=ZaX
theorem ZbG {x y:List ByteArray}:Za8 x y=false↔¬ x=y:=ZaP
def ZAo (x y:List Int):Bool:=eqB x y
theorem Zkx {x y:List Int}:ZAo x y=true↔x=y:=ZaX
theorem Zjc {x y:List Int}:ZAo x y=false↔¬ x=y:=ZaP
def T2 (p:Prop):Prop:=True∧(True∧p)
def T3 (p:Prop):Prop:=True∧(True∧(True∧p))
def T4 (p:Prop):Prop:=True∧(True∧(True∧(True∧p)))
def T5 (p:Prop):Prop:=True∧(True∧(True∧(True∧(True∧p))))
def T6 (p:Prop):Prop:=True∧(True∧(True∧(True∧(True∧(True∧p)))))
def T7 (p:Prop):Prop:=True∧(True∧(True∧(True∧(True∧(True∧(True∧p))))))
def T8 (p:Prop):Prop:=True∧(True∧(True∧(True∧(True∧(True∧(True∧(True∧p)))))))
def T9 (p:Prop):Prop:=True∧(True∧(True∧(True∧(True∧(True∧(True∧(True∧(True∧p))))))))
def T10 (p:Prop):Prop:=True∧(True∧(True∧(True∧(True∧(True∧(True∧(True∧(True∧(True∧p)))))))))
def T11 (p:Prop):Prop:=True∧(True∧(True∧(True∧(True∧(True∧(True∧(True∧(True∧(True∧(True∧p))))))))))
def T12 (p:Prop):Prop:=True∧(True∧(True∧(True∧(True∧(True∧(True∧(True∧(True∧(True∧(True∧(True∧p)))))))))))
theorem ZFW {p:Prop}:T2 p=p:=by simp [T2]
theorem ZFX {p:Prop}:T3 p=p:=by simp [T3]
theorem ZFY {p:Prop}:T4 p=p:=by simp [T4]
theorem ZFZ {p:Prop}:T5 p=p:=by simp [T5]
theorem ZF0 {p:Prop}:T6 p=p:=by simp [T6]
theorem ZF1 {p:Prop}:T7 p=p:=by simp [T7]
theorem ZF2 {p:Prop}:T8 p=p:=by simp [T8]
theorem ZF3 {p:Prop}:T9 p=p:=by simp [T9]
theorem ZAp {p:Prop}:T10 p=p:=by simp [T10]
theorem ZAq {p:Prop}:T11 p=p:=by simp [T11]
theorem ZAr {p:Prop}:T12 p=p:=by simp [T12]
def ix (j:Nat) (x:Int) (n:Nat):Prop:=j=j∧(0:Int)≤x∧x < (n:Int)
theorem ZF4 {j n:Nat} {x:Int}:ix j x n=((0:Int)≤x∧x < (n:Int)):=by simp [ix]
def vI (x y:Int):Prop:=leV (.c (.int .i64 x)) (.c (.int .i64 y))
theorem ZF5 {x y:Int}:vI x y=(x=y):=ZnS
def cI (x y:Int):Prop:=true=true∧leC (.int .i64 x) (.int .i64 y)
theorem ZF6 {x y:Int}:cI x y=(x=y):=by simp [cI,Zlj]
def cB (x y:Bool):Prop:=true=true∧leC (.bool x) (.bool y)
theorem ZF7 {x y:Bool}:cB x y=(x=y):=by simp [cB,ZiA]
def cS (x y:ByteArray):Prop:=true=true∧leC (.str x) (.str y)
theorem ZF8 {x y:ByteArray}:cS x y=(x=y):=by simp [cS,Zlk]
def w64 (x:Int):Int:=IntKind.wrap .i64 x
theorem ZAs {x:Int}:w64 x=IntKind.wrap .i64 x:=rfl
def tpn (n:Nat) (p:Prop):Prop:=lxs (List.replicate n (.tp [])) p
theorem ZAt {n:Nat} {p:Prop}:tpn n p=p:=Zp3
def ci (x:Int):AV:=.c (.int .i64 x)
theorem ZF9 {x:Int}:ci x=.c (.int .i64 x):=rfl
def hn (t:Ty) (x:List t.den):AV:=.c (.hs .no t x)
theorem ZGa {t:Ty} {x:List t.den}:hn t x=.c (.hs .no t x):=rfl
def pt (p:Prop):Prop:=p∧true=true
theorem ZGb {p:Prop}:pt p=p:=by simp [pt]
theorem SIA:type_of% (And.intro @ZF4 (And.intro @ZF5 (And.intro @ZF6 (And.intro @ZF7 (And.intro @ZF8 (And.intro @ZAs (And.intro @ZAt (And.intro @ZF9 (And.intro @ZGa (And.intro @ZGb (And.intro @ZFW (And.intro @ZFX (And.intro @ZFY (And.intro @ZFZ (And.intro @ZF0 (And.intro @ZF1 (And.intro @ZF2 (And.intro @ZF3 (And.intro @ZAp (And.intro @ZAq (And.intro @ZAr (And.intro @ZD6 (And.intro @Zp3 (And.intro @Zr2 (And.intro @ZFR (And.intro @ZFS (And.intro @ZFT (And.intro @ZAk (And.intro @true_and (And.intro @and_true (And.intro @Zmt (And.intro @Zao (And.intro @ZaB (And.intro @Zbh (And.intro @ZaW (And.intro @ZfR (And.intro @Zfi (And.intro @ZbD (And.intro @Zb6 (And.intro @gtI_true (And.intro @Zek (And.intro @ZcW (And.intro @Zgo (And.intro @ZaU (And.intro @Za1 (And.intro @ZiC (And.intro @Zgp (And.intro @not_true (And.intro @not_false (And.intro @Bool.not_eq_true' (And.intro @Bool.not_eq_false' (And.intro @ZnR (And.intro @ZnS (And.intro @Zmv (And.intro @Zr0 (And.intro @Zkm (And.intro @Zkn (And.intro @Zlj (And.intro @ZiA (And.intro @Zlk (And.intro @ZAj (And.intro @Za6 (@Int.toNat_natCast))))))))))))))))))))))))))))))))))))))))))))))))))))))))))))))):=And.intro @ZF4 (And.intro @ZF5 (And.intro @ZF6 (And.intro @ZF7 (And.intro @ZF8 (And.intro @ZAs (And.intro @ZAt (And.intro @ZF9 (And.intro @ZGa (And.intro @ZGb (And.intro @ZFW (And.intro @ZFX (And.intro @ZFY (And.intro @ZFZ (And.intro @ZF0 (And.intro @ZF1 (And.intro @ZF2 (And.intro @ZF3 (And.intro @ZAp (And.intro @ZAq (And.intro @ZAr (And.intro @ZD6 (And.intro @Zp3 (And.intro @Zr2 (And.intro @ZFR (And.intro @ZFS (And.intro @ZFT (And.intro @ZAk (And.intro @true_and (And.intro @and_true (And.intro @Zmt (And.intro @Zao (And.intro @ZaB (And.intro @Zbh (And.intro @ZaW (And.intro @ZfR (And.intro @Zfi (And.intro @ZbD (And.intro @Zb6 (And.intro @gtI_true (And.intro @Zek (And.intro @ZcW (And.intro @Zgo (And.intro @ZaU (And.intro @Za1 (And.intro @ZiC (And.intro @Zgp (And.intro @not_true (And.intro @not_false (And.intro @Bool.not_eq_true' (And.intro @Bool.not_eq_false' (And.intro @ZnR (And.intro @ZnS (And.intro @Zmv (And.intro @Zr0 (And.intro @Zkm (And.intro @Zkn (And.intro @Zlj (And.intro @ZiA (And.intro @Zlk (And.intro @ZAj (And.intro @Za6 (@Int.toNat_natCast))))))))))))))))))))))))))))))))))))))))))))))))))))))))))))))
theorem Zdy:type_of% (And.intro @ZF4 (And.intro @ZF5 (And.intro @ZF6 (And.intro @ZF7 (And.intro @ZF8 (And.intro @ZAs (And.intro @ZAt (And.intro @ZF9 (And.intro @ZGa (And.intro @ZGb (And.intro @ZFW (And.intro @ZFX (And.intro @ZFY (And.intro @ZFZ (And.intro @ZF0 (And.intro @ZF1 (And.intro @ZF2 (And.intro @ZF3 (And.intro @ZAp (And.intro @ZAq (And.intro @ZAr (And.intro @ZD6 (And.intro @Zp3 (And.intro @Zr2 (And.intro @ZFR (And.intro @ZFS (And.intro @ZFT (And.intro @ZAk (And.intro @true_and (And.intro @and_true (And.intro @Zmt (And.intro @Zao (And.intro @ZaB (And.intro @Zbh (And.intro @ZaW (And.intro @ZfR (And.intro @Zfi (And.intro @ZbD (And.intro @Zb6 (And.intro @gtI_true (And.intro @Zek (And.intro @ZcW (And.intro @Zgo (And.intro @ZaU (And.intro @Za1 (And.intro @ZiC (And.intro @Zgp (And.intro @not_true (And.intro @not_false (And.intro @Bool.not_eq_true' (And.intro @Bool.not_eq_false' (And.intro @ZnR (And.intro @ZnS (And.intro @Zmv (And.intro @Zr0 (And.intro @Zkm (And.intro @Zkn (And.intro @Zlj (And.intro @ZiA (And.intro @Zlk (And.intro @ZAj (And.intro @Za6 (And.intro @Zp8 (And.intro @Zp9 (And.intro @Zn2 (And.intro @ZlR (And.intro @Zn3 (And.intro @ZlS (And.intro @Zkt (And.intro @Zi9 (And.intro @Zqa (And.intro @Zqb (And.intro @Zku (And.intro @ZlT (And.intro @Zkv (And.intro @Zn4 (And.intro @ZlU (And.intro @Zqc (And.intro @Zt6 (And.intro @Zja (And.intro @Zkw (And.intro @Zjb (@Int.toNat_natCast))))))))))))))))))))))))))))))))))))))))))))))))))))))))))))))))))))))))))))))))))):=And.intro @ZF4 (And.intro @ZF5 (And.intro @ZF6 (And.intro @ZF7 (And.intro @ZF8 (And.intro @ZAs (And.intro @ZAt (And.intro @ZF9 (And.intro @ZGa (And.intro @ZGb (And.intro @ZFW (And.intro @ZFX (And.intro @ZFY (And.intro @ZFZ (And.intro @ZF0 (And.intro @ZF1 (And.intro @ZF2 (And.intro @ZF3 (And.intro @ZAp (And.intro @ZAq (And.intro @ZAr (And.intro @ZD6 (And.intro @Zp3 (And.intro @Zr2 (And.intro @ZFR (And.intro @ZFS (And.intro @ZFT (And.intro @ZAk (And.intro @true_and (And.intro @and_true (And.intro @Zmt (And.intro @Zao (And.intro @ZaB (And.intro @Zbh (And.intro @ZaW (And.intro @ZfR (And.intro @Zfi (And.intro @ZbD (And.intro @Zb6 (And.intro @gtI_true (And.intro @Zek (And.intro @ZcW (And.intro @Zgo (And.intro @ZaU (And.intro @Za1 (And.intro @ZiC (And.intro @Zgp (And.intro @not_true (And.intro @not_false (And.intro @Bool.not_eq_true' (And.intro @Bool.not_eq_false' (And.intro @ZnR (And.intro @ZnS (And.intro @Zmv (And.intro @Zr0 (And.intro @Zkm (And.intro @Zkn (And.intro @Zlj (And.intro @ZiA (And.intro @Zlk (And.intro @ZAj (And.intro @Za6 (And.intro @Zp8 (And.intro @Zp9 (And.intro @Zn2 (And.intro @ZlR (And.intro @Zn3 (And.intro @ZlS (And.intro @Zkt (And.intro @Zi9 (And.intro @Zqa (And.intro @Zqb (And.intro @Zku (And.intro @ZlT (And.intro @Zkv (And.intro @Zn4 (And.intro @ZlU (And.intro @Zqc (And.intro @Zt6 (And.intro @Zja (And.intro @Zkw (And.intro @Zjb (@Int.toNat_natCast))))))))))))))))))))))))))))))))))))))))))))))))))))))))))))))))))))))))))))))))))
theorem EQA:type_of% (And.intro @Zi5 (And.intro @ZhZ (And.intro @Zh0 (And.intro @Zhi (And.intro @Zi6 (And.intro @Zh1 (And.intro @Zko (And.intro @Zga (And.intro @Zdl (And.intro @ZbM (And.intro @Zg5 (And.intro @Zd8 (And.intro @Zgb (And.intro @Zfj (And.intro @Zfk (And.intro @Zey (And.intro @ZdH (And.intro @Zdp (And.intro @Zhj (And.intro @Zgq (And.intro @Zhk (And.intro @Zgr (And.intro @Zgs (And.intro @ZfT (And.intro @ZlK (And.intro @Zg7 (And.intro @ZeT (And.intro @Zdm (And.intro @Zh2 (And.intro @ZeU (And.intro @Zel (And.intro @ZbZ (And.intro @Zcl (And.intro @eqT_LBox_false (And.intro @Zh3 (And.intro @Zez (And.intro @ZeA (And.intro @ZdZ (And.intro @Zfl (And.intro @Zhl (And.intro @Zi7 (And.intro @Zfm (And.intro @Zh4 (And.intro @Zhm (And.intro @Zh5 (And.intro @Zhn (And.intro @Zho (And.intro @Zgt (And.intro @Zkp (And.intro @Zgc (And.intro @Zea (And.intro @Zc4 (And.intro @Zcn (And.intro @Zeb (And.intro @Zec (And.intro @Zb7 (And.intro @Zh6 (And.intro @Zhp (And.intro @ZlL (And.intro @Zg8 (And.intro @Zkq (And.intro @Zi8 (And.intro @ZlM (And.intro @Zkr (And.intro @ZnX (And.intro @Zh8 (And.intro @ZlO (And.intro @Zks (And.intro @ZnY (And.intro @ZlP (And.intro @ZcO (And.intro @Zd0 (And.intro @Zd1 (And.intro @ZdJ (And.intro @Zfn (And.intro @ZeB (And.intro @Zhq (And.intro @Zgu (And.intro @Zhr (And.intro @Zgv (And.intro @Zgw (And.intro @ZfU (And.intro @Zhs (And.intro @Zgx (And.intro @ZcP (And.intro @ZbG (And.intro @Zkx (And.intro @Zjc (And.intro @Zao (And.intro @ZaB (And.intro @Zbh (And.intro @ZaW (And.intro @ZfR (And.intro @Zfi (And.intro @ZbD (And.intro @Zb6 (And.intro @gtI_true (And.intro @Zek (And.intro @ZcW (And.intro @Zgo (And.intro @ZaU (And.intro @Za1 (And.intro @ZiC (@Zgp)))))))))))))))))))))))))))))))))))))))))))))))))))))))))))))))))))))))))))))))))))))))))))))))))))))))):=And.intro @Zi5 (And.intro @ZhZ (And.intro @Zh0 (And.intro @Zhi (And.intro @Zi6 (And.intro @Zh1 (And.intro @Zko (And.intro @Zga (And.intro @Zdl (And.intro @ZbM (And.intro @Zg5 (And.intro @Zd8 (And.intro @Zgb (And.intro @Zfj (And.intro @Zfk (And.intro @Zey (And.intro @ZdH (And.intro @Zdp (And.intro @Zhj (And.intro @Zgq (And.intro @Zhk (And.intro @Zgr (And.intro @Zgs (And.intro @ZfT (And.intro @ZlK (And.intro @Zg7 (And.intro @ZeT (And.intro @Zdm (And.intro @Zh2 (And.intro @ZeU (And.intro @Zel (And.intro @ZbZ (And.intro @Zcl (And.intro @eqT_LBox_false (And.intro @Zh3 (And.intro @Zez (And.intro @ZeA (And.intro @ZdZ (And.intro @Zfl (And.intro @Zhl (And.intro @Zi7 (And.intro @Zfm (And.intro @Zh4 (And.intro @Zhm (And.intro @Zh5 (And.intro @Zhn (And.intro @Zho (And.intro @Zgt (And.intro @Zkp (And.intro @Zgc (And.intro @Zea (And.intro @Zc4 (And.intro @Zcn (And.intro @Zeb (And.intro @Zec (And.intro @Zb7 (And.intro @Zh6 (And.intro @Zhp (And.intro @ZlL (And.intro @Zg8 (And.intro @Zkq (And.intro @Zi8 (And.intro @ZlM (And.intro @Zkr (And.intro @ZnX (And.intro @Zh8 (And.intro @ZlO (And.intro @Zks (And.intro @ZnY (And.intro @ZlP (And.intro @ZcO (And.intro @Zd0 (And.intro @Zd1 (And.intro @ZdJ (And.intro @Zfn (And.intro @ZeB (And.intro @Zhq (And.intro @Zgu (And.intro @Zhr (And.intro @Zgv (And.intro @Zgw (And.intro @ZfU (And.intro @Zhs (And.intro @Zgx (And.intro @ZcP (And.intro @ZbG (And.intro @Zkx (And.intro @Zjc (And.intro @Zao (And.intro @ZaB (And.intro @Zbh (And.intro @ZaW (And.intro @ZfR (And.intro @Zfi (And.intro @ZbD (And.intro @Zb6 (And.intro @gtI_true (And.intro @Zek (And.intro @ZcW (And.intro @Zgo (And.intro @ZaU (And.intro @Za1 (And.intro @ZiC (@Zgp)))))))))))))))))))))))))))))))))))))))))))))))))))))))))))))))))))))))))))))))))))))))))))))))))))))))
end Go.Proofs.YtkompmgleojmlaaGreat
