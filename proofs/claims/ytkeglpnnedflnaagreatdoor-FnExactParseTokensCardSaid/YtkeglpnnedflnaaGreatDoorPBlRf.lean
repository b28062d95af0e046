import Derived.Test.YtkeglpnnedflnaaGreatDoorPBlRd
set_option linter.unusedSimpArgs false
set_option linter.unusedVariables false
set_option maxRecDepth 100000
set_option maxHeartbeats 4000000
namespace Go.Proofs.YtkeglpnnedflnaaGreatDoor
open Go.ChangeShapes Go.WideShapes Go.ChangeAt Go.RowKit Go.Joins Go.Deep
open GoRep (rep bulk)
def Zlo (k:Int):Bool:=eqI k 3 || eqI k 4
def ZBf (l:List GToken):Int:=wIx scW (tkT l).2
def ZI4 (l:List GToken):List GToken:=if Zlo (ZBf l)=true then ZdC (Zac 1 l) else Zac 1 l
def Zmx (l:List GToken):GScope:=(ZBf l,(if Zlo (ZBf l)=true then Ze8 (Zac 1 l) else []),(boI evW (Ze8 (ZI4 l)) 0).1)
def Zqq (l:List GToken):List GToken:=Zac 1 (ZdC (ZI4 l))
theorem ZHA {l:List GToken} (h:Zlo (ZBf l)=true):ZI4 l=ZdC (Zac 1 l):=if_pos h
theorem ZHB {l:List GToken} (h:Zlo (ZBf l)=false):ZI4 l=Zac 1 l:=if_neg (by rw [h]; decide)
theorem ZDc {l:List GToken} (h:Zlo (ZBf l)=true):Zmx l=(ZBf l,Ze8 (Zac 1 l),(boI evW (Ze8 (ZdC (Zac 1 l))) 0).1):=by
 unfold Zmx
 rw [ZHA h,if_pos h]
theorem ZDd {l:List GToken} (h:Zlo (ZBf l)=false):Zmx l=(ZBf l,[],(boI evW (Ze8 (Zac 1 l)) 0).1):=by
 unfold Zmx
 rw [ZHB h,if_neg (by rw [h]; decide)]
theorem ZHC {l:List GToken} (h:Zlo (ZBf l)=true):Zqq l=Zac 1 (ZdC (ZdC (Zac 1 l))):=by
 unfold Zqq
 rw [ZHA h]
theorem ZHD {l:List GToken} (h:Zlo (ZBf l)=false):Zqq l=Zac 1 (ZdC (Zac 1 l)):=by
 unfold Zqq
 rw [ZHB h]
theorem ZFN (l:List GToken):(ZI4 l).length≤l.length:=by
 unfold ZI4
 split
 ·exact Nat.le_trans (ZmN _) (by rw [ZbH]; omega)
 ·rw [ZbH]; omega
theorem Zr7 (l:List GToken):(Zqq l).length≤l.length:=by
 unfold Zqq
 rw [ZbH]
 have:=ZmN (ZI4 l)
 have:=ZFN l
 omega
def Za4 (x y:GToken):Bool:=eqI x.1 y.1 && (eqS x.2 y.2 || (eqI x.1 1 && eqS (upT x.2) (upT y.2)))
def ZI5:Nat→List GToken→List GScope
 | 0,_=>[]
 | n + 1,l=>if l.length=0 then [] else Zmx (Zac 1 l) :: ZI5 n (Zqq (Zac 1 l))
theorem Ztg:∀ {n m:Nat} {l:List GToken},l.length≤n→l.length≤m→ZI5 n l=ZI5 m l
 | 0,0,_,_,_=>rfl
 | 0,m + 1,l,h,_=>by
  unfold ZI5
  rw [if_pos (by omega)]
 | n + 1,0,l,_,h=>by
  unfold ZI5
  rw [if_pos (by omega)]
 | n + 1,m + 1,l,h1,h2=>by
  unfold ZI5
  split
  ·rfl
  ·have h3:=Zr7 (Zac 1 l)
   rw [ZbH] at h3
   rw [Ztg (n:=n) (m:=m) (by omega) (by omega)]
def ZDe (l:List GToken):List GScope:=ZI5 l.length l
theorem ZFO {l:List GToken} (h:l.length=0):ZDe l=[]:=by
 unfold ZDe
 rw [h]
 rfl
theorem ZnD {l:List GToken} (h:¬ l.length=0):ZDe l=Zmx (Zac 1 l) :: ZDe (Zqq (Zac 1 l)):=by
 have h3:=Zr7 (Zac 1 l)
 rw [ZbH] at h3
 obtain ⟨n,hn⟩:∃ n,l.length=n + 1:=⟨l.length - 1,by omega⟩
 unfold ZDe
 rw [hn]
 show (if l.length=0 then [] else _)=_
 rw [if_neg h,Ztg (n:=n) (m:=(Zqq (Zac 1 l)).length) (by omega) (Nat.le_refl _)]
def Zjx (l:List GToken):Bool:=eqS (upT (tkT l).2) (⟨#[83,69,84]⟩:ByteArray)
def rdF (l:List GToken):GFilter:=(Zjx l,if Zjx l=true then ZDe (Zac 1 l) else [])
def rdB (l:List GToken):Bool:=neI (List.length (ZbT (rdF l)):Int) 0 && Zb5 Za4 (ZbT (rdF l)) l
def rdI (l:List GToken):GFilter:=if rdB l=true then rdF l else (false,[])
theorem ZLx {a b:Bool}:leB (.box [.bool a, .row 3 0]) (.box [.bool b, .row 3 0])=(a=b):=by
 exact ZoT
def ZB6 (list:List GToken) (o:List GScope) (r:List GToken):Prop:=(if Zjx list=true then o ++ ZDe r=ZDe (Zac 1 list) else o=[])∧o.length + r.length≤list.length
section
variable {list:List GToken} {o:List GScope} {r:List GToken}
theorem ZRQ:∃ q:List GScope × List GToken,ZB6 list q.1 q.2∧Zac 1 list=q.2∧eqS (upT (tkT list).2) (⟨#[83,69,84]⟩:ByteArray)=Zjx list∧([]:List GScope)=q.1:=by
 refine ⟨([],Zac 1 list),⟨?_,?_⟩,rfl,rfl,rfl⟩
 ·split <;> rfl
 ·show 0 + (Zac 1 list).length≤_
  rw [ZbH]
  omega
theorem ZRR (hp:list.length≤1048576) (hi:ZB6 list o r):(Zac 1 r).length≤1048576:=by
 have:=hi.2
 rw [ZbH]
 omega
theorem ZRS (hp:list.length≤1048576) (hi:ZB6 list o r) {x:GScope}:o.length + [x].length≤rowMax:=by
 have:=hi.2
 exact Zh7
theorem ZRT (hi:ZB6 list o r) (ho:Zjx list=true) (hr:(0:Int) < ((r.length:Nat):Int)):∃ q:List GScope × List GToken,ZB6 list q.1 q.2∧q.2.length < r.length∧Zqq (Zac 1 r)=q.2∧o ++ [Zmx (Zac 1 r)]=q.1:=by
 have h1:=Zr7 (Zac 1 r)
 have h2:=hi.2
 have h3:=hi.1
 rw [ZbH] at h1
 rw [if_pos ho,ZnD (by omega)] at h3
 refine ⟨(o ++ [Zmx (Zac 1 r)],Zqq (Zac 1 r)),⟨?_,?_⟩,by show (Zqq (Zac 1 r)).length < _; omega,rfl,rfl⟩
 ·rw [if_pos ho,← h3]
  exact Zc8
 ·show (o ++ [Zmx (Zac 1 r)]).length + (Zqq (Zac 1 r)).length≤_
  rw [List.length_append,List.length_singleton]
  omega
theorem ZPK (hi:ZB6 list o r) (hr:Zjx list=true→¬ (0:Int) < ((r.length:Nat):Int)):(Zjx list,o)=rdF list:=by
 have h3:=hi.1
 unfold rdF
 by_cases ho:Zjx list=true
 ·have:=hr ho
  rw [if_pos ho,ZFO (show r.length=0 by omega),List.append_nil] at h3
  rw [if_pos ho,h3]
 ·rw [if_neg ho] at h3
  rw [if_neg ho,h3]
theorem ZnE (hi:ZB6 list o r) (ho:Zjx list=true) (hr:¬ (0:Int) < ((r.length:Nat):Int)):(Zjx list,o)=rdF list:=ZPK hi (fun _=>hr)
theorem ZnF (hi:ZB6 list o r) (ho:Zjx list=false):(Zjx list,o)=rdF list:=ZPK hi (fun h=>by rw [ho] at h; cases h)
theorem ZBg (e:(Zjx list,o)=rdF list) (h:(((ZbT (Zjx list,o)).length:Nat):Int)=0):rdB list=false:=by
 unfold rdB
 rw [← e,Zc6.2 h]
 rfl
theorem ZBh (e:(Zjx list,o)=rdF list) (h:Zb5 Za4 (ZbT (Zjx list,o)) list=false):rdB list=false:=by
 unfold rdB
 rw [← e,h,Bool.and_false]
theorem ZBi (e:(Zjx list,o)=rdF list) (h:¬ (((ZbT (Zjx list,o)).length:Nat):Int)=0) (h2:Zb5 Za4 (ZbT (Zjx list,o)) list=true):rdB list=true:=by
 unfold rdB
 rw [← e,h2,Zcz.2 h]
 rfl
theorem ZFP (h:rdB list=false):rdI list=(false,[]):=if_neg (by rw [h]; decide)
theorem ZMr (e:(Zjx list,o)=rdF list) (h:rdB list=true):rdI list=(Zjx list,o):=(if_pos h).trans e.symm
end
def Zx6 (k:List GToken):Prop:=pt (List.length (Zac 1 k)≤1048576∧((true=true∧leC (.hs .no Zab (Zac 1 k)) (.hs .no Zab (Zac 1 k)))∧True)∧True)
theorem ZnG (k:List GToken) (hpre:List.length k≤1048576):ZdE Tryz.prog 170 (Zdw 0 [(.b (.list Zab))] (k,())) (ZgX 0 [(.b (.list Zab))] (k,())) (ZdR 0 [(.b (.list Zab))] ((Zqq k),()) ++ [.row Zah (Zmx k).2.1 0 0 none]) (inpM 0 [(.b (.list Zab))]) (.ag [.int .i64 (Zmx k).1, .row 1 0, .int .i64 (Zmx k).2.2]):=by
 refine Zce (T:=⟨[ZiJ,Zln,Zhs,ZiK,Zqp],[Zbs],[],[Zc2,Zhu],none,fun _=>[],1,[],[]⟩) (L:=L0) Tryz.func170 rfl rfl rfl (by kernel_rfl) (fun hwf hwm=>?_)
 refine Eq.mpr (β:=T2 (pt (True∧((true=true∧leC (.hs .no Zab k) (.hs .no Zab k))∧True)∧True)∧T3 (pt True∧True∧((∀ z0:ByteArray,True∧True)∧∀ (_:ByteArray→Bool) (_:List ByteArray),true=true)∧T5 (pt True∧bif eqI (ZaM (fun z0:ByteArray=>eqS (upT z0) (upT (tkT k).2)) scW) 3 || eqI (ZaM (fun z0:ByteArray=>eqS (upT z0) (upT (tkT k).2)) scW) 4 then True∧Zx6 k∧T2 (pt True∧True∧pt (List.length (ZdC (Zac 1 k))≤1048576∧((true=true∧leC (.hs .no Zab (ZdC (Zac 1 k))) (.hs .no Zab (ZdC (Zac 1 k))))∧True)∧True)∧(True∧pt (true=true))∧T6 (pt (True∧((true=true∧leC (.hs .no Zab (ZdC (ZdC (Zac 1 k)))) (.hs .no Zab (ZdC (ZdC (Zac 1 k)))))∧True)∧True)∧T2 (pt ((((true=true∧leC (.hs .no Zab (Zac 1 (ZdC (ZdC (Zac 1 k))))) (.hs .no Zab (Zqq k)))∧True)∧True)∧(cI (ZaM (fun z0:ByteArray=>eqS (upT z0) (upT (tkT k).2)) scW) (Zmx k).1∧(Ze8 (Zac 1 k))=(Zmx k).2.1∧cI (boI evW (Ze8 (ZdC (Zac 1 k))) 0).1 (Zmx k).2.2∧True))))) else pt True∧True∧Zx6 k∧(True∧pt (true=true))∧T6 (pt (True∧((true=true∧leC (.hs .no Zab (ZdC (Zac 1 k))) (.hs .no Zab (ZdC (Zac 1 k))))∧True)∧True)∧T2 (pt ((((true=true∧leC (.hs .no Zab (Zac 1 (ZdC (Zac 1 k)))) (.hs .no Zab (Zqq k)))∧True)∧True)∧(cI (ZaM (fun z0:ByteArray=>eqS (upT z0) (upT (tkT k).2)) scW) (Zmx k).1∧(Zmx k).2.1=[]∧cI (boI evW (Ze8 (Zac 1 k)) 0).1 (Zmx k).2.2∧True)))))))) (by kernel_rfl) ?_
 unfold Zx6 T2 T3 T5 T6
 have hp:List.length k≤1048576:=hpre
 simp only [ZnA,Zd9,ZeS,Zdj,eq_self]
 repeat' (with_reducible first | exact trivial | apply And.intro | intro _)
 all_goals first
  | (with_reducible trivial)
  | omega
  | (with_reducible assumption)
  | exact (ZHC (by assumption)).symm
  | exact (ZHD (by assumption)).symm
  | exact rfl
  | exact (congrArg (fun z:GScope=>z.2.1) (ZDc (by assumption))).symm
  | exact (congrArg (fun z:GScope=>z.2.2) (ZDc (by assumption))).symm
  | exact congrArg (fun z:GScope=>z.2.1) (ZDd (by assumption))
  | exact (congrArg (fun z:GScope=>z.2.2) (ZDd (by assumption))).symm
  | (have h1:=ZbH 1 k; have h2:=ZmN (Zac 1 k); omega)
  | (have h1:=ZbH 1 k; have h2:=ZmN (Zac 1 k); have h3:=Zr6 (ZdC (Zac 1 k)); have h4:=Zr6 (Zac 1 k); omega)
def ZnH:Zct Tryz.prog:=⟨170,[(.b (.list Zab))],fun x=>List.length x.1≤1048576,fun x=>((Zqq x.1),()),fun x=>.ag [.int .i64 (Zmx x.1).1, .row 1 0, .int .i64 (Zmx x.1).2.2],fun x=>[.row Zah (Zmx x.1).2.1 0 0 none],fun x hx=>ZnG x.1 hx,Tryz.call170⟩
theorem Zmy (x:GToken) (y:GToken):Zaq Tryz.prog 118 [.ag [.int .i64 x.1, .str x.2], .ag [.int .i64 y.1, .str y.2]] (.c (.bool (Za4 x y))) []:=by
 refine bc0 [Zfx] [] [] [] L0 Tryz.func118 (fun hwf=>?_)
 refine Eq.mpr (β:=T3 (pt (true=true)∧T6 (bif eqI x.1 y.1 then T6 (bif eqS x.2 y.2 then T3 (rB true (Za4 x y)) else T4 (bif eqI x.1 1 then T4 (pt True∧pt True∧T5 (rB (eqS (upT x.2) (upT y.2)) (Za4 x y))) else T4 (rB false (Za4 x y)))) else T2 (rB false (Za4 x y))))) (by kernel_rfl) ?_
 simp only [SIA,eq_self]
 repeat' (first | apply And.intro | intro _)
 all_goals (first | trivial | (rw [Bool.eq_iff_iff]; simp_all [Prod.ext_iff,EQA,Za4]; done) | (simp_all [Prod.ext_iff,EQA,Za4]; done) | omega)
def Zmz:ZaD Tryz.prog:=⟨118,[.s Zab, .s Zab],fun x=>True,fun x=>.c (.bool (Za4 x.1 x.2.1)),fun _=>[],fun x hx=>Zmy x.1 x.2.1,Tryz.call118⟩
theorem ZpL (a:List GToken) (b:List GToken):Zaq Tryz.prog 47 [.c (.hs .no Zab a), .c (.hs .no Zab b)] (.c (.bool (Zb5 Za4 a b))) []:=by
 refine bc0 [Zmz] [] [Zb4] [] L0 Tryz.func47 (fun hwf=>?_)
 refine Eq.mpr (β:=T3 (((∀ z0 w0:GToken,True∧True)∧∀ (_:GToken→GToken→Bool) (_ _:List GToken),true=true)∧True∧rB (Zb5 (fun z0 w0:GToken=>Za4 z0 w0) a b) (Zb5 Za4 a b))) (by kernel_rfl) ?_
 exact Zpa
def ZiL:ZaD Tryz.prog:=⟨47,[.v (.list Zab), .v (.list Zab)],fun x=>True,fun x=>.c (.bool (Zb5 Za4 x.1 x.2.1)),fun _=>[],fun x hx=>ZpL x.1 x.2.1,Tryz.call47⟩
def ZpM (list:List GToken):Nat→List AV→Mem→Zbe
 | 3,tm,M=>⟨(List GScope) × (List GToken),fun y=>(Zcp (ZcG tm []) 16 19,ZgY M [(1, .box [.hs .no Zab y.2]),(2, .box [.bool (Zjx list), .row 3 0]),(3, .row Zae y.1 0 0 none)]),fun y=>(ZB6 list y.1 y.2),fun y=>(List.length y.2)⟩
 | _,_,_=>⟨Unit,fun _=>([],[]),fun _=>False,fun _=>0⟩
def Zjd (y0:(List GScope) × (List GToken)) (list:List GToken):Prop:=True∧(True∧y0.1.length + List.length ([(Zmx (Zac 1 y0.2))])≤rowMax)∧T2 (∃ y0' : (List GScope) × (List GToken),(ZB6 list y0'.1 y0'.2)∧y0'.2.length < y0.2.length∧lxs [hn Zab list, .tp [], .c (.bp 0 0), .c (.bool false), .c (.bp 1 0), .c (.bp 2 0), .tp [],hn Zab list, .ag [.hs .no Zab list], .c (.bp 1 0), .c (.bp 1 0), .ag [.int .i64 (tkT list).1, .str (tkT list).2], .c (.str (tkT list).2), .c (.str (upT (tkT list).2)), .c (.bool (eqS (upT (tkT list).2) (⟨#[83,69,84]⟩:ByteArray))), .ag [.bool (eqS (upT (tkT list).2) (⟨#[83,69,84]⟩:ByteArray)), .raw (.slice none 0 0)]] (TN 19 (tpn 13 True))∧pt (lb (.box [.bool false, .raw (.slice none 0 0)])∧leB (.box [.hs .no Zab (Zqq (Zac 1 y0.2))]) (.box [.hs .no Zab y0'.2])∧lb (.box [.bool (Zjx list), .row 3 0])∧leB (.row Zae (y0.1 ++ [(Zmx (Zac 1 y0.2))]) 0 0 none) (.row Zae y0'.1 0 0 none)∧True))
def Zx7 (list:List GToken):Prop:=T3 (pt (((cB false (rdI list).1∧(rdI list).2=[]∧True)∧cB false (rdB list)∧True)))
def Zx8 (list:List GToken) (y0:(List GScope) × (List GToken)):Prop:=True∧(True∧pt (true=true))∧T5 (bif eqI (List.length (ZbT ((Zjx list),y0.1))) 0 then True∧Zx7 list else T2 ((True∧pt (true=true))∧T2 (bif !(Zb5 Za4 (ZbT ((Zjx list),y0.1)) list) then Zx7 list else T3 (pt (((cB (Zjx list) (rdI list).1∧y0.1=(rdI list).2∧True)∧cB true (rdB list)∧True))))))
def Zr8 (y0:(List GScope) × (List GToken)):Prop:=pt (List.length (Zac 1 y0.2)≤1048576∧((true=true∧leC (.hs .no Zab (Zac 1 y0.2)) (.hs .no Zab (Zac 1 y0.2)))∧True)∧True)
theorem ZpN (list:List GToken) (hpre:List.length list≤1048576):Zaq Tryz.prog 114 [.c (.hs .no Zab list)] (.tp [.ag [.bool (rdI list).1, .row 0 0], .c (.bool (rdB list))]) [.row Zae (rdI list).2 0 0 none]:=by
 refine Zfc (T:=⟨[Zfx,ZgU,ZiL],[],[],[Zc2,ZnH],none,fun i=>match i with | 3=>[⟨some 2,1,Zae⟩] | _=>[],0,[],[]⟩) (L:=(ZpM list)) Tryz.func114 ⟨⟨rfl,rfl⟩,rfl⟩ (fun hwf=>?_)
 refine Eq.mpr (β:=T7 (pt (True∧((true=true∧leC (.hs .no Zab list) (.hs .no Zab list))∧True)∧True)∧True∧pt True∧T4 ((∃ q:(List GScope) × (List GToken),(ZB6 list q.1 q.2)∧lxs [hn Zab list, .tp [], .c (.bp 0 0), .c (.bool false), .c (.bp 1 0), .c (.bp 2 0), .tp [],hn Zab list, .ag [.hs .no Zab list], .c (.bp 1 0), .c (.bp 1 0), .ag [.int .i64 (tkT list).1, .str (tkT list).2], .c (.str (tkT list).2), .c (.str (upT (tkT list).2)), .c (.bool (eqS (upT (tkT list).2) (⟨#[83,69,84]⟩:ByteArray))), .ag [.bool (eqS (upT (tkT list).2) (⟨#[83,69,84]⟩:ByteArray)), .raw (.slice none 0 0)]] (TN 19 (tpn 13 True))∧pt (lb (.box [.bool false, .raw (.slice none 0 0)])∧leB (.box [.hs .no Zab (Zac 1 list)]) (.box [.hs .no Zab q.2])∧leB (.box [.bool (eqS (upT (tkT list).2) (⟨#[83,69,84]⟩:ByteArray)), .row 3 0]) (.box [.bool (Zjx list), .row 3 0])∧leB (.row Zae ([]:List GScope) 0 0 none) (.row Zae q.1 0 0 none)∧True))∧∀ y0:(List GScope) × (List GToken),(ZB6 list y0.1 y0.2)→T3 (bif Zjx list then T7 (bif gtI y0.2.length 0 then True∧pt (True∧((true=true∧leC (.hs .no Zab y0.2) (.hs .no Zab y0.2))∧True)∧True)∧pt (true=true)∧True∧(True∧(True∧Zr8 y0∧Zjd y0 list)∧(Zr8 y0∧(True∧Zjd y0 list)∧(True∧Zjd y0 list)))∧(Zr8 y0∧(True∧(True∧Zjd y0 list)∧(True∧Zjd y0 list))∧(T2 (Zjd y0 list))) else Zx8 list y0) else True∧Zx8 list y0)))) (by kernel_rfl) ?_
 unfold Zr8 Zx8 Zx7 Zjd T2 T3 T4 T5 T7
 have hp:List.length list≤1048576:=hpre
 simp only [ZLx,ZnA,Zd9,ZeS,Zdj,eq_self]
 repeat' (with_reducible first | exact trivial | apply And.intro | intro _)
 all_goals first
  | (with_reducible trivial)
  | omega
  | (with_reducible assumption)
  | exact ZRQ
  | exact ZRR hp (by with_reducible assumption)
  | exact ZRS hp (by with_reducible assumption)
  | exact ZRT (by with_reducible assumption) (by with_reducible assumption) (by with_reducible assumption)
  | exact (ZBg (ZnE (by with_reducible assumption) (by with_reducible assumption) (by with_reducible assumption)) (by with_reducible assumption)).symm
  | exact (congrArg Prod.fst (ZFP (ZBg (ZnE (by with_reducible assumption) (by with_reducible assumption) (by with_reducible assumption)) (by with_reducible assumption)))).symm
  | exact congrArg Prod.snd (ZFP (ZBg (ZnE (by with_reducible assumption) (by with_reducible assumption) (by with_reducible assumption)) (by with_reducible assumption)))
  | exact (ZBh (ZnE (by with_reducible assumption) (by with_reducible assumption) (by with_reducible assumption)) (by with_reducible assumption)).symm
  | exact (congrArg Prod.fst (ZFP (ZBh (ZnE (by with_reducible assumption) (by with_reducible assumption) (by with_reducible assumption)) (by with_reducible assumption)))).symm
  | exact congrArg Prod.snd (ZFP (ZBh (ZnE (by with_reducible assumption) (by with_reducible assumption) (by with_reducible assumption)) (by with_reducible assumption)))
  | exact (ZBg (ZnF (by with_reducible assumption) (by with_reducible assumption)) (by with_reducible assumption)).symm
  | exact (congrArg Prod.fst (ZFP (ZBg (ZnF (by with_reducible assumption) (by with_reducible assumption)) (by with_reducible assumption)))).symm
  | exact congrArg Prod.snd (ZFP (ZBg (ZnF (by with_reducible assumption) (by with_reducible assumption)) (by with_reducible assumption)))
  | exact (ZBh (ZnF (by with_reducible assumption) (by with_reducible assumption)) (by with_reducible assumption)).symm
  | exact (congrArg Prod.fst (ZFP (ZBh (ZnF (by with_reducible assumption) (by with_reducible assumption)) (by with_reducible assumption)))).symm
  | exact congrArg Prod.snd (ZFP (ZBh (ZnF (by with_reducible assumption) (by with_reducible assumption)) (by with_reducible assumption)))
  | exact (ZBi (ZnE (by with_reducible assumption) (by with_reducible assumption) (by with_reducible assumption)) (by with_reducible assumption) (by with_reducible assumption)).symm
  | exact (congrArg Prod.fst (ZMr (ZnE (by with_reducible assumption) (by with_reducible assumption) (by with_reducible assumption)) (ZBi (ZnE (by with_reducible assumption) (by with_reducible assumption) (by with_reducible assumption)) (by with_reducible assumption) (by with_reducible assumption)))).symm
  | exact (congrArg Prod.snd (ZMr (ZnE (by with_reducible assumption) (by with_reducible assumption) (by with_reducible assumption)) (ZBi (ZnE (by with_reducible assumption) (by with_reducible assumption) (by with_reducible assumption)) (by with_reducible assumption) (by with_reducible assumption)))).symm
  | exact (ZBi (ZnF (by with_reducible assumption) (by with_reducible assumption)) (by with_reducible assumption) (by with_reducible assumption)).symm
  | exact (congrArg Prod.fst (ZMr (ZnF (by with_reducible assumption) (by with_reducible assumption)) (ZBi (ZnF (by with_reducible assumption) (by with_reducible assumption)) (by with_reducible assumption) (by with_reducible assumption)))).symm
  | exact (congrArg Prod.snd (ZMr (ZnF (by with_reducible assumption) (by with_reducible assumption)) (ZBi (ZnF (by with_reducible assumption) (by with_reducible assumption)) (by with_reducible assumption) (by with_reducible assumption)))).symm
def ZpO:ZaD Tryz.prog:=⟨114,[.v (.list Zab)],fun x=>List.length x.1≤1048576,fun x=>.tp [.ag [.bool (rdI x.1).1, .row 0 0], .c (.bool (rdB x.1))],fun x=>[.row Zae (rdI x.1).2 0 0 none],fun x hx=>ZpN x.1 hx,Tryz.call114⟩
end Go.Proofs.YtkeglpnnedflnaaGreatDoor
