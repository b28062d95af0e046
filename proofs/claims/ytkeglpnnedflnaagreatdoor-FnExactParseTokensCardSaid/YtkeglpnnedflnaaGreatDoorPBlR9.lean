import Derived.Test.YtkeglpnnedflnaaGreatDoorPBlR8
set_option linter.unusedSimpArgs false
set_option linter.unusedVariables false
set_option maxRecDepth 100000
set_option maxHeartbeats 4000000
namespace Go.Proofs.YtkeglpnnedflnaaGreatDoor
open Go.ChangeShapes Go.WideShapes Go.ChangeAt Go.RowKit Go.Joins Go.Deep
open GoRep (rep bulk)
theorem ZIX {a b:Bool}:leB (.box [.bool a, .row 3 0]) (.box [.bool b, .row 3 0])=(a=b):=by
 exact ZoT
theorem ZLc {a b c d:Int}:leB (.box [.int .i64 a, .row 5 0, .int .i64 c]) (.box [.int .i64 b, .row 5 0, .int .i64 d])=(a=b∧c=d):=by
 refine propext ⟨fun h=>?_,fun h=>?_⟩
 ·have h:=ZtX h
  injection h with h
  injection h with h1 h
  injection h with _ h
  injection h with h2 _
  injection h1 with _ h1
  injection h2 with _ h2
  exact ⟨h1,h2⟩
 ·obtain ⟨h1,h2⟩:=h
  cases h1
  cases h2
  exact Zh9
def kd6 (w:ByteArray):Nat→Int
 | 0=>0
 | n + 1=>if eqS (upT (Zaa scW (n + 1))) w=true then ((n + 1:Nat):Int) else kd6 w n
theorem ZN9 {w:ByteArray} {j:Nat} (h:upT (Zaa scW (j + 1))=w):((j + 1:Nat):Int)=kd6 w (j + 1):=(if_pos (Zav.2 h)).symm
theorem ZOa {w:ByteArray} {j:Nat} (h:¬ upT (Zaa scW (j + 1))=w):kd6 w j=kd6 w (j + 1):=(if_neg (by rw [Zbc.2 h]; decide)).symm
def wd6 (r:GL6In):ByteArray:=upT (ZaA (Zal r 3) 1)
def rb6 (r:GL6In):GL6In:=Zal (Zal r 3) 1
def nm6 (r:GL6In):List ByteArray:=if 3≤kd6 (wd6 r) 4 then Zeg (rb6 r) else []
def rc6 (r:GL6In):GL6In:=if 3≤kd6 (wd6 r) 4 then ZbK (rb6 r) else rb6 r
def bi6 (r:GL6In):Int × Bool:=bt6 (Zeg (rc6 r)) (-1) 0
def re6 (r:GL6In):GL6In:=Zal (ZbK (rc6 r)) 4
def sc6 (r:GL6In):GScope:=(kd6 (wd6 r) 4,nm6 r,(bi6 r).1)
def sr6 (r:GL6In):GL6In:=((re6 r).1,(re6 r).2.1,(re6 r).2.2 || !(bi6 r).2)
theorem ZCZ {r:GL6In} (h:ok6 r):ok6 (rb6 r):=ZcI 1 (ZcI 3 h)
theorem ZHj {r:GL6In} (h:ok6 r):ok6 (rc6 r):=by
 unfold rc6
 split
 ·exact Zqk (ZCZ h)
 ·exact ZCZ h
theorem ZLd {r:GL6In} (h:ok6 r):ok6 (re6 r):=ZcI 4 (Zqk (ZHj h))
theorem Zzj {r:GL6In} (h:ok6 r):ok6 (sr6 r):=ZLd h
def go6 (r:GL6In):Bool:=ltI r.2.1 ((r.1.length:Nat):Int) && !r.2.2
def ms6 (r:GL6In):Nat:=2 * (((r.1.length:Nat):Int) - r.2.1).toNat + (if r.2.2=true then 0 else 1)
def rl6:Nat→GL6In→List GScope × GL6In
 | 0,r=>([],r)
 | n + 1,r=>if go6 r=true then (sc6 r :: (rl6 n (sr6 r)).1,(rl6 n (sr6 r)).2) else ([],r)
theorem ZlW (r:GL6In) (k:Int):(Zal r k).1=r.1∧r.2.1≤(Zal r k).2.1∧(r.2.1 < (Zal r k).2.1∨(Zal r k).2.2=true)∧(r.2.2=true→(Zal r k).2.2=true):=by
 unfold Zal
 split
 ·exact ⟨rfl,by show r.2.1≤r.2.1 + 1; omega, .inl (by show r.2.1 < r.2.1 + 1; omega),fun h=>h⟩
 ·exact ⟨rfl,Int.le_refl _, .inr rfl,fun _=>rfl⟩
theorem ZHk {r:GL6In}:(ZbK r).1=r.1∧r.2.1≤(ZbK r).2.1∧(r.2.2=true→(ZbK r).2.2=true):=by
 have h1:=ZlW r 3
 have h2:=ZlW (am6 r (atN (ag6 r))) 4
 unfold ZbK
 refine ⟨h2.1.trans h1.1,?_,fun h=>h2.2.2.2 (h1.2.2.2 h)⟩
 have h3:(am6 r (atN (ag6 r))).2.1=(Zal r 3).2.1 + ((atN (ag6 r):Nat):Int):=rfl
 omega
theorem Zzk {r:GL6In}:(sr6 r).1=r.1∧r.2.1≤(sr6 r).2.1∧(r.2.1 < (sr6 r).2.1∨(sr6 r).2.2=true):=by
 have h1:=ZlW r 3
 have h2:=ZlW (Zal r 3) 1
 have h3:(rc6 r).1=(rb6 r).1∧(rb6 r).2.1≤(rc6 r).2.1∧((rb6 r).2.2=true→(rc6 r).2.2=true):=by
  unfold rc6
  split
  ·exact ZHk
  ·exact ⟨rfl,Int.le_refl _,fun h=>h⟩
 have h4:=ZHk (r:=rc6 r)
 have h5:=ZlW (ZbK (rc6 r)) 4
 have e2:rb6 r=Zal (Zal r 3) 1:=rfl
 have e5:re6 r=Zal (ZbK (rc6 r)) 4:=rfl
 rw [← e2] at h2
 rw [← e5] at h5
 refine ⟨h5.1.trans (h4.1.trans (h3.1.trans (h2.1.trans h1.1))),?_,?_⟩
 ·show r.2.1≤(re6 r).2.1
  omega
 ·rcases h1.2.2.1 with h | h
  ·left
   show r.2.1 < (re6 r).2.1
   omega
  ·right
   show ((re6 r).2.2 || _)=true
   rw [h5.2.2.2 (h4.2.2 (h3.2.2 (h2.2.2.2 h))),Bool.true_or]
theorem Zql {r:GL6In} (ho:ok6 r) (h:go6 r=true):ms6 (sr6 r) < ms6 r:=by
 obtain ⟨h1,h2,h3⟩:=Zzk (r:=r)
 have h4:=(Zzj ho).1
 rw [h1] at h4
 unfold go6 at h
 rw [Bool.and_eq_true,Bool.not_eq_true'] at h
 unfold ms6
 rw [h1,h.2]
 have h5:(if (sr6 r).2.2=true then 0 else 1)≤1:=by split <;> decide
 rcases h3 with h3 | h3
 ·have:2 * (((r.1.length:Nat):Int) - (sr6 r).2.1).toNat + 1≤2 * (((r.1.length:Nat):Int) - r.2.1).toNat:=by omega
  exact Nat.lt_of_le_of_lt (Nat.add_le_add_left h5 _) (Nat.lt_of_le_of_lt this (Nat.lt_succ_self _))
 ·rw [h3]
  have:2 * (((r.1.length:Nat):Int) - (sr6 r).2.1).toNat≤2 * (((r.1.length:Nat):Int) - r.2.1).toNat:=by omega
  exact Nat.lt_succ_of_le this
theorem Zzl:∀ {n m:Nat} {r:GL6In},ok6 r→ms6 r≤n→ms6 r≤m→rl6 n r=rl6 m r
 | 0,0,_,_,_,_=>rfl
 | 0,m + 1,r,ho,h,_=>by
  unfold rl6
  rw [if_neg fun hg=>by have:=Zql ho hg; omega]
 | n + 1,0,r,ho,_,h=>by
  unfold rl6
  rw [if_neg fun hg=>by have:=Zql ho hg; omega]
 | n + 1,m + 1,r,ho,h1,h2=>by
  unfold rl6
  split
  ·rename_i hg
   have:=Zql ho hg
   rw [Zzl (n:=n) (m:=m) (Zzj ho) (by omega) (by omega)]
  ·rfl
def rs6 (r:GL6In):List GScope × GL6In:=rl6 (ms6 r) r
theorem Zzm {r:GL6In} (h:go6 r=false):rs6 r=([],r):=by
 unfold rs6
 cases ms6 r with
 | zero=>rfl
 | succ n =>
  unfold rl6
  rw [if_neg (by rw [h]; decide)]
theorem ZC0 {r:GL6In} (ho:ok6 r) (h:go6 r=true):rs6 r=(sc6 r :: (rs6 (sr6 r)).1,(rs6 (sr6 r)).2):=by
 have hl:=Zql ho h
 obtain ⟨n,hn⟩:∃ n,ms6 r=n + 1:=⟨ms6 r - 1,by omega⟩
 unfold rs6
 rw [hn]
 show (if go6 r=true then _ else _)=_
 rw [if_pos h,Zzl (n:=n) (m:=ms6 (sr6 r)) (Zzj ho) (by omega) (Nat.le_refl _)]
def r60 (l:List GToken):GL6In:=Zal (l,0,false) 1
def w60 (l:List GToken):ByteArray:=upT (ZaA (l,0,false) 1)
def on6 (l:List GToken):Bool:=eqS (w60 l) (⟨#[83,69,84]⟩:ByteArray)
def ZsS (l:List GToken):List GScope × GL6In:=if on6 l=true then rs6 (r60 l) else ([],r60 l)
def f6 (l:List GToken):GFilter:=(on6 l,(ZsS l).1)
def Zjw (l:List GToken):Bool:=(on6 l || eqS (w60 l) (⟨#[78,79,78,69]⟩:ByteArray)) && (!(ZsS l).2.2.2 && (!ltI (ZsS l).2.2.1 ((l.length:Nat):Int) && Zar (f6 l)))
def rdS (l:List GToken):GFilter:=if Zjw l=true then f6 l else (false,[])
def rsI (l:List GToken) (o:List GScope) (r:GL6In):Prop:=(ok6 r∧(r.1=l∧o.length + (((l.length:Nat):Int) - r.2.1).toNat≤l.length + (if r.2.2=true then 1 else 0)))∧(if on6 l=true then (o ++ (rs6 r).1,(rs6 r).2)=rs6 (r60 l) else o=[]∧r=r60 l)
section
variable {l:List GToken} {o:List GScope} {r:GL6In} {j:Nat} {w:ByteArray} {b:Bool}
theorem ZLe (hp:l.length≤1048576):ok6 (l,0,false):=⟨⟨Int.le_refl _,Int.natCast_nonneg _⟩,hp⟩
theorem ZLf (hi:rsI l o r):ok6 r:=hi.1.1
theorem ZOb (h:¬ upT (ZaA (l,0,false) 1)=(⟨#[83,69,84]⟩:ByteArray)):on6 l=false:=Zbc.2 h
theorem ZOc (h:¬ upT (ZaA (l,0,false) 1)=(⟨#[83,69,84]⟩:ByteArray)) (h2:¬ upT (ZaA (l,0,false) 1)=(⟨#[78,79,78,69]⟩:ByteArray)):Zjw l=false:=by
 have h3:eqS (w60 l) (⟨#[78,79,78,69]⟩:ByteArray)=false:=Zbc.2 h2
 unfold Zjw
 rw [ZOb h,h3]
 rfl
theorem ZpD (h:Zjw l=false):rdS l=(false,[]):=if_neg (by rw [h]; decide)
theorem q_0 (hp:l.length≤1048576):∃ q:List GScope × GL6In,rsI l q.1 q.2∧((Zal (l,0,false) 1).1,(Zal (l,0,false) 1).2.1,(Zal (l,0,false) 1).2.2)=(q.2.1,q.2.2.1,q.2.2.2)∧eqS (upT (ZaA (l,0,false) 1)) (⟨#[83,69,84]⟩:ByteArray)=on6 l∧([]:List GScope)=q.1:=by
 refine ⟨([],r60 l),⟨⟨ZcI 1 (ZLe hp),(ZlW _ 1).1,?_⟩,?_⟩,rfl,rfl,rfl⟩
 ·have h:(0:Int)≤(r60 l).2.1:=(ZlW (l,0,false) 1).2.1
  refine Nat.le_trans ?_ (Nat.le_add_right _ _)
  show 0 + (((l.length:Nat):Int) - (r60 l).2.1).toNat≤l.length
  omega
 ·split
  ·rfl
  ·exact ⟨rfl,rfl⟩
theorem ZRj (hi:rsI l o r) (h1:r.2.1 < ((l.length:Nat):Int)) (h2:r.2.2=false):go6 r=true:=by
 unfold go6
 rw [hi.1.2.1,ZbN.2 h1,h2]
 rfl
theorem ZRk (h:((j + 1:Nat):Int)≤4):((j + 1:Nat):Int) < ((scW.length:Nat):Int):=by
 have:scW.length=5:=rfl
 omega
theorem ZRl:∃ q:Nat,q≤4∧(1:Int)=((q + 1:Nat):Int)∧(0:Int)=kd6 w q:=⟨0,Nat.zero_le _,rfl,rfl⟩
theorem q_y (hc:((j + 1:Nat):Int)≤4) (h:upT (Zaa scW (j + 1))=w):∃ y,y≤4∧4 - y < 4 - j∧IntKind.i64.wrap (((j + 1:Nat):Int) + 1)=((y + 1:Nat):Int)∧((j + 1:Nat):Int)=kd6 w y:=⟨j + 1,by omega,by omega,Zbm (by unfold maxLen; omega),ZN9 h⟩
theorem q_n (hc:((j + 1:Nat):Int)≤4) (h:¬ upT (Zaa scW (j + 1))=w):∃ y,y≤4∧4 - y < 4 - j∧IntKind.i64.wrap (((j + 1:Nat):Int) + 1)=((y + 1:Nat):Int)∧kd6 w j=kd6 w y:=⟨j + 1,by omega,by omega,Zbm (by unfold maxLen; omega),ZOa h⟩
theorem q_m (hp:l.length≤1048576) (hi:rsI l o r) {x:GScope}:o.length + [x].length≤rowMax:=by
 have h:=hi.1.2.2
 have h5:(if r.2.2=true then 1 else 0)≤1:=by split <;> decide
 show o.length + 1≤rowMax
 unfold rowMax
 omega
theorem ZRm (hi:rsI l o r) (hg:go6 r=true) (hn:on6 l=true):rsI l (o ++ [sc6 r]) (sr6 r)∧ms6 (sr6 r) < ms6 r:=by
 have hg':=hg
 unfold go6 at hg'
 rw [Bool.and_eq_true,Bool.not_eq_true'] at hg'
 obtain ⟨⟨h1,h2,h3⟩,h4⟩:=hi
 obtain ⟨m1,m2,m3⟩:=Zzk (r:=r)
 have ho:=Zzj h1
 refine ⟨⟨⟨ho,m1.trans h2,?_⟩,?_⟩,Zql h1 hg⟩
 ·rw [hg'.2] at h3
  have h3:o.length + (((l.length:Nat):Int) - r.2.1).toNat≤l.length + 0:=h3
  have h6:=ho.1.2
  rw [m1,h2] at h6
  rw [List.length_append]
  show o.length + 1 + _≤_
  rcases m3 with m3 | m3
  ·refine Nat.le_trans ?_ (Nat.le_add_right _ _)
   omega
  ·rw [if_pos m3]
   omega
 ·rw [if_pos hn] at h4 ⊢
  rw [ZC0 h1 hg] at h4
  rw [List.append_assoc]
  exact h4
theorem ZRn (hi:rsI l o r) (h1:r.2.1 < ((l.length:Nat):Int)) (h2:r.2.2=false) (hn:on6 l=true) (hj:j≤4) (hj2:¬ ((j + 1:Nat):Int)≤4) (hk:3≤kd6 (upT (ZaA (Zal r 3) 1)) j) (he:(Zal (ZbK (ZbK (Zal (Zal r 3) 1))) 4).2.2=b):∃ q:List GScope × GL6In,rsI l q.1 q.2∧ms6 q.2 < ms6 r∧((Zal (ZbK (ZbK (Zal (Zal r 3) 1))) 4).1,(Zal (ZbK (ZbK (Zal (Zal r 3) 1))) 4).2.1,b || !(bt6 (Zeg (ZbK (Zal (Zal r 3) 1))) (-1) 0).2)=(q.2.1,q.2.2.1,q.2.2.2)∧o ++ [(kd6 (upT (ZaA (Zal r 3) 1)) j,Zeg (Zal (Zal r 3) 1),(bt6 (Zeg (ZbK (Zal (Zal r 3) 1))) (-1) 0).1)]=q.1:=by
 obtain rfl:j=4:=by omega
 have e1:rc6 r=ZbK (Zal (Zal r 3) 1):=if_pos hk
 have e2:nm6 r=Zeg (Zal (Zal r 3) 1):=if_pos hk
 exact Zu6
theorem ZRo (hi:rsI l o r) (h1:r.2.1 < ((l.length:Nat):Int)) (h2:r.2.2=false) (hn:on6 l=true) (hj:j≤4) (hj2:¬ ((j + 1:Nat):Int)≤4) (hk:¬ 3≤kd6 (upT (ZaA (Zal r 3) 1)) j) (he:(Zal (ZbK (Zal (Zal r 3) 1)) 4).2.2=b):∃ q:List GScope × GL6In,rsI l q.1 q.2∧ms6 q.2 < ms6 r∧((Zal (ZbK (Zal (Zal r 3) 1)) 4).1,(Zal (ZbK (Zal (Zal r 3) 1)) 4).2.1,b || !(bt6 (Zeg (Zal (Zal r 3) 1)) (-1) 0).2)=(q.2.1,q.2.2.1,q.2.2.2)∧o ++ [(kd6 (upT (ZaA (Zal r 3) 1)) j,[],(bt6 (Zeg (Zal (Zal r 3) 1)) (-1) 0).1)]=q.1:=by
 obtain rfl:j=4:=by omega
 have e1:rc6 r=Zal (Zal r 3) 1:=if_neg hk
 have e2:nm6 r=[]:=if_neg hk
 exact Zu6
theorem q_e (hi:rsI l o r) (h:on6 l=true→go6 r=false):(o,r)=ZsS l:=by
 have h4:=hi.2
 unfold ZsS
 split
 ·rename_i hn
  rw [if_pos hn,Zzm (h hn),List.append_nil] at h4
  exact h4
 ·rename_i hn
  rw [if_neg hn] at h4
  rw [h4.1,h4.2]
theorem ZxU (hi:rsI l o r) (h:¬ r.2.1 < ((l.length:Nat):Int)):(o,r)=ZsS l:=q_e hi fun _=>by
 unfold go6
 rw [hi.1.2.1,Zbz.2 h]
 rfl
theorem ZFF (hi:rsI l o r) (h:r.2.2=true):(o,r)=ZsS l:=q_e hi fun _=>by
 unfold go6
 rw [h]
 exact Bool.and_false _
theorem ZxV (hi:rsI l o r) (h:on6 l=false):(o,r)=ZsS l:=q_e hi fun hn=>by rw [h] at hn; cases hn
theorem ZFG (e:(o,r)=ZsS l) (h:r.2.2=true):Zjw l=false:=by
 unfold Zjw
 rw [← e,h]
 exact Bool.and_false _
theorem ZFH (e:(o,r)=ZsS l) (h:r.2.1 < ((l.length:Nat):Int)):Zjw l=false:=by
 unfold Zjw
 rw [← e,ZbN.2 h]
 show (_ && (_ && false))=false
 rw [Bool.and_false,Bool.and_false]
theorem ZFI (e:(o,r)=ZsS l) (h:Zar (on6 l,o)=false):Zjw l=false:=by
 have h:Zar (f6 l)=false:=by
  unfold f6
  rw [← e]
  exact h
 unfold Zjw
 rw [h,Bool.and_false,Bool.and_false,Bool.and_false]
theorem ZJQ (h:upT (ZaA (l,0,false) 1)=(⟨#[83,69,84]⟩:ByteArray)):(on6 l || eqS (w60 l) (⟨#[78,79,78,69]⟩:ByteArray))=true:=by
 have:on6 l=true:=Zav.2 h
 rw [this]
 rfl
theorem ZJR (h:upT (ZaA (l,0,false) 1)=(⟨#[78,79,78,69]⟩:ByteArray)):(on6 l || eqS (w60 l) (⟨#[78,79,78,69]⟩:ByteArray))=true:=by
 have:eqS (w60 l) (⟨#[78,79,78,69]⟩:ByteArray)=true:=Zav.2 h
 rw [this]
 exact Bool.or_true _
theorem q_t (e:(o,r)=ZsS l) (hw:(on6 l || eqS (w60 l) (⟨#[78,79,78,69]⟩:ByteArray))=true) (h1:r.2.2=false) (h2:¬ r.2.1 < ((l.length:Nat):Int)) (h3:Zar (on6 l,o)=true):Zjw l=true∧rdS l=(on6 l,o):=by
 have hf:f6 l=(on6 l,o):=by
  unfold f6
  rw [← e]
 have ho:Zjw l=true:=by
  unfold Zjw
  rw [hw,hf,h3,← e,h1,Zbz.2 h2]
  rfl
 exact ⟨ho,(if_pos ho).trans hf⟩
end
attribute [local irreducible] Zal ZbK ZaA Zeg bt6 kd6 ZsS ms6 rs6 sr6 on6 Zjw rdS Zar rsI go6 ok6 upT
def ZpE (list:List GToken):Nat→List AV→Mem→Zbe
 | 6,tm,M=>⟨(List GScope) × GL6In,fun y=>(Zcp (Zcp (ZcG tm []) 7 5) 28 70,ZgY M [(1, .box [.hs .no Zab y.2.1, .int .i64 y.2.2.1, .bool y.2.2.2]),(2, .box [.bool (on6 list), .row 3 0]),(3, .row Zae y.1 0 0 none)]),fun y=>(rsI list y.1 y.2),fun y=>(ms6 y.2)⟩
 | 11,tm,M=>⟨Nat,fun y=>(Zcp (ZcG tm [(9, .c (.int .i64 ((y + 1:Nat):Int)))]) 52 13,ZgY M [(4, .box [.int .i64 (kd6 (tmS tm 8) y), .row 5 0, .int .i64 0]),(5, .row Zah ([]:List ByteArray) 0 0 none)]),fun y=>(y≤4),fun y=>(4 - y)⟩
 | _,_,_=>⟨Unit,fun _=>([],[]),fun _=>False,fun _=>0⟩
def Znr (list:List GToken):Prop:=T3 (pt (((cB false (rdS list).1∧(rdS list).2=[]∧True)∧cB false (Zjw list)∧True)))
def Zjc (y0:(List GScope) × GL6In) (list:List GToken):Prop:=T5 (bif y0.2.2.2 then T3 (Znr list) else T9 (bif ltI y0.2.2.1 list.length then True∧Znr list else True∧(True∧pt (true=true))∧T2 (bif !(Zar ((on6 list),y0.1)) then Znr list else T3 (pt (((cB (on6 list) (rdS list).1∧y0.1=(rdS list).2∧True)∧cB true (Zjw list)∧True))))))
def Zdg (list:List GToken):List AC:=[.bool (eqS (upT (ZaA (list,(0,false)) 1)) (⟨#[83,69,84]⟩:ByteArray)), .raw (.slice none 0 0)]
def Zcx (list:List GToken):List AC:=[.hs .no Zab list, .int .i64 0, .bool false]
def ZxW (y1:Nat) (y1' : Nat) (list:List GToken) (y0:(List GScope) × GL6In):Prop:=vI (w64 (((y1 + 1:Nat):Int) + 1)) ((y1' + 1:Nat):Int)∧True∧True∧lxs [hn Zab list, .ag (Zcx list), .c (.bp 1 0), .c (.bp 1 0), .c (.str (ZaA (list,0,false) 1)), .c (.str (upT (ZaA (list,0,false) 1))), .c (.str (upT (ZaA (list,0,false) 1))), .c (.bool (eqS (upT (ZaA (list,0,false) 1)) (⟨#[83,69,84]⟩:ByteArray))), .ag (Zdg list), .c (.str (upT (ZaA (list,0,false) 1))), .c (.bool (!eqS (upT (ZaA (list,0,false) 1)) (⟨#[83,69,84]⟩:ByteArray))), .c (.bool true), .c (.str (upT (ZaA (list,0,false) 1))), .c (.bool (!eqS (upT (ZaA (list,0,false) 1)) (⟨#[78,79,78,69]⟩:ByteArray))), .c (.bool false), .tp [], .c (.bp 1 0), .c (.bp 1 0), .c (.bp 1 1),ci y0.2.2.1,hn Zab list,ci list.length, .c (.bool (ltI y0.2.2.1 list.length)), .c (.bool true), .c (.bp 1 0), .c (.bp 1 0), .c (.bp 1 2), .c (.bool y0.2.2.2), .c (.bool (!y0.2.2.2)), .c (.bool (!y0.2.2.2)), .c (.bool true), .c (.bp 2 0), .c (.bool (on6 list)), .c (.bool true), .ag [.int .i64 0, .raw (.slice none 0 0), .int .i64 0], .c (.bp 1 0), .c (.str (ZaA y0.2 3)), .c (.bp 1 0), .c (.str (ZaA (Zal y0.2 3) 1)), .c (.str (upT (ZaA (Zal y0.2 3) 1)))] (TN 46 (tpn 20 True))
def ZxX (y1:Nat) (y1' : Nat) (list:List GToken) (y0:(List GScope) × GL6In):Prop:=vI (w64 (((y1 + 1:Nat):Int) + 1)) ((y1' + 1:Nat):Int)∧True∧True∧lxs [hn Zab list, .ag (Zcx list), .c (.bp 1 0), .c (.bp 1 0), .c (.str (ZaA (list,0,false) 1)), .c (.str (upT (ZaA (list,0,false) 1))), .c (.str (upT (ZaA (list,0,false) 1))), .c (.bool (eqS (upT (ZaA (list,0,false) 1)) (⟨#[83,69,84]⟩:ByteArray))), .ag (Zdg list), .c (.str (upT (ZaA (list,0,false) 1))), .c (.bool (!eqS (upT (ZaA (list,0,false) 1)) (⟨#[83,69,84]⟩:ByteArray))), .c (.bool false), .tp [], .tp [], .c (.bool false), .tp [], .c (.bp 1 0), .c (.bp 1 0), .c (.bp 1 1),ci y0.2.2.1,hn Zab list,ci list.length, .c (.bool (ltI y0.2.2.1 list.length)), .c (.bool true), .c (.bp 1 0), .c (.bp 1 0), .c (.bp 1 2), .c (.bool y0.2.2.2), .c (.bool (!y0.2.2.2)), .c (.bool (!y0.2.2.2)), .c (.bool true), .c (.bp 2 0), .c (.bool (on6 list)), .c (.bool true), .ag [.int .i64 0, .raw (.slice none 0 0), .int .i64 0], .c (.bp 1 0), .c (.str (ZaA y0.2 3)), .c (.bp 1 0), .c (.str (ZaA (Zal y0.2 3) 1)), .c (.str (upT (ZaA (Zal y0.2 3) 1)))] (TN 46 (tpn 20 True))
def Zns (y0:(List GScope) × GL6In):Prop:=pt (ok6 (ZbK (Zal (Zal y0.2 3) 1))∧((true=true∧leC (.hs .no Zab (ZbK (Zal (Zal y0.2 3) 1)).1) (.hs .no Zab (ZbK (Zal (Zal y0.2 3) 1)).1))∧cI (ZbK (Zal (Zal y0.2 3) 1)).2.1 (ZbK (Zal (Zal y0.2 3) 1)).2.1∧cB (ZbK (Zal (Zal y0.2 3) 1)).2.2 (ZbK (Zal (Zal y0.2 3) 1)).2.2∧True)∧True)
def Znt (y0:(List GScope) × GL6In):Prop:=pt (ok6 (Zal (Zal y0.2 3) 1)∧((true=true∧leC (.hs .no Zab (Zal (Zal y0.2 3) 1).1) (.hs .no Zab (Zal (Zal y0.2 3) 1).1))∧cI (Zal (Zal y0.2 3) 1).2.1 (Zal (Zal y0.2 3) 1).2.1∧cB (Zal (Zal y0.2 3) 1).2.2 (Zal (Zal y0.2 3) 1).2.2∧True)∧True)
def ZxY (y0:(List GScope) × GL6In) (y0' : (List GScope) × GL6In) (list:List GToken) (y1:Nat):Prop:=lb (.box [.bool false, .raw (.slice none 0 0)])∧leB (.box [.hs .no Zab (Zal (ZbK (ZbK (Zal (Zal y0.2 3) 1))) 4).1, .int .i64 (Zal (ZbK (ZbK (Zal (Zal y0.2 3) 1))) 4).2.1, .bool (!(bt6 (Zeg (ZbK (Zal (Zal y0.2 3) 1))) (-1) 0).2)]) (.box [.hs .no Zab y0'.2.1, .int .i64 y0'.2.2.1, .bool y0'.2.2.2])∧lb (.box [.bool (on6 list), .row 3 0])∧leB (.row Zae (y0.1 ++ [((kd6 (upT (ZaA (Zal y0.2 3) 1)) y1),(Zeg (Zal (Zal y0.2 3) 1)),(bt6 (Zeg (ZbK (Zal (Zal y0.2 3) 1))) (-1) 0).1)]) 0 0 none) (.row Zae y0'.1 0 0 none)∧True
def ZxZ (y0:(List GScope) × GL6In) (y0' : (List GScope) × GL6In) (list:List GToken) (y1:Nat):Prop:=lb (.box [.bool false, .raw (.slice none 0 0)])∧leB (.box [.hs .no Zab (Zal (ZbK (Zal (Zal y0.2 3) 1)) 4).1, .int .i64 (Zal (ZbK (Zal (Zal y0.2 3) 1)) 4).2.1, .bool (!(bt6 (Zeg (Zal (Zal y0.2 3) 1)) (-1) 0).2)]) (.box [.hs .no Zab y0'.2.1, .int .i64 y0'.2.2.1, .bool y0'.2.2.2])∧lb (.box [.bool (on6 list), .row 3 0])∧leB (.row Zae (y0.1 ++ [((kd6 (upT (ZaA (Zal y0.2 3) 1)) y1),([]:List ByteArray),(bt6 (Zeg (Zal (Zal y0.2 3) 1)) (-1) 0).1)]) 0 0 none) (.row Zae y0'.1 0 0 none)∧True
def Zx0 (y0:(List GScope) × GL6In) (y0' : (List GScope) × GL6In) (list:List GToken) (y1:Nat):Prop:=lb (.box [.bool false, .raw (.slice none 0 0)])∧leB (.box [.hs .no Zab (Zal (ZbK (ZbK (Zal (Zal y0.2 3) 1))) 4).1, .int .i64 (Zal (ZbK (ZbK (Zal (Zal y0.2 3) 1))) 4).2.1, .bool true]) (.box [.hs .no Zab y0'.2.1, .int .i64 y0'.2.2.1, .bool y0'.2.2.2])∧lb (.box [.bool (on6 list), .row 3 0])∧leB (.row Zae (y0.1 ++ [((kd6 (upT (ZaA (Zal y0.2 3) 1)) y1),(Zeg (Zal (Zal y0.2 3) 1)),(bt6 (Zeg (ZbK (Zal (Zal y0.2 3) 1))) (-1) 0).1)]) 0 0 none) (.row Zae y0'.1 0 0 none)∧True
def ZjX (y0:(List GScope) × GL6In) (y1:Nat):Prop:=True∧y0.1.length + List.length ([((kd6 (upT (ZaA (Zal y0.2 3) 1)) y1),(Zeg (Zal (Zal y0.2 3) 1)),(bt6 (Zeg (ZbK (Zal (Zal y0.2 3) 1))) (-1) 0).1)])≤rowMax
def ZmM (y0:(List GScope) × GL6In):List AC:=[.hs .no Zab (Zal (Zal y0.2 3) 1).1, .int .i64 (Zal (Zal y0.2 3) 1).2.1, .bool (Zal (Zal y0.2 3) 1).2.2]
def ZrW (y0:(List GScope) × GL6In) (y0' : (List GScope) × GL6In) (list:List GToken) (y1:Nat):Prop:=lb (.box [.bool false, .raw (.slice none 0 0)])∧leB (.box [.hs .no Zab (Zal (ZbK (Zal (Zal y0.2 3) 1)) 4).1, .int .i64 (Zal (ZbK (Zal (Zal y0.2 3) 1)) 4).2.1, .bool true]) (.box [.hs .no Zab y0'.2.1, .int .i64 y0'.2.2.1, .bool y0'.2.2.2])∧lb (.box [.bool (on6 list), .row 3 0])∧leB (.row Zae (y0.1 ++ [((kd6 (upT (ZaA (Zal y0.2 3) 1)) y1),([]:List ByteArray),(bt6 (Zeg (Zal (Zal y0.2 3) 1)) (-1) 0).1)]) 0 0 none) (.row Zae y0'.1 0 0 none)∧True
def ZrX (list:List GToken) (q:(List GScope) × GL6In):Prop:=lb (.box [.bool false, .raw (.slice none 0 0)])∧leB (.box [.hs .no Zab (Zal (list,0,false) 1).1, .int .i64 (Zal (list,0,false) 1).2.1, .bool (Zal (list,0,false) 1).2.2]) (.box [.hs .no Zab q.2.1, .int .i64 q.2.2.1, .bool q.2.2.2])∧leB (.box [.bool (eqS (upT (ZaA (list,0,false) 1)) (⟨#[83,69,84]⟩:ByteArray)), .row 3 0]) (.box [.bool (on6 list), .row 3 0])∧leB (.row Zae ([]:List GScope) 0 0 none) (.row Zae q.1 0 0 none)∧True
def ZrY (y0:(List GScope) × GL6In):Prop:=pt (ok6 (ZbK (ZbK (Zal (Zal y0.2 3) 1)))∧((true=true∧leC (.hs .no Zab (ZbK (ZbK (Zal (Zal y0.2 3) 1))).1) (.hs .no Zab (ZbK (ZbK (Zal (Zal y0.2 3) 1))).1))∧cI (ZbK (ZbK (Zal (Zal y0.2 3) 1))).2.1 (ZbK (ZbK (Zal (Zal y0.2 3) 1))).2.1∧cB (ZbK (ZbK (Zal (Zal y0.2 3) 1))).2.2 (ZbK (ZbK (Zal (Zal y0.2 3) 1))).2.2∧True)∧True)
def ZjY (y0:(List GScope) × GL6In) (y1:Nat):Prop:=True∧y0.1.length + List.length ([((kd6 (upT (ZaA (Zal y0.2 3) 1)) y1),([]:List ByteArray),(bt6 (Zeg (Zal (Zal y0.2 3) 1)) (-1) 0).1)])≤rowMax
def ZrZ (y0:(List GScope) × GL6In) (list:List GToken) (y1:Nat) (y1' : Nat):Prop:=lb (.box [.bool false, .raw (.slice none 0 0)])∧lb (.box (ZmM y0))∧lb (.box [.bool (on6 list), .row 3 0])∧lb (.row Zae y0.1 0 0 none)∧leB (.box [.int .i64 (kd6 (upT (ZaA (Zal y0.2 3) 1)) y1), .row 5 0, .int .i64 0]) (.box [.int .i64 (kd6 (upT (ZaA (Zal y0.2 3) 1)) y1'), .row 5 0, .int .i64 0])∧lb (.row Zah ([]:List ByteArray) 0 0 none)∧True
def Zr0 (y0:(List GScope) × GL6In) (list:List GToken) (y1:Nat) (y1' : Nat):Prop:=lb (.box [.bool false, .raw (.slice none 0 0)])∧lb (.box (ZmM y0))∧lb (.box [.bool (on6 list), .row 3 0])∧lb (.row Zae y0.1 0 0 none)∧leB (.box [.int .i64 ((y1 + 1:Nat):Int), .row 5 0, .int .i64 0]) (.box [.int .i64 (kd6 (upT (ZaA (Zal y0.2 3) 1)) y1'), .row 5 0, .int .i64 0])∧lb (.row Zah ([]:List ByteArray) 0 0 none)∧True
def Zr1 (y0:(List GScope) × GL6In) (list:List GToken) (q:Nat):Prop:=lb (.box [.bool false, .raw (.slice none 0 0)])∧lb (.box (ZmM y0))∧lb (.box [.bool (on6 list), .row 3 0])∧lb (.row Zae y0.1 0 0 none)∧leB (.box [.int .i64 0, .row 5 0, .int .i64 0]) (.box [.int .i64 (kd6 (upT (ZaA (Zal y0.2 3) 1)) q), .row 5 0, .int .i64 0])∧lb (.row Zah ([]:List ByteArray) 0 0 none)∧True
def Zr2 (y0:(List GScope) × GL6In):Prop:=pt (ok6 (Zal y0.2 3)∧((true=true∧leC (.hs .no Zab (Zal y0.2 3).1) (.hs .no Zab (Zal y0.2 3).1))∧cI (Zal y0.2 3).2.1 (Zal y0.2 3).2.1∧cB (Zal y0.2 3).2.2 (Zal y0.2 3).2.2∧True)∧True)
def Zr3 (y0:(List GScope) × GL6In):Prop:=pt (ok6 y0.2∧((true=true∧leC (.hs .no Zab y0.2.1) (.hs .no Zab y0.2.1))∧cI y0.2.2.1 y0.2.2.1∧cB y0.2.2.2 y0.2.2.2∧True)∧True)
theorem ZpF (list:List GToken) (hpre:List.length list≤1048576):Zaq Tryz.prog 122 [.c (.hs .no Zab list)] (.tp [.ag [.bool (rdS list).1, .row 0 0], .c (.bool (Zjw list))]) [.row Zae (rdS list).2 0 0 none]:=by
 refine Zfc (T:=⟨[Zk2,ZwK,ZA9,ZlT],[],[],[Zih,Znq],none,fun i=>match i with | 6=>[⟨some 2,1,Zae⟩] | 11=>[⟨some 4,1,Zah⟩] | _=>[],0,[],[]⟩) (L:=(ZpE list)) Tryz.func122 ⟨⟨rfl,rfl⟩,rfl⟩ (fun hwf=>?_)
 refine Eq.mpr (β:=T7 (pt (ok6 (list,0,false)∧((true=true∧leC (.hs .no Zab list) (.hs .no Zab list))∧cI 0 0∧cB false false∧True)∧True)∧pt True∧T9 (bif !eqS (upT (ZaA (list,0,false) 1)) (⟨#[83,69,84]⟩:ByteArray) then T3 (bif !eqS (upT (ZaA (list,0,false) 1)) (⟨#[78,79,78,69]⟩:ByteArray) then Znr list else (∃ q:(List GScope) × GL6In,(rsI list q.1 q.2)∧lxs [hn Zab list, .tp [], .c (.bp 0 0), .c (.bool false), .c (.bp 1 0), .c (.str (upT (ZaA (list,0,false) 1))), .c (.bp 2 0)] (TN 5 (lxs [hn Zab list, .ag (Zcx list), .c (.bp 1 0), .c (.bp 1 0), .c (.str (ZaA (list,0,false) 1)), .c (.str (upT (ZaA (list,0,false) 1))), .c (.str (upT (ZaA (list,0,false) 1))), .c (.bool (eqS (upT (ZaA (list,0,false) 1)) (⟨#[83,69,84]⟩:ByteArray))), .ag (Zdg list), .c (.str (upT (ZaA (list,0,false) 1))), .c (.bool (!eqS (upT (ZaA (list,0,false) 1)) (⟨#[83,69,84]⟩:ByteArray))), .c (.bool true), .c (.str (upT (ZaA (list,0,false) 1))), .c (.bool (!eqS (upT (ZaA (list,0,false) 1)) (⟨#[78,79,78,69]⟩:ByteArray))), .c (.bool false), .tp []] (TN 70 (tpn 20 True))))∧pt (ZrX list q))∧∀ y0:(List GScope) × GL6In,(rsI list y0.1 y0.2)→T8 (bif ltI y0.2.2.1 list.length then T7 (bif !y0.2.2.2 then T3 (bif on6 list then T4 (Zr3 y0∧True∧Zr2 y0∧pt True∧T2 ((∃ q:Nat,(q≤4)∧lxs [hn Zab list, .tp [], .c (.bp 0 0), .c (.bool false), .c (.bp 1 0), .c (.str (upT (ZaA (list,0,false) 1))), .c (.bp 2 0), .c (.bp 4 0), .c (.str (upT (ZaA (Zal y0.2 3) 1)))] (vI 1 ((q + 1:Nat):Int)∧True∧True∧lxs [hn Zab list, .ag (Zcx list), .c (.bp 1 0), .c (.bp 1 0), .c (.str (ZaA (list,0,false) 1)), .c (.str (upT (ZaA (list,0,false) 1))), .c (.str (upT (ZaA (list,0,false) 1))), .c (.bool (eqS (upT (ZaA (list,0,false) 1)) (⟨#[83,69,84]⟩:ByteArray))), .ag (Zdg list), .c (.str (upT (ZaA (list,0,false) 1))), .c (.bool (!eqS (upT (ZaA (list,0,false) 1)) (⟨#[83,69,84]⟩:ByteArray))), .c (.bool true), .c (.str (upT (ZaA (list,0,false) 1))), .c (.bool (!eqS (upT (ZaA (list,0,false) 1)) (⟨#[78,79,78,69]⟩:ByteArray))), .c (.bool false), .tp [], .c (.bp 1 0), .c (.bp 1 0), .c (.bp 1 1),ci y0.2.2.1,hn Zab list,ci list.length, .c (.bool (ltI y0.2.2.1 list.length)), .c (.bool true), .c (.bp 1 0), .c (.bp 1 0), .c (.bp 1 2), .c (.bool y0.2.2.2), .c (.bool (!y0.2.2.2)), .c (.bool (!y0.2.2.2)), .c (.bool true), .c (.bp 2 0), .c (.bool (on6 list)), .c (.bool true), .ag [.int .i64 0, .raw (.slice none 0 0), .int .i64 0], .c (.bp 1 0), .c (.str (ZaA y0.2 3)), .c (.bp 1 0), .c (.str (ZaA (Zal y0.2 3) 1)), .c (.str (upT (ZaA (Zal y0.2 3) 1)))] (TN 46 (tpn 20 True)))∧pt (Zr1 y0 list q))∧∀ y1:Nat,(y1≤4)→T2 (bif leI ((y1 + 1:Nat):Int) 4 then pt True∧True∧ix 1 (y1 + 1) scW.length∧True∧pt True∧T2 (bif eqS (upT (Zaa scW (y1 + 1))) (upT (ZaA (Zal y0.2 3) 1)) then T6 (∃ y1' : Nat,(y1'≤4)∧(4 - y1') < (4 - y1)∧lxs [hn Zab list, .tp [], .c (.bp 0 0), .c (.bool false), .c (.bp 1 0), .c (.str (upT (ZaA (list,0,false) 1))), .c (.bp 2 0), .c (.bp 4 0), .c (.str (upT (ZaA (Zal y0.2 3) 1)))] (ZxW y1 y1' list y0)∧pt (Zr0 y0 list y1 y1')) else T3 (∃ y1' : Nat,(y1'≤4)∧(4 - y1') < (4 - y1)∧lxs [hn Zab list, .tp [], .c (.bp 0 0), .c (.bool false), .c (.bp 1 0), .c (.str (upT (ZaA (list,0,false) 1))), .c (.bp 2 0), .c (.bp 4 0), .c (.str (upT (ZaA (Zal y0.2 3) 1)))] (ZxW y1 y1' list y0)∧pt (ZrZ y0 list y1 y1'))) else T3 (bif geI (kd6 (upT (ZaA (Zal y0.2 3) 1)) y1) 3 then True∧Znt y0∧T3 (Zns y0∧(True∧pt (true=true))∧T9 (ZrY y0∧T6 (bif (Zal (ZbK (ZbK (Zal (Zal y0.2 3) 1))) 4).2.2 then T8 (ZjX y0 y1∧T2 (∃ y0' : (List GScope) × GL6In,(rsI list y0'.1 y0'.2)∧(ms6 y0'.2) < (ms6 y0.2)∧lxs [hn Zab list, .tp [], .c (.bp 0 0), .c (.bool false), .c (.bp 1 0), .c (.str (upT (ZaA (list,0,false) 1))), .c (.bp 2 0)] (TN 5 (lxs [hn Zab list, .ag (Zcx list), .c (.bp 1 0), .c (.bp 1 0), .c (.str (ZaA (list,0,false) 1)), .c (.str (upT (ZaA (list,0,false) 1))), .c (.str (upT (ZaA (list,0,false) 1))), .c (.bool (eqS (upT (ZaA (list,0,false) 1)) (⟨#[83,69,84]⟩:ByteArray))), .ag (Zdg list), .c (.str (upT (ZaA (list,0,false) 1))), .c (.bool (!eqS (upT (ZaA (list,0,false) 1)) (⟨#[83,69,84]⟩:ByteArray))), .c (.bool true), .c (.str (upT (ZaA (list,0,false) 1))), .c (.bool (!eqS (upT (ZaA (list,0,false) 1)) (⟨#[78,79,78,69]⟩:ByteArray))), .c (.bool false), .tp []] (TN 70 (tpn 20 True))))∧pt (Zx0 y0 y0' list y1))) else T10 (ZjX y0 y1∧T2 (∃ y0' : (List GScope) × GL6In,(rsI list y0'.1 y0'.2)∧(ms6 y0'.2) < (ms6 y0.2)∧lxs [hn Zab list, .tp [], .c (.bp 0 0), .c (.bool false), .c (.bp 1 0), .c (.str (upT (ZaA (list,0,false) 1))), .c (.bp 2 0)] (TN 5 (lxs [hn Zab list, .ag (Zcx list), .c (.bp 1 0), .c (.bp 1 0), .c (.str (ZaA (list,0,false) 1)), .c (.str (upT (ZaA (list,0,false) 1))), .c (.str (upT (ZaA (list,0,false) 1))), .c (.bool (eqS (upT (ZaA (list,0,false) 1)) (⟨#[83,69,84]⟩:ByteArray))), .ag (Zdg list), .c (.str (upT (ZaA (list,0,false) 1))), .c (.bool (!eqS (upT (ZaA (list,0,false) 1)) (⟨#[83,69,84]⟩:ByteArray))), .c (.bool true), .c (.str (upT (ZaA (list,0,false) 1))), .c (.bool (!eqS (upT (ZaA (list,0,false) 1)) (⟨#[78,79,78,69]⟩:ByteArray))), .c (.bool false), .tp []] (TN 70 (tpn 20 True))))∧pt (ZxY y0 y0' list y1)))))) else True∧Znt y0∧(True∧pt (true=true))∧T9 (Zns y0∧T6 (bif (Zal (ZbK (Zal (Zal y0.2 3) 1)) 4).2.2 then T8 (ZjY y0 y1∧T2 (∃ y0' : (List GScope) × GL6In,(rsI list y0'.1 y0'.2)∧(ms6 y0'.2) < (ms6 y0.2)∧lxs [hn Zab list, .tp [], .c (.bp 0 0), .c (.bool false), .c (.bp 1 0), .c (.str (upT (ZaA (list,0,false) 1))), .c (.bp 2 0)] (TN 5 (lxs [hn Zab list, .ag (Zcx list), .c (.bp 1 0), .c (.bp 1 0), .c (.str (ZaA (list,0,false) 1)), .c (.str (upT (ZaA (list,0,false) 1))), .c (.str (upT (ZaA (list,0,false) 1))), .c (.bool (eqS (upT (ZaA (list,0,false) 1)) (⟨#[83,69,84]⟩:ByteArray))), .ag (Zdg list), .c (.str (upT (ZaA (list,0,false) 1))), .c (.bool (!eqS (upT (ZaA (list,0,false) 1)) (⟨#[83,69,84]⟩:ByteArray))), .c (.bool true), .c (.str (upT (ZaA (list,0,false) 1))), .c (.bool (!eqS (upT (ZaA (list,0,false) 1)) (⟨#[78,79,78,69]⟩:ByteArray))), .c (.bool false), .tp []] (TN 70 (tpn 20 True))))∧pt (ZrW y0 y0' list y1))) else T10 (ZjY y0 y1∧T2 (∃ y0' : (List GScope) × GL6In,(rsI list y0'.1 y0'.2)∧(ms6 y0'.2) < (ms6 y0.2)∧lxs [hn Zab list, .tp [], .c (.bp 0 0), .c (.bool false), .c (.bp 1 0), .c (.str (upT (ZaA (list,0,false) 1))), .c (.bp 2 0)] (TN 5 (lxs [hn Zab list, .ag (Zcx list), .c (.bp 1 0), .c (.bp 1 0), .c (.str (ZaA (list,0,false) 1)), .c (.str (upT (ZaA (list,0,false) 1))), .c (.str (upT (ZaA (list,0,false) 1))), .c (.bool (eqS (upT (ZaA (list,0,false) 1)) (⟨#[83,69,84]⟩:ByteArray))), .ag (Zdg list), .c (.str (upT (ZaA (list,0,false) 1))), .c (.bool (!eqS (upT (ZaA (list,0,false) 1)) (⟨#[83,69,84]⟩:ByteArray))), .c (.bool true), .c (.str (upT (ZaA (list,0,false) 1))), .c (.bool (!eqS (upT (ZaA (list,0,false) 1)) (⟨#[78,79,78,69]⟩:ByteArray))), .c (.bool false), .tp []] (TN 70 (tpn 20 True))))∧pt (ZxZ y0 y0' list y1))))))))) else Zjc y0 list) else True∧Zjc y0 list) else T3 (Zjc y0 list))) else True∧(∃ q:(List GScope) × GL6In,(rsI list q.1 q.2)∧lxs [hn Zab list, .tp [], .c (.bp 0 0), .c (.bool false), .c (.bp 1 0), .c (.str (upT (ZaA (list,0,false) 1))), .c (.bp 2 0)] (TN 5 (lxs [hn Zab list, .ag (Zcx list), .c (.bp 1 0), .c (.bp 1 0), .c (.str (ZaA (list,0,false) 1)), .c (.str (upT (ZaA (list,0,false) 1))), .c (.str (upT (ZaA (list,0,false) 1))), .c (.bool (eqS (upT (ZaA (list,0,false) 1)) (⟨#[83,69,84]⟩:ByteArray))), .ag (Zdg list), .c (.str (upT (ZaA (list,0,false) 1))), .c (.bool (!eqS (upT (ZaA (list,0,false) 1)) (⟨#[83,69,84]⟩:ByteArray))), .c (.bool false), .tp [], .tp [], .c (.bool false), .tp []] (TN 70 (tpn 20 True))))∧pt (ZrX list q))∧∀ y0:(List GScope) × GL6In,(rsI list y0.1 y0.2)→T8 (bif ltI y0.2.2.1 list.length then T7 (bif !y0.2.2.2 then T3 (bif on6 list then T4 (Zr3 y0∧True∧Zr2 y0∧pt True∧T2 ((∃ q:Nat,(q≤4)∧lxs [hn Zab list, .tp [], .c (.bp 0 0), .c (.bool false), .c (.bp 1 0), .c (.str (upT (ZaA (list,0,false) 1))), .c (.bp 2 0), .c (.bp 4 0), .c (.str (upT (ZaA (Zal y0.2 3) 1)))] (vI 1 ((q + 1:Nat):Int)∧True∧True∧lxs [hn Zab list, .ag (Zcx list), .c (.bp 1 0), .c (.bp 1 0), .c (.str (ZaA (list,0,false) 1)), .c (.str (upT (ZaA (list,0,false) 1))), .c (.str (upT (ZaA (list,0,false) 1))), .c (.bool (eqS (upT (ZaA (list,0,false) 1)) (⟨#[83,69,84]⟩:ByteArray))), .ag (Zdg list), .c (.str (upT (ZaA (list,0,false) 1))), .c (.bool (!eqS (upT (ZaA (list,0,false) 1)) (⟨#[83,69,84]⟩:ByteArray))), .c (.bool false), .tp [], .tp [], .c (.bool false), .tp [], .c (.bp 1 0), .c (.bp 1 0), .c (.bp 1 1),ci y0.2.2.1,hn Zab list,ci list.length, .c (.bool (ltI y0.2.2.1 list.length)), .c (.bool true), .c (.bp 1 0), .c (.bp 1 0), .c (.bp 1 2), .c (.bool y0.2.2.2), .c (.bool (!y0.2.2.2)), .c (.bool (!y0.2.2.2)), .c (.bool true), .c (.bp 2 0), .c (.bool (on6 list)), .c (.bool true), .ag [.int .i64 0, .raw (.slice none 0 0), .int .i64 0], .c (.bp 1 0), .c (.str (ZaA y0.2 3)), .c (.bp 1 0), .c (.str (ZaA (Zal y0.2 3) 1)), .c (.str (upT (ZaA (Zal y0.2 3) 1)))] (TN 46 (tpn 20 True)))∧pt (Zr1 y0 list q))∧∀ y1:Nat,(y1≤4)→T2 (bif leI ((y1 + 1:Nat):Int) 4 then pt True∧True∧ix 1 (y1 + 1) scW.length∧True∧pt True∧T2 (bif eqS (upT (Zaa scW (y1 + 1))) (upT (ZaA (Zal y0.2 3) 1)) then T6 (∃ y1' : Nat,(y1'≤4)∧(4 - y1') < (4 - y1)∧lxs [hn Zab list, .tp [], .c (.bp 0 0), .c (.bool false), .c (.bp 1 0), .c (.str (upT (ZaA (list,0,false) 1))), .c (.bp 2 0), .c (.bp 4 0), .c (.str (upT (ZaA (Zal y0.2 3) 1)))] (ZxX y1 y1' list y0)∧pt (Zr0 y0 list y1 y1')) else T3 (∃ y1' : Nat,(y1'≤4)∧(4 - y1') < (4 - y1)∧lxs [hn Zab list, .tp [], .c (.bp 0 0), .c (.bool false), .c (.bp 1 0), .c (.str (upT (ZaA (list,0,false) 1))), .c (.bp 2 0), .c (.bp 4 0), .c (.str (upT (ZaA (Zal y0.2 3) 1)))] (ZxX y1 y1' list y0)∧pt (ZrZ y0 list y1 y1'))) else T3 (bif geI (kd6 (upT (ZaA (Zal y0.2 3) 1)) y1) 3 then True∧Znt y0∧T3 (Zns y0∧(True∧pt (true=true))∧T9 (ZrY y0∧T6 (bif (Zal (ZbK (ZbK (Zal (Zal y0.2 3) 1))) 4).2.2 then T8 (ZjX y0 y1∧T2 (∃ y0' : (List GScope) × GL6In,(rsI list y0'.1 y0'.2)∧(ms6 y0'.2) < (ms6 y0.2)∧lxs [hn Zab list, .tp [], .c (.bp 0 0), .c (.bool false), .c (.bp 1 0), .c (.str (upT (ZaA (list,0,false) 1))), .c (.bp 2 0)] (TN 5 (lxs [hn Zab list, .ag (Zcx list), .c (.bp 1 0), .c (.bp 1 0), .c (.str (ZaA (list,0,false) 1)), .c (.str (upT (ZaA (list,0,false) 1))), .c (.str (upT (ZaA (list,0,false) 1))), .c (.bool (eqS (upT (ZaA (list,0,false) 1)) (⟨#[83,69,84]⟩:ByteArray))), .ag (Zdg list), .c (.str (upT (ZaA (list,0,false) 1))), .c (.bool (!eqS (upT (ZaA (list,0,false) 1)) (⟨#[83,69,84]⟩:ByteArray))), .c (.bool false), .tp [], .tp [], .c (.bool false), .tp []] (TN 70 (tpn 20 True))))∧pt (Zx0 y0 y0' list y1))) else T10 (ZjX y0 y1∧T2 (∃ y0' : (List GScope) × GL6In,(rsI list y0'.1 y0'.2)∧(ms6 y0'.2) < (ms6 y0.2)∧lxs [hn Zab list, .tp [], .c (.bp 0 0), .c (.bool false), .c (.bp 1 0), .c (.str (upT (ZaA (list,0,false) 1))), .c (.bp 2 0)] (TN 5 (lxs [hn Zab list, .ag (Zcx list), .c (.bp 1 0), .c (.bp 1 0), .c (.str (ZaA (list,0,false) 1)), .c (.str (upT (ZaA (list,0,false) 1))), .c (.str (upT (ZaA (list,0,false) 1))), .c (.bool (eqS (upT (ZaA (list,0,false) 1)) (⟨#[83,69,84]⟩:ByteArray))), .ag (Zdg list), .c (.str (upT (ZaA (list,0,false) 1))), .c (.bool (!eqS (upT (ZaA (list,0,false) 1)) (⟨#[83,69,84]⟩:ByteArray))), .c (.bool false), .tp [], .tp [], .c (.bool false), .tp []] (TN 70 (tpn 20 True))))∧pt (ZxY y0 y0' list y1)))))) else True∧Znt y0∧(True∧pt (true=true))∧T9 (Zns y0∧T6 (bif (Zal (ZbK (Zal (Zal y0.2 3) 1)) 4).2.2 then T8 (ZjY y0 y1∧T2 (∃ y0' : (List GScope) × GL6In,(rsI list y0'.1 y0'.2)∧(ms6 y0'.2) < (ms6 y0.2)∧lxs [hn Zab list, .tp [], .c (.bp 0 0), .c (.bool false), .c (.bp 1 0), .c (.str (upT (ZaA (list,0,false) 1))), .c (.bp 2 0)] (TN 5 (lxs [hn Zab list, .ag (Zcx list), .c (.bp 1 0), .c (.bp 1 0), .c (.str (ZaA (list,0,false) 1)), .c (.str (upT (ZaA (list,0,false) 1))), .c (.str (upT (ZaA (list,0,false) 1))), .c (.bool (eqS (upT (ZaA (list,0,false) 1)) (⟨#[83,69,84]⟩:ByteArray))), .ag (Zdg list), .c (.str (upT (ZaA (list,0,false) 1))), .c (.bool (!eqS (upT (ZaA (list,0,false) 1)) (⟨#[83,69,84]⟩:ByteArray))), .c (.bool false), .tp [], .tp [], .c (.bool false), .tp []] (TN 70 (tpn 20 True))))∧pt (ZrW y0 y0' list y1))) else T10 (ZjY y0 y1∧T2 (∃ y0' : (List GScope) × GL6In,(rsI list y0'.1 y0'.2)∧(ms6 y0'.2) < (ms6 y0.2)∧lxs [hn Zab list, .tp [], .c (.bp 0 0), .c (.bool false), .c (.bp 1 0), .c (.str (upT (ZaA (list,0,false) 1))), .c (.bp 2 0)] (TN 5 (lxs [hn Zab list, .ag (Zcx list), .c (.bp 1 0), .c (.bp 1 0), .c (.str (ZaA (list,0,false) 1)), .c (.str (upT (ZaA (list,0,false) 1))), .c (.str (upT (ZaA (list,0,false) 1))), .c (.bool (eqS (upT (ZaA (list,0,false) 1)) (⟨#[83,69,84]⟩:ByteArray))), .ag (Zdg list), .c (.str (upT (ZaA (list,0,false) 1))), .c (.bool (!eqS (upT (ZaA (list,0,false) 1)) (⟨#[83,69,84]⟩:ByteArray))), .c (.bool false), .tp [], .tp [], .c (.bool false), .tp []] (TN 70 (tpn 20 True))))∧pt (ZxZ y0 y0' list y1))))))))) else Zjc y0 list) else True∧Zjc y0 list) else T3 (Zjc y0 list))))) (by kernel_rfl) ?_
 unfold Zr3 Zr2 Zr1 Zr0 ZrZ ZjY ZrY ZrX ZrW ZmM ZjX Zx0 ZxZ ZxY Znt Zns ZxX ZxW Zcx Zdg Zjc Znr T10 T2 T3 T4 T5 T6 T7 T8 T9
 have hp:List.length list≤1048576:=hpre
 simp only [Znp,Zd9,ZIX,ZLc,Zdj,eq_self]
 repeat' (with_reducible first | exact trivial | apply And.intro | intro _)
 all_goals first
  | (with_reducible trivial)
  | omega
  | (with_reducible assumption)
  | exact ZLe hp
  | exact q_0 hp
  | exact ZLf (by with_reducible assumption)
  | exact ZcI 3 (ZLf (by with_reducible assumption))
  | exact ZcI 1 (ZcI 3 (ZLf (by with_reducible assumption)))
  | exact Zqk (ZcI 1 (ZcI 3 (ZLf (by with_reducible assumption))))
  | exact Zqk (Zqk (ZcI 1 (ZcI 3 (ZLf (by with_reducible assumption)))))
  | exact ZRl
  | exact ZRk (by with_reducible assumption)
  | exact q_y (by with_reducible assumption) (by with_reducible assumption)
  | exact q_n (by with_reducible assumption) (by with_reducible assumption)
  | exact q_m hp (by with_reducible assumption)
  | exact ZRn (by with_reducible assumption) (by with_reducible assumption) (by with_reducible assumption) (by with_reducible assumption) (by with_reducible assumption) (by with_reducible assumption) (by with_reducible assumption) (by with_reducible assumption)
  | exact ZRo (by with_reducible assumption) (by with_reducible assumption) (by with_reducible assumption) (by with_reducible assumption) (by with_reducible assumption) (by with_reducible assumption) (by with_reducible assumption) (by with_reducible assumption)
  | exact (ZOc (by with_reducible assumption) (by with_reducible assumption)).symm
  | exact (congrArg Prod.fst (ZpD (ZOc (by with_reducible assumption) (by with_reducible assumption)))).symm
  | exact congrArg Prod.snd (ZpD (ZOc (by with_reducible assumption) (by with_reducible assumption)))
  | exact (ZFG (ZxU (by with_reducible assumption) (by with_reducible assumption)) (by with_reducible assumption)).symm
  | exact (congrArg Prod.fst (ZpD (ZFG (ZxU (by with_reducible assumption) (by with_reducible assumption)) (by with_reducible assumption)))).symm
  | exact congrArg Prod.snd (ZpD (ZFG (ZxU (by with_reducible assumption) (by with_reducible assumption)) (by with_reducible assumption)))
  | exact (ZFH (ZxU (by with_reducible assumption) (by with_reducible assumption)) (by with_reducible assumption)).symm
  | exact (congrArg Prod.fst (ZpD (ZFH (ZxU (by with_reducible assumption) (by with_reducible assumption)) (by with_reducible assumption)))).symm
  | exact congrArg Prod.snd (ZpD (ZFH (ZxU (by with_reducible assumption) (by with_reducible assumption)) (by with_reducible assumption)))
  | exact (ZFI (ZxU (by with_reducible assumption) (by with_reducible assumption)) (by with_reducible assumption)).symm
  | exact (congrArg Prod.fst (ZpD (ZFI (ZxU (by with_reducible assumption) (by with_reducible assumption)) (by with_reducible assumption)))).symm
  | exact congrArg Prod.snd (ZpD (ZFI (ZxU (by with_reducible assumption) (by with_reducible assumption)) (by with_reducible assumption)))
  | exact (ZFG (ZxV (by with_reducible assumption) (by with_reducible assumption)) (by with_reducible assumption)).symm
  | exact (congrArg Prod.fst (ZpD (ZFG (ZxV (by with_reducible assumption) (by with_reducible assumption)) (by with_reducible assumption)))).symm
  | exact congrArg Prod.snd (ZpD (ZFG (ZxV (by with_reducible assumption) (by with_reducible assumption)) (by with_reducible assumption)))
  | exact (ZFH (ZxV (by with_reducible assumption) (by with_reducible assumption)) (by with_reducible assumption)).symm
  | exact (congrArg Prod.fst (ZpD (ZFH (ZxV (by with_reducible assumption) (by with_reducible assumption)) (by with_reducible assumption)))).symm
  | exact congrArg Prod.snd (ZpD (ZFH (ZxV (by with_reducible assumption) (by with_reducible assumption)) (by with_reducible assumption)))
  | exact (ZFI (ZxV (by with_reducible assumption) (by with_reducible assumption)) (by with_reducible assumption)).symm
  | exact (congrArg Prod.fst (ZpD (ZFI (ZxV (by with_reducible assumption) (by with_reducible assumption)) (by with_reducible assumption)))).symm
  | exact congrArg Prod.snd (ZpD (ZFI (ZxV (by with_reducible assumption) (by with_reducible assumption)) (by with_reducible assumption)))
  | exact (ZFG (ZFF (by with_reducible assumption) (by with_reducible assumption)) (by with_reducible assumption)).symm
  | exact (congrArg Prod.fst (ZpD (ZFG (ZFF (by with_reducible assumption) (by with_reducible assumption)) (by with_reducible assumption)))).symm
  | exact congrArg Prod.snd (ZpD (ZFG (ZFF (by with_reducible assumption) (by with_reducible assumption)) (by with_reducible assumption)))
  | exact (ZFH (ZFF (by with_reducible assumption) (by with_reducible assumption)) (by with_reducible assumption)).symm
  | exact (congrArg Prod.fst (ZpD (ZFH (ZFF (by with_reducible assumption) (by with_reducible assumption)) (by with_reducible assumption)))).symm
  | exact congrArg Prod.snd (ZpD (ZFH (ZFF (by with_reducible assumption) (by with_reducible assumption)) (by with_reducible assumption)))
  | exact (ZFI (ZFF (by with_reducible assumption) (by with_reducible assumption)) (by with_reducible assumption)).symm
  | exact (congrArg Prod.fst (ZpD (ZFI (ZFF (by with_reducible assumption) (by with_reducible assumption)) (by with_reducible assumption)))).symm
  | exact congrArg Prod.snd (ZpD (ZFI (ZFF (by with_reducible assumption) (by with_reducible assumption)) (by with_reducible assumption)))
  | exact (q_t (ZxU (by with_reducible assumption) (by with_reducible assumption)) (ZJQ (by with_reducible assumption)) (by with_reducible assumption) (by with_reducible assumption) (by with_reducible assumption)).1.symm
  | exact (congrArg Prod.fst (q_t (ZxU (by with_reducible assumption) (by with_reducible assumption)) (ZJQ (by with_reducible assumption)) (by with_reducible assumption) (by with_reducible assumption) (by with_reducible assumption)).2).symm
  | exact (congrArg Prod.snd (q_t (ZxU (by with_reducible assumption) (by with_reducible assumption)) (ZJQ (by with_reducible assumption)) (by with_reducible assumption) (by with_reducible assumption) (by with_reducible assumption)).2).symm
  | exact (q_t (ZxU (by with_reducible assumption) (by with_reducible assumption)) (ZJR (by with_reducible assumption)) (by with_reducible assumption) (by with_reducible assumption) (by with_reducible assumption)).1.symm
  | exact (congrArg Prod.fst (q_t (ZxU (by with_reducible assumption) (by with_reducible assumption)) (ZJR (by with_reducible assumption)) (by with_reducible assumption) (by with_reducible assumption) (by with_reducible assumption)).2).symm
  | exact (congrArg Prod.snd (q_t (ZxU (by with_reducible assumption) (by with_reducible assumption)) (ZJR (by with_reducible assumption)) (by with_reducible assumption) (by with_reducible assumption) (by with_reducible assumption)).2).symm
  | exact (q_t (ZxV (by with_reducible assumption) (by with_reducible assumption)) (ZJQ (by with_reducible assumption)) (by with_reducible assumption) (by with_reducible assumption) (by with_reducible assumption)).1.symm
  | exact (congrArg Prod.fst (q_t (ZxV (by with_reducible assumption) (by with_reducible assumption)) (ZJQ (by with_reducible assumption)) (by with_reducible assumption) (by with_reducible assumption) (by with_reducible assumption)).2).symm
  | exact (congrArg Prod.snd (q_t (ZxV (by with_reducible assumption) (by with_reducible assumption)) (ZJQ (by with_reducible assumption)) (by with_reducible assumption) (by with_reducible assumption) (by with_reducible assumption)).2).symm
  | exact (q_t (ZxV (by with_reducible assumption) (by with_reducible assumption)) (ZJR (by with_reducible assumption)) (by with_reducible assumption) (by with_reducible assumption) (by with_reducible assumption)).1.symm
  | exact (congrArg Prod.fst (q_t (ZxV (by with_reducible assumption) (by with_reducible assumption)) (ZJR (by with_reducible assumption)) (by with_reducible assumption) (by with_reducible assumption) (by with_reducible assumption)).2).symm
  | exact (congrArg Prod.snd (q_t (ZxV (by with_reducible assumption) (by with_reducible assumption)) (ZJR (by with_reducible assumption)) (by with_reducible assumption) (by with_reducible assumption) (by with_reducible assumption)).2).symm
def ZpG:ZaD Tryz.prog:=⟨122,[.v (.list Zab)],fun x=>List.length x.1≤1048576,fun x=>.tp [.ag [.bool (rdS x.1).1, .row 0 0], .c (.bool (Zjw x.1))],fun x=>[.row Zae (rdS x.1).2 0 0 none],fun x hx=>ZpF x.1 hx,Tryz.call122⟩
end Go.Proofs.YtkeglpnnedflnaaGreatDoor
