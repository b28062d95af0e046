import Derived.Test.YtkeglpnnedflnaaGreatDoorPBlPq
import Derived.Test.YtkeglpnnedflnaaGreatDoorPBlRL
set_option linter.unusedSimpArgs false
set_option linter.unusedVariables false
set_option maxRecDepth 100000
namespace Go.Proofs.YtkeglpnnedflnaaGreatDoor
open Go.ChangeShapes Go.WideShapes Go.ChangeAt Go.RowKit Go.Joins Go.Deep
open GoRep (rep bulk)
def Atm (s:List GToken):Prop:=∃ w t,s=Zan w :: t
theorem ZAL (t:GToken) (s:List GToken):tkT (t :: s)=t:=tkT_cons (by simp)
theorem ZCC (t:GToken) (s:List GToken):Zac 1 (t :: s)=s:=rfl
section
variable {r:GL6In} {s T:List GToken} {c:GCommand}
theorem ZKu {s2:List GToken} (h:St6 r s) (h2:St6 r s2):s=s2:=h.2.symm.trans h2.2
theorem Zru (h:St6 r s) (ha:Atm s):St6 (Zal r 1) (Zac 1 s)∧ZaA r 1=(tkT s).2:=by
 obtain ⟨w,t,rfl⟩:=ha
 rw [ZAL,ZCC]
 exact ZE3 h rfl (.inl rfl)
theorem ZAM (h:St6 r s) (hb:(Zal r 1).2.2=false):Atm s:=by
 obtain ⟨w,t,h2⟩:=ZOi h.1.2 hb
 exact ⟨w,t,ZKu h h2⟩
theorem ZCD {b:Bool} (h:(bdR r b).2.2=false):r.2.2=false∧b=true:=by
 have h:(r.2.2 || !b)=false:=h
 rw [Bool.or_eq_false_iff,Bool.not_eq_false'] at h
 exact h
theorem ZIi {b:Bool} (h:St6 r s) (hb:b=true):St6 (bdR r b) s:=by
 refine ⟨⟨?_,h.1.2⟩,h.2⟩
 show (r.2.2 || !b)=false
 rw [h.1.1,hb]
 rfl
def Zqh (c:GCommand) (s:List GToken):Prop:=Zbj c.2.1=true→Atm s∧rsB (tkT s).2=true
def ZAN (c:GCommand) (s:List GToken):Prop:=c.2.1=8→Atm s∧opB (tkT s).2=true
def Zqi (c:GCommand) (s:List GToken):Prop:=ZaX c.2.1=true→Atm s
def ZAO (c:GCommand) (s:List GToken):Prop:=c.2.1=14→Atm s
def ZAP (c:GCommand) (s:List GToken):Prop:=fl7 c.2.1=true→(∃ ws t,s=gpK ws t)∧(boI ZaB (Ze8 s) 0).2=true
def Zw6 (c:GCommand) (s:List GToken):Prop:=c.2.1=11→∃ w t,s=((2,w):GToken) :: t
def ZAQ (c:GCommand) (s:List GToken):Prop:=if c.2.1=6 then rdB s=true else s=[]
theorem Zw7 (h:St6 r s):((ZcP c r).2.2=false→Zqh c s)∧(Zqh c s→Zi7 c r=Zi6 c s∧St6 (ZcP c r) (ZiG c s)):=by
 unfold ZcP Zqh Zi7 Zi6 ZiG
 by_cases hk:Zbj c.2.1=true
 ·simp only [if_pos hk]
  refine ⟨fun hb _=>?_,fun hs=>?_⟩
  ·obtain ⟨h1,h2⟩:=ZCD hb
   have ha:=ZAM h h1
   rw [(Zru h ha).2] at h2
   exact ⟨ha,(ZnJ _).2.trans h2⟩
  ·obtain ⟨ha,hb⟩:=hs hk
   obtain ⟨h3,h4⟩:=Zru h ha
   rw [h4]
   exact ⟨(ZnJ _).1.symm,ZIi h3 ((ZnJ _).2.symm.trans hb)⟩
 ·exact Zh5
theorem ZCE (h:St6 r s):((qOp c r).2.2=false→ZAN c s)∧(ZAN c s→gOp c r=fOp c s∧St6 (qOp c r) (rOp c s)):=by
 unfold qOp ZAN gOp fOp rOp
 by_cases hk:c.2.1=8
 ·simp only [if_pos hk]
  refine ⟨fun hb _=>?_,fun hs=>?_⟩
  ·obtain ⟨h1,h2⟩:=ZCD hb
   have ha:=ZAM h h1
   rw [(Zru h ha).2] at h2
   exact ⟨ha,h2⟩
  ·obtain ⟨ha,hb⟩:=hs hk
   obtain ⟨h3,h4⟩:=Zru h ha
   rw [h4]
   exact ⟨rfl,ZIi h3 hb⟩
 ·exact Zh5
theorem Zw8 (h:St6 r s):((ZFn c r).2.2=false→Zqi c s)∧(Zqi c s→Zrt c r=ZAK c s∧St6 (ZFn c r) (ZIh c s)):=by
 unfold ZFn Zqi Zrt ZAK ZIh
 by_cases hk:ZaX c.2.1=true
 ·exact ZvB
 ·exact Zh5
theorem ZCF (h:St6 r s):((qTo c r).2.2=false→ZAO c s)∧(ZAO c s→gTo c r=fTo c s∧St6 (qTo c r) (rTo c s)):=by
 unfold qTo ZAO gTo fTo rTo
 by_cases hk:c.2.1=14
 ·exact ZvB
 ·exact Zh5
theorem ZCG (h:St6 r s):((qFl c r).2.2=false→ZAP c s)∧(ZAP c s→gFl c r=fFl c s∧St6 (qFl c r) (rFl c s)):=by
 unfold qFl ZAP gFl fFl rFl
 by_cases hk:fl7 c.2.1=true
 ·simp only [if_pos hk]
  refine ⟨fun hb _=>?_,fun hs=>?_⟩
  ·obtain ⟨h1,h2⟩:=ZCD hb
   obtain ⟨ws,t,h3⟩:=ZOj h.1.2 h1
   have e:=ZKu h h3
   rw [(ZJS h3).2] at h2
   refine ⟨⟨ws,t,e⟩,?_⟩
   rw [e,ZBa]
   exact h2
  ·obtain ⟨⟨ws,t,rfl⟩,hb⟩:=hs hk
   obtain ⟨h3,h4⟩:=ZJS h
   rw [ZBa] at hb ⊢
   rw [h4,ZBb,if_pos hb]
   exact ⟨rfl,ZIi h3 hb⟩
 ·exact Zh5
theorem ZM3 {w:ByteArray} {t:List GToken} (h:St6 r (((2,w):GToken) :: t)):yTx r=true∧(Zag r.1 (Int.toNat r.2.1)).2=w∧St6 (r.1,r.2.1 + 1,r.2.2) t:=by
 obtain ⟨hl,ht,hd⟩:=Zr4 h.2
 obtain ⟨⟨h1,h2⟩,h3⟩:=h.1.2
 refine ⟨?_,by rw [ht],⟨h.1.1,⟨⟨?_,?_⟩,h3⟩⟩,?_⟩
 ·unfold yTx
  rw [ZbN.2 (by omega),ht]
  rfl
 ·show 0≤r.2.1 + 1
  omega
 ·show r.2.1 + 1≤((r.1.length:Nat):Int)
  omega
 ·show Zac (Int.toNat (r.2.1 + 1)) r.1=t
  exact Zwd
theorem ZM4 (h:St6 r s) (hy:yTx r=true):∃ w t,s=((2,w):GToken) :: t:=by
 unfold yTx at hy
 rw [Bool.and_eq_true] at hy
 have hl:=ZbN.1 hy.1
 have ho:=h.1.2.1
 have hn:Int.toNat r.2.1 < r.1.length:=by omega
 have h2:r.1[Int.toNat r.2.1]?=some (Zag r.1 (Int.toNat r.2.1)):=Zat (t:=Zab) hn
 obtain ⟨_,e⟩:=List.getElem?_eq_some_iff.1 h2
 refine ⟨(Zag r.1 (Int.toNat r.2.1)).2,r.1.drop (Int.toNat r.2.1 + 1),?_⟩
 rw [← h.2]
 have e2:((2,(Zag r.1 (Int.toNat r.2.1)).2):GToken)=Zag r.1 (Int.toNat r.2.1):=Prod.ext (ZaE.1 hy.2).symm rfl
 rw [e2,← e]
 exact List.drop_eq_getElem_cons hn
theorem ZCH (h:St6 r s):((qTx c r).2.2=false→Zw6 c s)∧(Zw6 c s→gTx c r=fTx c s∧St6 (qTx c r) (rTx c s)):=by
 unfold qTx Zw6 gTx fTx rTx
 by_cases hk:c.2.1=11
 ·simp only [if_pos hk]
  refine ⟨fun hb _=>?_,fun hs=>?_⟩
  ·cases hy:yTx r with
   | true=>exact ZM4 h hy
   | false =>
    rw [hy] at hb
    cases hb
  ·obtain ⟨w,t,rfl⟩:=hs hk
   obtain ⟨h1,h2,h3⟩:=ZM3 h
   rw [if_pos ⟨hk,h1⟩,if_pos h1,ZAL,ZCC]
   exact ⟨h2,h3⟩
 ·simp only [if_neg hk]
  exact ⟨fun _ q=>absurd q hk,fun _=>⟨if_neg (fun q=>hk q.1),h⟩⟩
theorem ZKv (h:St6 r s):s.length=r.1.length - Int.toNat r.2.1∧s.length≤1048576:=by
 have h1:=h.1.2
 have h2:s.length=r.1.length - Int.toNat r.2.1:=by rw [← h.2,ZbH]
 exact ⟨h2,by have:=h1.2; omega⟩
theorem ZHa (h:St6 r s):(((qFi c r).2.2=false∧¬ (qFi c r).2.1 < ((r.1.length:Nat):Int))→ZAQ c s)∧(ZAQ c s→gFi c r=fFi c s∧(qFi c r).2.2=false∧¬ (qFi c r).2.1 < ((r.1.length:Nat):Int)):=by
 obtain ⟨hl,hl2⟩:=ZKv h
 obtain ⟨e1,e2⟩:=ZI2 (l:=s) hl2
 have hb:=h.1.1
 have ho:=h.1.2.1
 have hd:=h.2
 unfold ZAQ gFi qFi fFi
 by_cases hk:c.2.1=6
 ·simp only [if_pos hk,if_pos (And.intro hk hb)]
  rw [hd]
  refine ⟨fun q=>?_,fun q=>?_⟩
  ·have q1:(!Zjw s)=false:=q.1
   rw [Bool.not_eq_false'] at q1
   exact e2.trans q1
  ·refine ⟨?_,?_,?_⟩
   ·rw [if_pos q]
    exact e1.symm
   ·show (!Zjw s)=false
    rw [← e2,q]
    rfl
   ·exact Int.lt_irrefl _
 ·simp only [if_neg hk,if_neg (fun q:c.2.1=6∧r.2.2=false=>hk q.1)]
  refine ⟨fun q=>List.eq_nil_of_length_eq_zero (by have:=q.2; omega),fun q=>⟨trivial,hb,?_⟩⟩
  rw [q,List.length_nil] at hl
  omega
theorem ZIj (h:(qOp c r).2.2=false):r.2.2=false:=by
 unfold qOp at h
 split at h
 ·exact ZgH (ZCD h).1
 ·exact h
theorem ZFo (h:(ZFn c r).2.2=false):r.2.2=false:=by
 unfold ZFn at h
 split at h
 ·exact ZgH h
 ·exact h
theorem ZIk (h:(qTo c r).2.2=false):r.2.2=false:=by
 unfold qTo at h
 split at h
 ·exact ZgH h
 ·exact h
theorem ZIl (h:(qFl c r).2.2=false):r.2.2=false:=by
 unfold qFl at h
 split at h
 ·have h2:(Zal r 3).2.2=false:=ZgH (r:=am6 r (atN (ag6 r))) (ZCD h).1
  exact ZgH h2
 ·exact h
theorem ZIm (h:(qTx c r).2.2=false):r.2.2=false:=by
 unfold qTx at h
 split at h
 ·split at h
  ·exact h
  ·cases h
 ·exact h
theorem ZIn (h:(qFi c r).2.2=false):r.2.2=false:=by
 unfold qFi at h
 split at h
 ·rename_i q
  exact q.2
 ·exact h
theorem ZFp:(ZcP c r).1=r.1:=by
 unfold ZcP
 exact ZkU
theorem ZIo:(qOp c r).1=r.1:=by
 unfold qOp
 exact ZkU
theorem ZFq:(ZFn c r).1=r.1:=by
 unfold ZFn
 exact ZkU
theorem ZIp:(qTo c r).1=r.1:=by
 unfold qTo
 exact ZkU
theorem ZIq:(qFl c r).1=r.1:=by
 unfold qFl
 split
 ·exact (ZfZ _ 4).trans (ZfZ r 3)
 ·rfl
theorem ZIr:(qTx c r).1=r.1:=by
 unfold qTx
 split
 ·split <;> rfl
 ·rfl
def ZlU (c:GCommand) (s:List GToken):Prop:=Zqh c s∧ZAN c (ZiG c s)∧Zqi c (rz3 c s)∧ZAO c (rz4 c s)∧ZAP c (rz5 c s)∧Zw6 c (rz6 c s)∧ZAQ c (ZpB c s)
theorem ZIs:(qs7 c r).1=r.1:=by
 unfold qs7 qs6 qs5 qs4 qs3
 rw [ZIr,ZIq,ZIp,ZFq,ZIo,ZFp]
theorem ZCI (h:Zw6 c (rz6 c s)):fFi c (ZpB c s)=fFi c (rz6 c s):=by
 unfold fFi ZpB rTx
 by_cases hk:c.2.1=11
 ·rw [if_neg (by omega),if_neg (by omega)]
 ·rw [if_neg hk]
theorem Zw9 (h:St6 r s):(((Zer c r).2.2=false∧¬ (Zer c r).2.1 < ((r.1.length:Nat):Int))→ZlU c s)∧(ZlU c s→Zbk c r=Za8 c s∧(Zer c r).2.2=false∧¬ (Zer c r).2.1 < ((r.1.length:Nat):Int)):=by
 have hf:=ZIs (c:=c) (r:=r)
 refine ⟨fun ⟨hb,ha⟩=>?_,fun ⟨g1,g2,g3,g4,g5,g6,g7⟩=>?_⟩
 ·have b7:=ZIn hb
  have b6:(qs6 c r).2.2=false:=ZIm b7
  have b5:(qs5 c r).2.2=false:=ZIl b6
  have b4:(qs4 c r).2.2=false:=ZIk b5
  have b3:(qs3 c r).2.2=false:=ZFo b4
  have b2:(ZcP c r).2.2=false:=ZIj b3
  have g1:=(Zw7 h).1 b2
  have t1:=((Zw7 h).2 g1).2
  have g2:=(ZCE t1).1 b3
  have t2:St6 (qs3 c r) (rz3 c s):=((ZCE t1).2 g2).2
  have g3:=(Zw8 t2).1 b4
  have t3:St6 (qs4 c r) (rz4 c s):=((Zw8 t2).2 g3).2
  have g4:=(ZCF t3).1 b5
  have t4:St6 (qs5 c r) (rz5 c s):=((ZCF t3).2 g4).2
  have g5:=(ZCG t4).1 b6
  have t5:St6 (qs6 c r) (rz6 c s):=((ZCG t4).2 g5).2
  have g6:=(ZCH t5).1 b7
  have t6:St6 (qs7 c r) (ZpB c s):=((ZCH t5).2 g6).2
  exact ⟨g1,g2,g3,g4,g5,g6,(ZHa t6).1 ⟨hb,by rw [hf]; exact ha⟩⟩
 ·obtain ⟨e1,t1⟩:=(Zw7 h).2 g1
  obtain ⟨e2,t2⟩:=(ZCE t1).2 g2
  have t2:St6 (qs3 c r) (rz3 c s):=t2
  obtain ⟨e3,t3⟩:=(Zw8 t2).2 g3
  have t3:St6 (qs4 c r) (rz4 c s):=t3
  obtain ⟨e4,t4⟩:=(ZCF t3).2 g4
  have t4:St6 (qs5 c r) (rz5 c s):=t4
  obtain ⟨e5,t5⟩:=(ZCG t4).2 g5
  have t5:St6 (qs6 c r) (rz6 c s):=t5
  obtain ⟨e6,t6⟩:=(ZCH t5).2 g6
  have t6:St6 (qs7 c r) (ZpB c s):=t6
  obtain ⟨e7,b,a⟩:=(ZHa t6).2 g7
  rw [hf] at a
  refine ⟨?_,b,a⟩
  unfold Zbk Za8
  rw [e1,e2,e3,e4,e5,e6,e7,ZCI g6]
theorem ZAR {a:ByteArray} (hu:Atm s→upT a=upT (tkT s).2):Zb5 Za4 (Zan a :: T) s=true↔Atm s∧Zb5 Za4 T (Zac 1 s)=true:=by
 refine ⟨fun h=>?_,fun ⟨ha,h⟩=>?_⟩
 ·obtain ⟨y,ys,rfl,h1,h2⟩:=Zeh h
  obtain ⟨b,rfl,_⟩:=Znv h1
  exact ⟨⟨b,ys,rfl⟩,h2⟩
 ·have hu:=hu ha
  obtain ⟨w,t,rfl⟩:=ha
  rw [ZAL] at hu
  exact ZpH (Ztd hu) h
end
theorem ZCJ:ZbB []=false:=by decide
theorem ZM5 {x:ByteArray} (h:ZbB (rsL x)=true):rsB x=true:=by
 cases hb:rsB x with
 | true=>rfl
 | false =>
  have e:rsL x=[]:=if_neg (by rw [hb]; decide)
  rw [e,ZCJ] at h
  cases h
theorem ZM6 {x:ByteArray} (h:¬ opV x=0):opT (opV x)=x:=by
 unfold opV at h ⊢
 split at h
 ·rename_i h1
  rw [if_pos h1]
  exact Zav.1 h1
 ·rename_i h1
  rw [if_neg h1]
  split at h
  ·rename_i h2
   rw [if_pos h2]
   exact Zav.1 h2
  ·rename_i h2
   rw [if_neg h2]
   split at h
   ·rename_i h3
    rw [if_pos h3]
    exact Zav.1 h3
   ·exact absurd rfl h
structure ZiH (c:GCommand):Prop where
 tag:ZgD c.1=true
 kind:1≤c.2.1∧c.2.1≤15
 box:ZaX c.2.1=true→Zbn c.2.2.1=true
 box0:¬ ZaX c.2.1=true→c.2.2.1=(⟨#[]⟩:ByteArray)
 to:c.2.1=14→Zbn c.2.2.2.1=true
 to0:¬ c.2.1=14→c.2.2.2.1=(⟨#[]⟩:ByteArray)
 set:Zbj c.2.1=true→ZbB c.2.2.2.2.2.1=true
 set0:¬ Zbj c.2.1=true→c.2.2.2.2.2.1=[]∧c.2.2.2.2.1=false
 op:c.2.1=8→1≤c.2.2.2.2.2.2.1∧c.2.2.2.2.2.2.1≤3
 op0:¬ c.2.1=8→c.2.2.2.2.2.2.1=0
 fl:ZaC c.2.2.2.2.2.2.2.1=true
 fl0:¬ fl7 c.2.1=true→c.2.2.2.2.2.2.2.1=0
 tx:c.2.2.2.2.2.2.2.2.1.size≤40
 tx0:¬ c.2.1=11→c.2.2.2.2.2.2.2.2.1=(⟨#[]⟩:ByteArray)
 fi:Zar c.2.2.2.2.2.2.2.2.2=true
 fi0:¬ c.2.1=6→c.2.2.2.2.2.2.2.2.2=(false,[])
theorem Zrv (k:Int) (h:1≤k∧k≤15):k=1∨k=2∨k=3∨k=4∨k=5∨k=6∨k=7∨k=8∨k=9∨k=10∨k=11∨k=12∨k=13∨k=14∨k=15:=by omega
theorem ZFr {c:GCommand} (h:ZbQ c=true):ZgD c.1=true∧1≤c.2.1∧c.2.1≤15:=by
 unfold ZbQ at h
 cases h1:ZgD c.1 with
 | false=>rw [h1] at h; cases h
 | true =>
  rw [h1] at h
  cases h2:btw c.2.1 1 15 with
  | false=>rw [h2] at h; cases h
  | true=>exact ⟨rfl,Zaz.1 h2⟩
theorem ZFs {a b:GCommand} (h:Zhd a b=true):a=b:=by
 unfold Zhd at h
 simp only [Bool.cond_false_right,Bool.and_eq_true,Zav,ZaE,ZfJ,ZcH,ZbX] at h
 obtain ⟨h1,h2,h3,h4,h5,h6,h7,h8,h9,h10⟩:=h
 exact Prod.ext h1 (Prod.ext h2 (Prod.ext h3 (Prod.ext h4 (Prod.ext h5 (Prod.ext h6 (Prod.ext h7 (Prod.ext h8 (Prod.ext h9 h10))))))))
theorem ZAS (a:GCommand):Zhd a a=true:=by
 unfold Zhd
 simp only [Bool.cond_false_right,Bool.and_eq_true,Zav,ZaE,ZfJ,ZcH,ZbX,and_self]
set_option maxRecDepth 100000
theorem kt1:ZaX 1=false∧Zbj 1=false∧fl7 1=false∧eqI 1 14=false∧eqI 1 8=false∧eqI 1 11=false∧eqI 1 6=false:=by decide
theorem kt2:ZaX 2=true∧Zbj 2=false∧fl7 2=false∧eqI 2 14=false∧eqI 2 8=false∧eqI 2 11=false∧eqI 2 6=false:=by decide
theorem kt3:ZaX 3=false∧Zbj 3=false∧fl7 3=false∧eqI 3 14=false∧eqI 3 8=false∧eqI 3 11=false∧eqI 3 6=false:=by decide
theorem kt4:ZaX 4=false∧Zbj 4=false∧fl7 4=false∧eqI 4 14=false∧eqI 4 8=false∧eqI 4 11=false∧eqI 4 6=false:=by decide
theorem kt5:ZaX 5=false∧Zbj 5=false∧fl7 5=false∧eqI 5 14=false∧eqI 5 8=false∧eqI 5 11=false∧eqI 5 6=false:=by decide
theorem kt6:ZaX 6=false∧Zbj 6=false∧fl7 6=false∧eqI 6 14=false∧eqI 6 8=false∧eqI 6 11=false∧eqI 6 6=true:=by decide
theorem kt7:ZaX 7=false∧Zbj 7=true∧fl7 7=false∧eqI 7 14=false∧eqI 7 8=false∧eqI 7 11=false∧eqI 7 6=false:=by decide
theorem kt8:ZaX 8=false∧Zbj 8=true∧fl7 8=true∧eqI 8 14=false∧eqI 8 8=true∧eqI 8 11=false∧eqI 8 6=false:=by decide
theorem kt9:ZaX 9=false∧Zbj 9=false∧fl7 9=false∧eqI 9 14=false∧eqI 9 8=false∧eqI 9 11=false∧eqI 9 6=false:=by decide
theorem ZOP:ZaX 10=true∧Zbj 10=true∧fl7 10=false∧eqI 10 14=false∧eqI 10 8=false∧eqI 10 11=false∧eqI 10 6=false:=by decide
theorem ZOQ:ZaX 11=true∧Zbj 11=false∧fl7 11=true∧eqI 11 14=false∧eqI 11 8=false∧eqI 11 11=true∧eqI 11 6=false:=by decide
theorem ZOR:ZaX 12=true∧Zbj 12=false∧fl7 12=false∧eqI 12 14=false∧eqI 12 8=false∧eqI 12 11=false∧eqI 12 6=false:=by decide
theorem ZOS:ZaX 13=true∧Zbj 13=false∧fl7 13=false∧eqI 13 14=false∧eqI 13 8=false∧eqI 13 11=false∧eqI 13 6=false:=by decide
theorem ZOT:ZaX 14=true∧Zbj 14=false∧fl7 14=false∧eqI 14 14=true∧eqI 14 8=false∧eqI 14 11=false∧eqI 14 6=false:=by decide
theorem ZOU:ZaX 15=false∧Zbj 15=false∧fl7 15=false∧eqI 15 14=false∧eqI 15 8=false∧eqI 15 11=false∧eqI 15 6=false:=by decide
theorem Zes {c:GCommand} (h:ZbQ c=true):ZiH c:=by
 obtain ⟨ht,hk⟩:=ZFr h
 obtain ⟨tag,k,box,to,uid,set,op,fl,tx,fi⟩:=c
 have hk':=Zrv k hk
 have hb:btw k 1 15=true:=Zaz.2 hk
 simp only at ht hk
 unfold ZbQ at h
 simp only [ht,hb,Bool.not_true,cond_false] at h
 cases hs:Zhd (ZdV (tag,k,box,to,uid,set,op,fl,tx,fi)) (tag,k,box,to,uid,set,op,fl,tx,fi) with
 | false =>
  rw [hs] at h
  cases h
 | true =>
  have e:=ZFs hs
  simp only [hs,Bool.not_true,cond_false] at h
  clear hs
  unfold ZdV at e
  rcases hk' with rfl | rfl | rfl | rfl | rfl | rfl | rfl | rfl | rfl | rfl | rfl | rfl | rfl | rfl | rfl
  ·obtain ⟨q1,q2,q3,q4,q5,q6,q7⟩:=kt1
   exact ZbY
  ·obtain ⟨q1,q2,q3,q4,q5,q6,q7⟩:=kt2
   exact ZbY
  ·obtain ⟨q1,q2,q3,q4,q5,q6,q7⟩:=kt3
   exact ZbY
  ·obtain ⟨q1,q2,q3,q4,q5,q6,q7⟩:=kt4
   exact ZbY
  ·obtain ⟨q1,q2,q3,q4,q5,q6,q7⟩:=kt5
   exact ZbY
  ·obtain ⟨q1,q2,q3,q4,q5,q6,q7⟩:=kt6
   exact ZbY
  ·obtain ⟨q1,q2,q3,q4,q5,q6,q7⟩:=kt7
   exact ZbY
  ·obtain ⟨q1,q2,q3,q4,q5,q6,q7⟩:=kt8
   exact ZbY
  ·obtain ⟨q1,q2,q3,q4,q5,q6,q7⟩:=kt9
   exact ZbY
  ·obtain ⟨q1,q2,q3,q4,q5,q6,q7⟩:=ZOP
   exact ZbY
  ·obtain ⟨q1,q2,q3,q4,q5,q6,q7⟩:=ZOQ
   exact ZbY
  ·obtain ⟨q1,q2,q3,q4,q5,q6,q7⟩:=ZOR
   exact ZbY
  ·obtain ⟨q1,q2,q3,q4,q5,q6,q7⟩:=ZOS
   exact ZbY
  ·obtain ⟨q1,q2,q3,q4,q5,q6,q7⟩:=ZOT
   exact ZbY
  ·obtain ⟨q1,q2,q3,q4,q5,q6,q7⟩:=ZOU
   exact ZbY
theorem Zs6 {x:ByteArray} (h:Zbn x=true):¬ x=(⟨#[]⟩:ByteArray):=fun e=>by
 rw [e] at h
 exact absurd h (by decide)
section
variable {c d:GCommand} {s T:List GToken}
theorem ZKw (hf:ZiH d) (hk:d.2.1=c.2.1) (hs:d.2.2.2.2.2.1=Zi6 c s):Zb5 Za4 (setK d ++ T) s=true↔Zqh c s∧Zb5 Za4 T (ZiG c s)=true:=by
 unfold Zqh ZiG
 by_cases h:Zbj c.2.1=true
 ·have h1:=hf.set (by rw [hk]; exact h)
  have e:d.2.2.2.2.2.1=rsL (tkT s).2:=by rw [hs]; exact if_pos h
  rw [e] at h1
  have hl:=Ze4 h1
  have hb:=ZM5 h1
  rw [if_pos h,ZG0 (by rw [e]; omega),e,(ZOt hb).2]
  exact ZvL
 ·have h1:=(hf.set0 (by rw [hk]; exact h)).1
  rw [if_neg h,ZG1 (by rw [h1]; decide)]
  exact Zgx
theorem ZM7 (hf:ZiH d) (hk:d.2.1=c.2.1) (hs:d.2.2.2.2.2.2.1=fOp c s):Zb5 Za4 (opK d ++ T) s=true↔ZAN c s∧Zb5 Za4 T (rOp c s)=true:=by
 unfold ZAN rOp
 by_cases h:c.2.1=8
 ·have h1:=hf.op (by rw [hk]; exact h)
  have e:d.2.2.2.2.2.2.1=opV (tkT s).2:=by rw [hs]; exact if_pos h
  rw [e] at h1
  have hne:¬ opV (tkT s).2=0:=by omega
  have hb:opB (tkT s).2=true:=Zcz.2 hne
  rw [if_pos h,ZKe (by rw [e]; omega),e,ZM6 hne]
  exact ZvL
 ·have h1:=hf.op0 (by rw [hk]; exact h)
  rw [if_neg h,ZKf (by rw [h1]; decide)]
  exact Zgx
theorem ZKx (hf:ZiH d) (hk:d.2.1=c.2.1) (hs:d.2.2.1=ZAK c s):Zb5 Za4 (boxK d ++ T) s=true↔Zqi c s∧Zb5 Za4 T (ZIh c s)=true:=by
 unfold Zqi ZIh
 by_cases h:ZaX c.2.1=true
 ·have h1:=Zs6 (hf.box (by rw [hk]; exact h))
  have e:d.2.2.1=(tkT s).2:=by rw [hs]; exact if_pos h
  rw [if_pos h,ZG2 h1,e]
  exact ZvX
 ·have h1:=hf.box0 (by rw [hk]; exact h)
  rw [if_neg h,ZG3 (fun q=>q h1)]
  exact Zgx
theorem ZM8 (hf:ZiH d) (hk:d.2.1=c.2.1) (hs:d.2.2.2.1=fTo c s):Zb5 Za4 (toK d ++ T) s=true↔ZAO c s∧Zb5 Za4 T (rTo c s)=true:=by
 unfold ZAO rTo
 by_cases h:c.2.1=14
 ·have h1:=Zs6 (hf.to (by rw [hk]; exact h))
  have e:d.2.2.2.1=(tkT s).2:=by rw [hs]; exact if_pos h
  rw [if_pos h,ZKg h1,e]
  exact ZvX
 ·have h1:=hf.to0 (by rw [hk]; exact h)
  rw [if_neg h,ZKh (fun q=>q h1)]
  exact Zgx
theorem ZKy (ws:List ByteArray) (t:List GToken):grK ws ++ t=gpK ws t:=by
 unfold grK gpK
 rw [Znw ws _ (Nat.le_refl _),List.take_length]
 exact Zc8
theorem ZIt (hf:ZiH d) (hk:d.2.1=c.2.1) (hs:d.2.2.2.2.2.2.2.1=fFl c s) (h:fl7 c.2.1=true):(boI ZaB (Ze8 s) 0).2=true∧d.2.2.2.2.2.2.2.1=(boI ZaB (Ze8 s) 0).1:=by
 have h1:=hf.fl
 rw [hs] at h1 ⊢
 unfold fFl at h1 ⊢
 rw [if_pos h] at h1 ⊢
 by_cases hb:(boI ZaB (Ze8 s) 0).2=true
 ·rw [if_pos hb]
  exact ⟨hb,rfl⟩
 ·rw [if_neg hb] at h1
  exact absurd h1 (by decide)
theorem ZM9 (hb:fl7 c.2.1=true→(boI ZaB (Ze8 s) 0).2=true):Zb5 Za4 (kFl c s ++ T) s=true↔ZAP c s∧Zb5 Za4 T (rFl c s)=true:=by
 unfold ZAP rFl kFl
 by_cases h:fl7 c.2.1=true
 ·rw [if_pos h,if_pos h,ZKy]
  refine ⟨fun q=>?_,fun ⟨q1,q2⟩=>?_⟩
  ·obtain ⟨b,t,e,_,h3⟩:=ZOl q
   refine ⟨fun _=>⟨⟨b,t,e⟩,hb h⟩,?_⟩
   rw [e,ZBb]
   exact h3
  ·obtain ⟨⟨ws,t,e⟩,_⟩:=q1 h
   rw [e,ZBb] at q2
   rw [e,ZBa]
   exact ZOk (Zx1 ws) q2
 ·rw [if_neg h,if_neg h]
  exact Zgx
theorem ZNa (hk:d.2.1=c.2.1) (hs:d.2.2.2.2.2.2.2.2.1=fTx c s):Zb5 Za4 (txK d ++ T) s=true↔Zw6 c s∧Zb5 Za4 T (rTx c s)=true:=by
 unfold Zw6 rTx
 by_cases h:c.2.1=11
 ·have e:d.2.2.2.2.2.2.2.2.1=(tkT s).2:=by rw [hs]; exact if_pos h
  rw [if_pos h,ZKj (by rw [hk]; exact h),e]
  refine ⟨fun q=>?_,fun ⟨q1,q2⟩=>?_⟩
  ·obtain ⟨y,ys,rfl,h1,h2⟩:=Zeh q
   have e2:=Zqn (by show ¬ (2:Int)=1; decide) h1
   exact ⟨fun _=>⟨_,ys,by rw [e2]⟩,h2⟩
  ·obtain ⟨w,t,rfl⟩:=q1 h
   rw [ZAL]
   refine ZpH ?_ q2
   show Za4 (2,w) (2,w)=true
   unfold Za4
   rw [ZaE.2 rfl,Zav.2 rfl]
   rfl
 ·rw [if_neg h,ZH7 (by rw [hk]; exact h)]
  exact Zgx
theorem ZNb (hf:ZiH d) (hk:d.2.1=c.2.1) (hs:d.2.2.2.2.2.2.2.2.2=fFi c s):Zb5 Za4 (fiK d) s=true↔ZAQ c s:=by
 unfold ZAQ
 by_cases h:c.2.1=6
 ·have e:d.2.2.2.2.2.2.2.2.2=if rdB s=true then rdI s else (true,[]):=by rw [hs]; exact if_pos h
  rw [if_pos h,ZKk (by rw [hk]; exact h),e]
  have h1:=hf.fi
  rw [e] at h1
  by_cases hb:rdB s=true
  ·have e2:rdI s=rdF s:=if_pos hb
   rw [if_pos hb,e2]
   have hb':=hb
   unfold rdB at hb'
   rw [Bool.and_eq_true] at hb'
   exact ⟨fun _=>hb,fun _=>hb'.2⟩
  ·rw [if_neg hb] at h1
   exact absurd h1 (by decide)
 ·rw [if_neg h,ZH9 (by rw [hk]; exact h)]
  cases s with
  | nil=>exact ⟨fun _=>rfl,fun _=>rfl⟩
  | cons t s =>
   refine ⟨fun q=>?_,fun q=>?_⟩
   ·cases q
   ·cases q
end
theorem ZKz {c:GCommand} {s:List GToken} (hf:ZiH (Za8 c s)):Zb5 Za4 (setK (Za8 c s) ++ (opK (Za8 c s) ++ (boxK (Za8 c s) ++ (toK (Za8 c s) ++ (ZfB c s ++ (txK (Za8 c s) ++ fiK (Za8 c s))))))) s=true↔ZlU c s:=by
 unfold ZlU
 have e1:=ZKw (c:=c) (s:=s) (T:=opK (Za8 c s) ++ (boxK (Za8 c s) ++ (toK (Za8 c s) ++ (ZfB c s ++ (txK (Za8 c s) ++ fiK (Za8 c s)))))) hf rfl rfl
 have e2:=ZM7 (c:=c) (s:=ZiG c s) (T:=boxK (Za8 c s) ++ (toK (Za8 c s) ++ (ZfB c s ++ (txK (Za8 c s) ++ fiK (Za8 c s))))) hf rfl rfl
 have e3:=ZKx (c:=c) (s:=rz3 c s) (T:=toK (Za8 c s) ++ (ZfB c s ++ (txK (Za8 c s) ++ fiK (Za8 c s)))) hf rfl rfl
 have e4:=ZM8 (c:=c) (s:=rz4 c s) (T:=ZfB c s ++ (txK (Za8 c s) ++ fiK (Za8 c s))) hf rfl rfl
 have e5:=ZM9 (c:=c) (s:=rz5 c s) (T:=txK (Za8 c s) ++ fiK (Za8 c s)) (fun h=>(ZIt (c:=c) (s:=rz5 c s) hf rfl rfl h).1)
 have e6:=ZNa (d:=Za8 c s) (c:=c) (s:=rz6 c s) (T:=fiK (Za8 c s)) rfl rfl
 refine e1.trans (and_congr_right fun _=>(e2.trans (and_congr_right fun _=>(e3.trans ?_))))
 refine and_congr_right fun _=>(e4.trans ?_)
 refine and_congr_right fun _=>(e5.trans ?_)
 refine and_congr_right fun _=>(e6.trans ?_)
 refine and_congr_right fun h6=>?_
 exact ZNb hf rfl (ZCI h6).symm
theorem ZHb:∀ k:Nat,k < 16→kdI (upT (Zaa kwW k))=((k:Nat):Int)∧(1≤k→Za3 ((k:Nat):Int)=Zaa kwW k∧kdN (upT (Zaa kwW k)) 15=((k:Nat):Int)):=by decide +kernel
theorem ZKA {w:ByteArray} (h:0≤kdI w):∃ k,k < 16∧upT (Zaa kwW k)=w:=by
 have h':=h
 unfold kdI at h'
 obtain ⟨z,hz,he⟩:=List.any_eq_true.1 ((ZoK (p:=fun z:ByteArray=>eqS (upT z) w) kwW).1 h')
 obtain ⟨k,hk,rfl⟩:=List.getElem_of_mem hz
 have h3:kwW[k]?=some (Zaa kwW k):=Zat (t:=Zah) hk
 rw [List.getElem?_eq_getElem hk] at h3
 rw [Option.some.inj h3] at he
 exact ⟨k,hk,Zav.1 he⟩
theorem ZHc {w:ByteArray}:∀ {n:Nat},¬ kdN w n=0→∃ k,1≤k∧k≤n∧upT (Za3 ((k:Nat):Int))=w
 | 0,h=>absurd rfl h
 | n + 1,h=>by
  unfold kdN at h
  split at h
  ·rename_i h1
   exact ⟨n + 1,by omega,Nat.le_refl _,Zav.1 h1⟩
  ·obtain ⟨k,h1,h2,h3⟩:=ZHc h
   exact ⟨k,h1,by omega,h3⟩
theorem ZOV {w:ByteArray} (h:1≤kdI w):kdN w 15=kdI w∧upT (Za3 (kdI w))=w:=by
 obtain ⟨k,hk,e⟩:=ZKA (w:=w) (by omega)
 obtain ⟨h1,h2⟩:=ZHb k hk
 rw [e] at h1 h2
 obtain ⟨h3,h4⟩:=h2 (by omega)
 rw [h1]
 exact ⟨h4,by rw [h3]; exact e⟩
theorem ZP2 {w:ByteArray} (h:¬ kdN w 15=0):kdI w=kdN w 15∧1≤kdI w:=by
 obtain ⟨k,h1,h2,e⟩:=ZHc h
 obtain ⟨h3,h4⟩:=ZHb k (by omega)
 obtain ⟨h5,h6⟩:=h4 h1
 rw [h5] at e
 rw [e] at h3 h6
 rw [h3,h6]
 exact ⟨rfl,by omega⟩
theorem ZKB:upT (⟨#[117,105,100]⟩:ByteArray)=ZMl:=by decide +kernel
def Zrw (l:List GToken):Prop:=Atm l∧(Atm (Zac 1 l)∧(pU l=true→Atm (Zac 1 (Zac 1 l))))
theorem ZIu {l T:List GToken} {d:GCommand} (ht:d.1=(tkT l).2) (hu:d.2.2.2.2.1=pU l) (hk:upT (Za3 d.2.1)=pW l):Zb5 Za4 ([Zan d.1] ++ (uidK d ++ ([Zan (Za3 d.2.1)] ++ T))) l=true↔Zrw l∧Zb5 Za4 T (pS l)=true:=by
 unfold Zrw pS
 have e1:=ZAR (a:=d.1) (s:=l) (T:=uidK d ++ ([Zan (Za3 d.2.1)] ++ T)) (fun _=>by rw [ht])
 refine Iff.trans e1 ?_
 unfold pW at hk
 cases hU:pU l with
 | true =>
  rw [hU,if_pos rfl] at hk
  rw [ZGY (hu.trans hU),if_pos rfl]
  have hU2:upT (tkT (Zac 1 l)).2=ZMl:=Zav.1 hU
  have e2:=ZAR (a:=(⟨#[117,105,100]⟩:ByteArray)) (s:=Zac 1 l) (T:=[Zan (Za3 d.2.1)] ++ T) (fun _=>by rw [ZKB,hU2])
  have e3:=ZAR (a:=Za3 d.2.1) (s:=Zac 1 (Zac 1 l)) (T:=T) (fun _=>hk)
  refine ⟨fun ⟨q1,q2⟩=>?_,fun ⟨⟨q1,q2,q3⟩,q4⟩=>⟨q1,e2.2 ⟨q2,e3.2 ⟨q3 rfl,q4⟩⟩⟩⟩
  obtain ⟨q3,q4⟩:=e2.1 q2
  obtain ⟨q5,q6⟩:=e3.1 q4
  exact ⟨⟨q1,q3,fun _=>q5⟩,q6⟩
 | false =>
  rw [hU,if_neg (by decide)] at hk
  rw [ZGZ (by rw [hu,hU]; decide),if_neg (by decide)]
  have e3:=ZAR (a:=Za3 d.2.1) (s:=Zac 1 l) (T:=T) (fun _=>hk)
  refine ⟨fun ⟨q1,q2⟩=>?_,fun ⟨⟨q1,q2,q3⟩,q4⟩=>⟨q1,e3.2 ⟨q2,q4⟩⟩⟩
  obtain ⟨q3,q4⟩:=e3.1 q2
  exact ⟨⟨q1,q3,fun x=>by cases x⟩,q4⟩
theorem ZmI {l:List GToken} (hp:l.length≤1048576):((sR l).2.2=false→Zrw l)∧(Zrw l→St6 (sR l) (pS l)∧ZaA (l,0,false) 1=(tkT l).2∧sU l=pU l∧sW l=pW l):=by
 have h0:=ZPI hp
 have k1:Atm l→St6 (sU1 l) (Zac 1 l)∧ZaA (l,0,false) 1=(tkT l).2:=fun h=>Zru h0 h
 have k2:Atm l→Atm (Zac 1 l)→St6 (sU2 l) (Zac 1 (Zac 1 l))∧ZaA (sU1 l) 1=(tkT (Zac 1 l)).2:=fun h h2=>Zru (k1 h).1 h2
 have k3:Atm l→Atm (Zac 1 l)→sU l=pU l:=fun h h2=>by
  unfold sU pU
  rw [(k2 h h2).2]
 refine ⟨fun hb=>?_,fun ⟨a1,a2,a3⟩=>?_⟩
 ·have b2:(sU2 l).2.2=false:=by
   unfold sR at hb
   split at hb
   ·exact ZgH hb
   ·exact hb
  have b1:(sU1 l).2.2=false:=ZgH b2
  have a1:=ZAM h0 b1
  have a2:=ZAM (k1 a1).1 b2
  refine ⟨a1,a2,fun hU=>?_⟩
  unfold sR at hb
  rw [k3 a1 a2,if_pos hU] at hb
  exact ZAM (k2 a1 a2).1 hb
 ·have t1:=k1 a1
  have t2:=k2 a1 a2
  have e:=k3 a1 a2
  refine ⟨?_,t1.2,e,?_⟩
  ·unfold sR pS
   rw [e]
   split
   ·rename_i hU
    exact (Zru t2.1 (a3 hU)).1
   ·exact t2.1
  ·unfold sW pW
   rw [e]
   split
   ·rename_i hU
    rw [(Zru t2.1 (a3 hU)).2]
   ·rw [t2.2]
theorem ZHd (l:List GToken):(sR l).1=l:=by
 have h1:(sU1 l).1=l:=ZfZ _ 1
 have h2:(sU2 l).1=l:=(ZfZ _ 1).trans h1
 unfold sR
 split
 ·exact (ZfZ _ 1).trans h2
 ·exact h2
theorem ZIv:∀ b:Nat,b < 32→1≤b→¬ (ZaO ZaB ((b:Nat):Int) 5).length=0:=by decide +kernel
theorem ZKC:∀ j:Nat,j < 5→∀ i:Nat,i < 8→¬ Zap (Zaa ZaB j) i=32:=by decide +kernel
theorem Zrx {b:Int} (h:ZaC b=true):wdK b=at1 (ZaO ZaB b 5):=by
 have hb:=Zaz.1 (show btw b 0 31=true from h)
 unfold wdK
 by_cases h0:0 < b
 ·rw [if_pos h0]
  have hn:=ZIv b.toNat (by omega) (by omega)
  rw [show ((b.toNat:Nat):Int)=b by omega] at hn
  have e:Zaf (Zww b) 32=ZaO ZaB b 5:=by
   unfold Zww
   rw [if_pos h]
   refine Zqr (c:=32) (fun q=>hn (by rw [q]; rfl)) (fun w hw i hi=>?_)
   obtain ⟨j,hj,rfl⟩:=ZjB hw
   have hs:=Zp9 j
   exact ZKC j hj i (by omega)
  rw [e,Znw _ _ (Nat.le_refl _),List.take_length]
 ·obtain rfl:b=0:=by omega
  rw [if_neg h0]
  rfl
theorem Zzb {P Q:List GToken} (h:∀ t ∈ P,t.1=1):pIx (P ++ ZdK :: Q)=((P.length:Nat):Int):=by
 unfold pIx
 refine ZEv (x:=ZdK) ?_ ?_ (Zem.2 rfl)
 ·rw [List.take_append_of_le_length (Nat.le_refl _),List.take_length,List.any_eq_false]
  intro t ht hq
  have e:=Zem.1 hq
  have:=h t ht
  rw [← e] at this
  exact absurd this (by decide)
 ·rw [List.getElem?_append_right (Nat.le_refl _),Nat.sub_self]
  rfl
section
variable {d:GCommand}
theorem ZIw:∀ t ∈ uidK d,t.1=1:=fun t ht=>by
 unfold uidK at ht
 exact Zh6
theorem ZIx:∀ t ∈ setK d,t.1=1:=fun t ht=>by
 unfold setK at ht
 exact Zh6
theorem ZKD:∀ t ∈ opK d,t.1=1:=fun t ht=>by
 unfold opK at ht
 exact Zh6
theorem ZIy:∀ t ∈ boxK d,t.1=1:=fun t ht=>by
 unfold boxK at ht
 exact Zh6
theorem ZKE:∀ t ∈ toK d,t.1=1:=fun t ht=>by
 unfold toK at ht
 exact Zh6
def hdK (d:GCommand):List GToken:=[Zan d.1] ++ (uidK d ++ ([Zan (Za3 d.2.1)] ++ (setK d ++ (opK d ++ (boxK d ++ toK d)))))
theorem ZHe:∀ t ∈ hdK d,t.1=1:=fun t ht=>by
 unfold hdK at ht
 simp only [List.mem_append,List.mem_singleton] at ht
 rcases ht with rfl | h | rfl | h | h | h | h
 ·rfl
 ·exact ZIw t h
 ·rfl
 ·exact ZIx t h
 ·exact ZKD t h
 ·exact ZIy t h
 ·exact ZKE t h
theorem Znc (h:ZbQ d=true):Zas d=hdK d ++ (flK d ++ (txK d ++ fiK d)):=by
 unfold Zas hdK
 rw [if_neg (by rw [h]; decide)]
 exact Zc8
end
theorem ZHf {l:List GToken} (h:ZbQ (pC l)=true):pT2 l=hdK (pC l) ++ (pF l ++ (txK (pC l) ++ fiK (pC l))):=by
 have hf:=Zes h
 have e:=Znc h
 unfold pT2
 by_cases h7:fl7 (pC l).2.1=true
 ·have hb:=ZIt (d:=pC l) (c:=p0 l) (s:=rz5 (p0 l) (pS l)) hf rfl rfl h7
  have hk:(pC l).2.1=8∨(pC l).2.1=11:=by
   exact ZoZ
  have hw:=Zrx hf.fl
  have hF:pF l=grK (Ze8 (rz5 (p0 l) (pS l))):=if_pos h7
  have hc:=(ZCB (ws:=Ze8 (rz5 (p0 l) (pS l))) (b:=0) (Int.le_refl _) (by decide) hb.1).1
  have h0:ZG9 0=0:=by decide
  rw [h0,← hb.2] at hc
  have hlen:(wdK (pC l).2.2.2.2.2.2.2.1).length + 2=(pF l).length:=by
   rw [hw,Znu,hF,Zny]
   show ZG9 _ + 2=_
   omega
  rw [ZH6 hk] at e
  have e1:Zas (pC l)=hdK (pC l) ++ ZdK :: (wdK (pC l).2.2.2.2.2.2.2.1 ++ Za5 :: (txK (pC l) ++ fiK (pC l))):=by
   rw [e]
   exact Zc8
  have hx:pIx (Zas (pC l))=(((hdK (pC l)).length:Nat):Int):=by
   rw [e1]
   exact Zzb ZHe
  rw [if_pos ⟨h7,by rw [hx]; omega⟩,hx,Int.toNat_natCast]
  have t1:(Zas (pC l)).take (hdK (pC l)).length=hdK (pC l):=by
   rw [e1,List.take_left]
  have t2:(Zas (pC l)).drop ((hdK (pC l)).length + (pF l).length)=txK (pC l) ++ fiK (pC l):=by
   rw [e1,← List.drop_drop,List.drop_left,← hlen]
   show List.drop ((wdK (pC l).2.2.2.2.2.2.2.1).length + 1) (wdK (pC l).2.2.2.2.2.2.2.1 ++ Za5 :: (txK (pC l) ++ fiK (pC l)))=_
   rw [← List.drop_drop,List.drop_left]
   rfl
  rw [t1,t2,List.append_assoc]
 ·have hk:¬ ((pC l).2.1=8∨(pC l).2.1=11):=fun q=>h7 (by
   unfold fl7
   rw [Bool.or_eq_true,ZaE,ZaE]
   exact q)
  have hF:pF l=[]:=if_neg h7
  rw [if_neg (fun q=>h7 q.1),e,hF,ZKi hk]
theorem ZKF (l:List GToken):pB l=true↔ZbQ (pC l)=true∧(Zrw l∧ZlU (p0 l) (pS l)):=by
 have key:ZbQ (pC l)=true→(Zb5 Za4 (pT2 l) l=true↔Zrw l∧ZlU (p0 l) (pS l)):=fun h=>by
  have hf:=Zes h
  have hk1:(1:Int)≤kdI (pW l):=hf.kind.1
  rw [ZHf h]
  unfold hdK
  simp only [List.append_assoc]
  have e1:=ZIu (l:=l) (T:=setK (pC l) ++ (opK (pC l) ++ (boxK (pC l) ++ (toK (pC l) ++ (pF l ++ (txK (pC l) ++ fiK (pC l))))))) (d:=pC l) rfl rfl (ZOV hk1).2
  have e2:=ZKz (c:=p0 l) (s:=pS l) hf
  exact e1.trans (and_congr_right fun _=>e2)
 refine ⟨fun h=>?_,fun ⟨h,h2⟩=>?_⟩
 ·unfold pB at h
  rw [Bool.and_eq_true,Bool.and_eq_true] at h
  have hc:ZbQ (pC l)=true:=by
   cases hc:ZbQ (pC l) with
   | true=>rfl
   | false =>
    have e:Zas (pC l)=[]:=if_pos hc
    rw [e] at h
    exact absurd h.1 (by decide)
  exact ⟨hc,(key hc).1 h.2.1⟩
 ·have h3:=(key h).2 h2
  obtain ⟨w,t,e⟩:=h2.1.1
  have hl:¬ (((Zas (pC l)).length:Nat):Int)=0:=by
   rw [Znc h]
   unfold hdK
   exact Zo2
  have ht:(Zag l 0).2=(pC l).1:=by
   show _=(tkT l).2
   rw [e,ZAL]
   rfl
  unfold pB
  rw [Zcz.2 hl,h3,Zav.2 ht]
  rfl
theorem ZOW {l:List GToken} (hp:l.length≤1048576) (hd:Zrw l) (hk:kdN (sW l) 15=kdI (pW l)):s0 l=p0 l∧St6 (sR l) (pS l):=by
 obtain ⟨t,e1,e2,e3⟩:=(ZmI hp).2 hd
 refine ⟨?_,t⟩
 unfold s0 p0
 rw [hk,e1,e2]
theorem ZNc {l:List GToken} (hp:l.length≤1048576):(sB l=true↔ZbQ (pC l)=true∧(Zrw l∧ZlU (p0 l) (pS l)))∧(sB l=true→sC l=pC l):=by
 have f1:=ZHd l
 have fwd:sB l=true→(ZbQ (pC l)=true∧(Zrw l∧ZlU (p0 l) (pS l)))∧sC l=pC l:=fun h=>by
  unfold sB at h
  simp only [Bool.and_eq_true,Bool.not_eq_true',Zcz,Zbz] at h
  obtain ⟨b1,hk,b2,ha,hc⟩:=h
  have hd:=(ZmI hp).1 b1
  have e3:=((ZmI hp).2 hd).2.2.2
  have hk2:=ZP2 hk
  rw [e3] at hk2
  obtain ⟨e0,t⟩:=ZOW hp hd (by rw [e3]; exact hk2.1.symm)
  rw [e0] at b2 ha
  have g:=(Zw9 t).1 ⟨b2,by rw [f1]; exact ha⟩
  have hC:sC l=pC l:=by
   unfold sC
   rw [e0]
   exact ((Zw9 t).2 g).1
  rw [hC] at hc
  exact ⟨⟨hc,hd,g⟩,hC⟩
 refine ⟨⟨fun h=>(fwd h).1,fun ⟨hc,hd,g⟩=>?_⟩,fun h=>(fwd h).2⟩
 have hf:=Zes hc
 have hk1:(1:Int)≤kdI (pW l):=hf.kind.1
 have e3:=((ZmI hp).2 hd).2.2.2
 have hk:=(ZOV hk1).1
 obtain ⟨e0,t⟩:=ZOW hp hd (by rw [e3]; exact hk)
 obtain ⟨eC,b,a⟩:=(Zw9 t).2 g
 rw [f1] at a
 have hC:sC l=pC l:=by
  unfold sC
  rw [e0]
  exact eC
 unfold sB
 rw [hC,hc,e0,b,t.1.1,Zbz.2 a,e3,hk,Zcz.2 (by omega)]
 rfl
theorem ZIz {l:List GToken} (hp:l.length≤1048576):pB l=sB l∧pR l=sP l:=by
 have h1:=ZKF l
 obtain ⟨h2,h3⟩:=ZNc hp
 have hb:pB l=sB l:=by
  rw [Bool.eq_iff_iff,h1,h2]
 refine ⟨hb,?_⟩
 unfold pR sP
 rw [hb]
 cases hs:sB l with
 | true=>rw [if_pos rfl,if_pos rfl,h3 hs]
 | false=>rfl
theorem ZNd {l:List GToken} (h:pB l=true):ZbQ (pR l)=true:=by
 have e:pR l=pC l:=if_pos h
 rw [e]
 exact ((ZKF l).1 h).1
end Go.Proofs.YtkeglpnnedflnaaGreatDoor
