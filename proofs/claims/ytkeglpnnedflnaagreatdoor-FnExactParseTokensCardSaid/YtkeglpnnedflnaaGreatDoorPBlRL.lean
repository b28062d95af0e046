import Derived.Test.YtkeglpnnedflnaaGreatDoorPBlR9
import Derived.Test.YtkeglpnnedflnaaGreatDoorPBlRf
set_option linter.unusedSimpArgs false
set_option linter.unusedVariables false
set_option maxRecDepth 100000
namespace Go.Proofs.YtkeglpnnedflnaaGreatDoor
open Go.ChangeShapes Go.WideShapes Go.ChangeAt Go.RowKit Go.Joins Go.Deep
open GoRep (rep bulk)
theorem ZLg:∀ k:Nat,k < 5→1≤k→kd6 (upT (Zaa scW k)) 4=((k:Nat):Int)∧ZaM (fun z:ByteArray=>eqS (upT z) (upT (Zaa scW k))) scW=((k:Nat):Int):=by decide +kernel
theorem ZLh:∀ k:Nat,k < 4→ZaM (fun z:ByteArray=>eqS (upT z) (upT (Zaa evW k))) evW=((k:Nat):Int)∧(if eqS (upT (Zaa evW 3)) (upT (Zaa evW k))=true then (3:Int) else if eqS (upT (Zaa evW 2)) (upT (Zaa evW k))=true then 2 else if eqS (upT (Zaa evW 1)) (upT (Zaa evW k))=true then 1 else if eqS (upT (Zaa evW 0)) (upT (Zaa evW k))=true then 0 else -1)=((k:Nat):Int):=by decide +kernel
theorem ZIY {w:ByteArray} {k:Int} (h:1≤k∧k≤4) (e:upT w=upT (Zaa scW (Int.toNat k))):kd6 (upT w) 4=k∧wIx scW w=k:=by
 have h1:=ZLg (Int.toNat k) (by omega) (by omega)
 have h2:((Int.toNat k:Nat):Int)=k:=by omega
 unfold wIx
 rw [e]
 rw [h2] at h1
 exact h1
theorem ZLi {v:ByteArray}:∀ {n:Nat},1≤kd6 v n→v=upT (Zaa scW (Int.toNat (kd6 v n)))
 | 0,h=>by
  have h:(1:Int)≤0:=h
  omega
 | n + 1,h=>by
  unfold kd6 at h ⊢
  split
  ·rename_i h1
   exact (Zav.1 h1).symm
  ·rename_i h1
   rw [if_neg h1] at h
   exact ZLi h
theorem ZLj {w:ByteArray} {j:Nat} (h:j < 4) (e:upT w=upT (Zaa evW j)):ev6 w 4=((j:Nat):Int)∧wIx evW w=((j:Nat):Int):=by
 have h1:=ZLh j h
 unfold wIx
 rw [e]
 refine ⟨?_,h1.1⟩
 rw [← h1.2]
 unfold ev6 ev6 ev6 ev6 ev6
 rw [e]
 rfl
theorem ZLk {w:ByteArray}:∀ {n:Nat},0≤ev6 w n→upT w=upT (Zaa evW (Int.toNat (ev6 w n)))
 | 0,h=>by
  have h:(0:Int)≤-1:=h
  omega
 | n + 1,h=>by
  unfold ev6 at h ⊢
  split
  ·rename_i h1
   exact (Zav.1 h1).symm
  ·rename_i h1
   rw [if_neg h1] at h
   exact ZLk h
def F2:List ByteArray→List Nat→Prop
 | [],[]=>True
 | w :: ws,j :: js=>(j < 4∧upT w=upT (Zaa evW j))∧F2 ws js
 | _,_=>False
def btJ:List Nat→Int→Int→Int × Bool
 | [],_,b=>(b,true)
 | j :: js,l,b=>if ((j:Nat):Int)≤l then (0,false) else btJ js ((j:Nat):Int) (orI b ((j:Nat):Int))
def boJ:List Nat→Int→Int × Bool
 | [],b=>(b,true)
 | j :: js,b=>if ZHw b ((j:Nat):Int)=true then (0,false) else boJ js (orI b ((j:Nat):Int))
theorem ZOd:∀ {ws:List ByteArray} {js:List Nat} {l b:Int},F2 ws js→bt6 ws l b=btJ js l b
 | [],[],_,_,_=>rfl
 | [],_ :: _,_,_,h=>h.elim
 | _ :: _,[],_,_,h=>h.elim
 | w :: ws,j :: js,l,b,h=>by
  unfold bt6 btJ
  rw [(ZLj h.1.1 h.1.2).1]
  split
  ·rfl
  ·exact ZOd h.2
theorem ZPA:∀ {ws:List ByteArray} {js:List Nat} {b:Int},F2 ws js→boI evW ws b=boJ js b
 | [],[],_,_=>rfl
 | [],_ :: _,_,h=>h.elim
 | _ :: _,[],_,h=>h.elim
 | w :: ws,j :: js,b,h=>by
  unfold boI boJ
  rw [(ZLj h.1.1 h.1.2).2,if_neg (by omega)]
  split
  ·rfl
  ·exact ZPA h.2
def ZOe:Int→List Nat→Prop
 | _,[]=>True
 | l,j :: js=>(l < ((j:Nat):Int)∧j < 4)∧ZOe ((j:Nat):Int) js
theorem ZPB:∀ {ws:List ByteArray} {l b:Int},-1≤l→(bt6 ws l b).2=true→∃ js,F2 ws js∧ZOe l js
 | [],_,_,_,_=>⟨[],trivial,trivial⟩
 | w :: ws,l,b,hl,h=>by
  unfold bt6 at h
  by_cases h1:ev6 w 4≤l
  ·rw [if_pos h1] at h
   cases h
  ·rw [if_neg h1] at h
   have h2:=ZIU w 4
   obtain ⟨js,h3,h4⟩:=ZPB (l:=ev6 w 4) (by omega) h
   have h5:((Int.toNat (ev6 w 4):Nat):Int)=ev6 w 4:=by omega
   refine ⟨Int.toNat (ev6 w 4) :: js,⟨⟨by omega,ZLk (by omega)⟩,h3⟩,⟨by omega,by omega⟩,?_⟩
   rw [h5]
   exact h4
def sbJ:Nat→List (List Nat)
 | 0=>[[]]
 | k + 1=>sbJ k ++ (sbJ k).map (fun js=>(3 - k) :: js)
theorem ZHl:∀ k,[] ∈ sbJ k
 | 0=>List.mem_singleton.2 rfl
 | k + 1=>List.mem_append_left _ (ZHl k)
theorem ZIZ:∀ {k:Nat} {js:List Nat},k≤4→ZOe (3 - ((k:Nat):Int)) js→js ∈ sbJ k
 | k,[],_,_=>ZHl k
 | 0,j :: js,_,h=>by
  have:=h.1
  omega
 | k + 1,j :: js,hk,h=>by
  have h1:=h.1
  by_cases hj:j=3 - k
  ·subst hj
   refine List.mem_append_right _ (List.mem_map.2 ⟨js,ZIZ (by omega) ?_,rfl⟩)
   have h2:=h.2
   rw [show (((3 - k:Nat):Nat):Int)=3 - ((k:Nat):Int) by omega] at h2
   exact h2
  ·exact List.mem_append_left _ (ZIZ (by omega) ⟨⟨by omega,h1.2⟩,h.2⟩)
def evJ (b:Int):List Nat:=[0,1,2,3].filter (fun k=>bitB b k)
theorem ZLl:∀ js ∈ sbJ 4,evJ (btJ js (-1) 0).1=js∧boJ js 0=btJ js (-1) 0:=by decide +kernel
theorem ZLm:∀ b:Nat,b < 16→btJ (evJ ((b:Nat):Int)) (-1) 0=(((b:Nat):Int),true)∧boJ (evJ ((b:Nat):Int)) 0=(((b:Nat):Int),true):=by decide +kernel
theorem ZOf {ws:List ByteArray} (h:(bt6 ws (-1) 0).2=true):F2 ws (evJ (bt6 ws (-1) 0).1):=by
 obtain ⟨js,h1,h2⟩:=ZPB (Int.le_refl _) h
 have h3:=(ZLl js (ZIZ (Nat.le_refl _) h2)).1
 rw [ZOd h1,h3]
 exact h1
theorem ZLn {ws:List ByteArray} {b:Int} (hb:0≤b∧b < 16) (h:F2 ws (evJ b)):bt6 ws (-1) 0=(b,true)∧boI evW ws 0=(b,true):=by
 have h1:=ZLm (Int.toNat b) (by omega)
 rw [show ((Int.toNat b:Nat):Int)=b by omega] at h1
 rw [ZOd h,ZPA h]
 exact h1
def at1 (ws:List ByteArray):List GToken:=ws.map Zan
theorem ZOg {b:Int}:evN b 4=at1 ((evJ b).map (Zaa evW)):=by
 unfold evN evN evN evN evN at1 evJ
 simp only [List.filter_cons,List.filter_nil]
 cases bitB b 0 <;> cases bitB b 1 <;> cases bitB b 2 <;> cases bitB b 3 <;> rfl
set_option maxRecDepth 100000
theorem ZFJ:∀ (ws:List ByteArray) (t:List GToken),atN (at1 ws ++ Za5 :: t)=ws.length
 | [],t=>rfl
 | w :: ws,t=>by
  have h:=ZFJ ws t
  unfold atN at h ⊢
  show ((Zan w :: (at1 ws ++ Za5 :: t)).takeWhile ZFM).length=_
  rw [List.takeWhile_cons_of_pos rfl,List.length_cons,h]
  rfl
theorem Znu (ws:List ByteArray):(at1 ws).length=ws.length:=List.length_map _
theorem ZLo (ws:List ByteArray) (t:List GToken):txN (at1 ws ++ t) ws.length=ws:=by
 unfold txN
 rw [← Znu ws,List.take_left]
 unfold at1
 rw [List.map_map]
 exact List.map_id _
theorem ZLp (ws:List ByteArray) (t:List GToken):(at1 ws ++ t).drop ws.length=t:=by
 rw [← Znu ws]
 exact List.drop_left
def gpK (ws:List ByteArray) (t:List GToken):List GToken:=ZdK :: (at1 ws ++ Za5 :: t)
theorem ZBa (ws:List ByteArray) (t:List GToken):Ze8 (gpK ws t)=ws:=by
 show txN (at1 ws ++ Za5 :: t) (atN (at1 ws ++ Za5 :: t))=ws
 rw [ZFJ,ZLo]
theorem ZBb (ws:List ByteArray) (t:List GToken):ZdC (gpK ws t)=t:=by
 show (gpK ws t).drop (1 + atN (at1 ws ++ Za5 :: t) + 1)=t
 rw [ZFJ,show 1 + ws.length + 1=(ws.length + 1) + 1 by omega]
 show (at1 ws ++ Za5 :: t).drop (ws.length + 1)=t
 rw [← List.drop_drop,ZLp]
 rfl
def rbK (w:ByteArray) (hn:Bool) (nms evs:List ByteArray) (t:List GToken):List GToken:=ZdK :: Zan w :: (if hn=true then gpK nms (gpK evs (Za5 :: t)) else gpK evs (Za5 :: t))
theorem ZHm {w:ByteArray} {hn:Bool} {nms evs:List ByteArray} {t:List GToken} (h:Zlo (wIx scW w)=hn):Zmx (Zac 1 (rbK w hn nms evs t))=(wIx scW w,if hn=true then nms else [],(boI evW evs 0).1)∧Zqq (Zac 1 (rbK w hn nms evs t))=t:=by
 cases hn with
 | true =>
  have e:Zac 1 (rbK w true nms evs t)=Zan w :: gpK nms (gpK evs (Za5 :: t)):=rfl
  have hk:Zlo (ZBf (Zan w :: gpK nms (gpK evs (Za5 :: t))))=true:=h
  have e2:Zac 1 (Zan w :: gpK nms (gpK evs (Za5 :: t)))=gpK nms (gpK evs (Za5 :: t)):=rfl
  rw [e,ZDc hk,ZHC hk,e2,ZBa,ZBb,ZBa,ZBb]
  exact ⟨rfl,rfl⟩
 | false =>
  have e:Zac 1 (rbK w false nms evs t)=Zan w :: gpK evs (Za5 :: t):=rfl
  have hk:Zlo (ZBf (Zan w :: gpK evs (Za5 :: t)))=false:=h
  have e2:Zac 1 (Zan w :: gpK evs (Za5 :: t))=gpK evs (Za5 :: t):=rfl
  rw [e,ZDd hk,ZHD hk,e2,ZBa,ZBb]
  exact ⟨rfl,rfl⟩
def St6 (r:GL6In) (s:List GToken):Prop:=(r.2.2=false∧ok6 r)∧Zac (Int.toNat r.2.1) r.1=s
theorem Zr4 {l s:List GToken} {n:Nat} {t:GToken} (h:Zac n l=t :: s):n < l.length∧Zag l n=t∧Zac (n + 1) l=s:=by
 unfold Zac at h ⊢
 have h1:n < l.length:=by
  have:=congrArg List.length h
  rw [List.length_drop,List.length_cons] at this
  omega
 refine ⟨h1,?_,?_⟩
 ·rw [← ZC9 h1,h]
  rfl
 ·rw [← List.drop_drop,h]
  rfl
theorem ZE3 {r:GL6In} {t:GToken} {s:List GToken} {k:Int} (h:St6 r (t :: s)) (h1:t.1=k) (h2:k=1∨t.2=(⟨#[]⟩:ByteArray)):St6 (Zal r k) s∧ZaA r k=t.2:=by
 obtain ⟨hl,ht,hd⟩:=Zr4 h.2
 have ho:=h.1.2.1
 have hy:ZpC r k=true:=ZMp (by omega) (by rw [ht]; exact h1) (by rw [ht]; exact h2)
 refine ⟨⟨⟨?_,ZcI k h.1.2⟩,?_⟩,?_⟩
 ·rw [ZK9 hy]
  exact h.1.1
 ·rw [ZK9 hy]
  show Zac (Int.toNat (r.2.1 + 1)) r.1=s
  exact Zwd
 ·rw [← ZN2 hy,ht]
theorem ZOh {r:GL6In} {k:Int} (h:ok6 r) (h1:(Zal r k).2.2=false):∃ t s,St6 r (t :: s)∧t.1=k∧(k=1∨t.2=(⟨#[]⟩:ByteArray)):=by
 cases hy:ZpC r k with
 | false =>
  rw [ZPv hy] at h1
  cases h1
 | true =>
  rw [ZK9 hy] at h1
  unfold ZpC at hy
  rw [Bool.and_eq_true,Bool.and_eq_true,Bool.or_eq_true] at hy
  have hl:=ZbN.1 hy.1
  have ho:=h.1
  have hn:Int.toNat r.2.1 < r.1.length:=by omega
  have h2:r.1[Int.toNat r.2.1]?=some (Zag r.1 (Int.toNat r.2.1)):=Zat (t:=Zab) hn
  obtain ⟨_,e⟩:=List.getElem?_eq_some_iff.1 h2
  refine ⟨Zag r.1 (Int.toNat r.2.1),r.1.drop (Int.toNat r.2.1 + 1),⟨⟨h1,h⟩,?_⟩,ZaE.1 hy.2.1,hy.2.2.imp ZaE.1 Zav.1⟩
  rw [← e]
  exact List.drop_eq_getElem_cons hn
theorem ZOi {r:GL6In} (h:ok6 r) (h1:(Zal r 1).2.2=false):∃ w s,St6 r (Zan w :: s):=by
 obtain ⟨t,s,h2,h3,_⟩:=ZOh h h1
 refine ⟨t.2,s,?_⟩
 have:t=Zan t.2:=Prod.ext h3 rfl
 rw [← this]
 exact h2
theorem ZPC {r:GL6In} (h:ok6 r) (h1:(Zal r 3).2.2=false):∃ s,St6 r (ZdK :: s):=by
 obtain ⟨t,s,h2,h3,h4⟩:=ZOh h h1
 refine ⟨s,?_⟩
 have:t=ZdK:=Prod.ext h3 (h4.resolve_left (by decide))
 rw [← this]
 exact h2
theorem ZPD {r:GL6In} (h:ok6 r) (h1:(Zal r 4).2.2=false):∃ s,St6 r (Za5 :: s):=by
 obtain ⟨t,s,h2,h3,h4⟩:=ZOh h h1
 refine ⟨s,?_⟩
 have:t=Za5:=Prod.ext h3 (h4.resolve_left (by decide))
 rw [← this]
 exact h2
theorem ZLq {r:GL6In} {s:List GToken} {n:Nat} (h:St6 (Zal r 3) s) (hn:n≤s.length):St6 (am6 r n) (s.drop n):=by
 have h1:=h.1.2.1
 have h2:s.length=(Zal r 3).1.length - Int.toNat (Zal r 3).2.1:=by rw [← h.2,ZbH]
 refine ⟨⟨h.1.1,⟨?_,?_⟩,h.1.2.2⟩,?_⟩
 ·show 0≤(Zal r 3).2.1 + ((n:Nat):Int)
  omega
 ·show (Zal r 3).2.1 + ((n:Nat):Int)≤(((Zal r 3).1.length:Nat):Int)
  omega
 ·show (Zal r 3).1.drop (Int.toNat ((Zal r 3).2.1 + ((n:Nat):Int)))=_
  rw [show Int.toNat ((Zal r 3).2.1 + ((n:Nat):Int))=Int.toNat (Zal r 3).2.1 + n by omega,← List.drop_drop]
  exact congrArg (List.drop n) h.2
theorem ZJS {r:GL6In} {ws:List ByteArray} {t:List GToken} (h:St6 r (gpK ws t)):St6 (ZbK r) t∧Zeg r=ws:=by
 have h1:=(ZE3 h rfl (.inr rfl)).1
 have e:ag6 r=at1 ws ++ Za5 :: t:=h1.2
 have h2:=ZLq (n:=ws.length) h1 (by rw [List.length_append,Znu]; omega)
 rw [ZLp] at h2
 have h3:=(ZE3 h2 rfl (.inr rfl)).1
 unfold ZbK Zeg
 rw [e,ZFJ,ZLo]
 exact ⟨h3,rfl⟩
theorem ZC1:∀ (l:List GToken),l=at1 (txN l (atN l)) ++ l.drop (atN l)
 | []=>rfl
 | t :: l=>by
  by_cases h:t.1=1
  ·have e:atN (t :: l)=atN l + 1:=by
    unfold atN
    rw [List.takeWhile_cons_of_pos (by unfold ZFM; rw [decide_eq_true_eq]; exact h),List.length_cons]
   rw [e]
   show t :: l=(1,t.2) :: (at1 (txN l (atN l)) ++ l.drop (atN l))
   rw [← ZC1 l,← h]
  ·have e:atN (t :: l)=0:=by
    unfold atN
    rw [List.takeWhile_cons_of_neg (by unfold ZFM; rw [decide_eq_true_eq]; exact h)]
    rfl
   rw [e]
   rfl
theorem ZgH {r:GL6In} {k:Int} (h:(Zal r k).2.2=false):r.2.2=false:=by
 cases hb:r.2.2 with
 | false=>rfl
 | true =>
  have:=(ZlW r k).2.2.2 hb
  rw [h] at this
  cases this
theorem ZOj {r:GL6In} (h:ok6 r) (h1:(ZbK r).2.2=false):∃ ws t,St6 r (gpK ws t):=by
 have h0:(am6 r (atN (ag6 r))).2.2=false:=ZgH h1
 obtain ⟨s,h2⟩:=ZPC h h0
 have h3:=(ZE3 h2 rfl (.inr rfl)).1
 have e:ag6 r=s:=h3.2
 have h4:=ZLq (n:=atN s) h3 (ZCY s)
 unfold ZbK at h1
 rw [e] at h1
 obtain ⟨t,h5⟩:=ZPD h4.1.2 h1
 have h6:Za5 :: t=s.drop (atN s):=h5.2.symm.trans h4.2
 refine ⟨txN s (atN s),t,?_⟩
 unfold gpK
 rw [h6,← ZC1 s]
 exact h2
theorem ZPE {r:GL6In} {evs:List ByteArray} {t:List GToken} (h:St6 (rc6 r) (gpK evs (Za5 :: t))) (hb:(bt6 evs (-1) 0).2=true):bi6 r=bt6 evs (-1) 0∧St6 (sr6 r) t:=by
 obtain ⟨h6,h7⟩:=ZJS h
 have h8:St6 (re6 r) t:=(ZE3 h6 rfl (.inr rfl)).1
 have e:bi6 r=bt6 evs (-1) 0:=by
  unfold bi6
  rw [h7]
 refine ⟨e,⟨?_,h8.1.2⟩,h8.2⟩
 show ((re6 r).2.2 || !(bi6 r).2)=false
 rw [h8.1.1,e,hb]
 rfl
theorem ZPF {r:GL6In} {w:ByteArray} {nms evs:List ByteArray} {t:List GToken} (h:St6 r (rbK w (decide (3≤kd6 (upT w) 4)) nms evs t)) (hb:(bt6 evs (-1) 0).2=true):sc6 r=(kd6 (upT w) 4,(if decide (3≤kd6 (upT w) 4)=true then nms else []),(bt6 evs (-1) 0).1)∧St6 (sr6 r) t:=by
 have h1:=(ZE3 h rfl (.inr rfl)).1
 obtain ⟨h2,h3⟩:=ZE3 h1 rfl (.inl rfl)
 have hw:wd6 r=upT w:=congrArg upT h3
 by_cases h4:3≤kd6 (upT w) 4
 ·rw [if_pos (decide_eq_true h4)] at h2 ⊢
  have e1:rc6 r=ZbK (rb6 r):=if_pos (by rw [hw]; exact h4)
  have e2:nm6 r=Zeg (rb6 r):=if_pos (by rw [hw]; exact h4)
  obtain ⟨h5,h6⟩:=ZJS h2
  obtain ⟨h7,h8⟩:=ZPE (r:=r) (by rw [e1]; exact h5) hb
  refine ⟨?_,h8⟩
  unfold sc6
  rw [hw,e2,h7]
  exact congrArg (fun z=>(kd6 (upT w) 4,z,(bt6 evs (-1) 0).1)) h6
 ·have hd:¬ decide (3≤kd6 (upT w) 4)=true:=by rw [decide_eq_true_eq]; exact h4
  rw [if_neg hd] at h2 ⊢
  have e1:rc6 r=rb6 r:=if_neg (by rw [hw]; exact h4)
  have e2:nm6 r=[]:=if_neg (by rw [hw]; exact h4)
  obtain ⟨h7,h8⟩:=ZPE (r:=r) (by rw [e1]; exact h2) hb
  refine ⟨?_,h8⟩
  unfold sc6
  rw [hw,e2,h7]
theorem ZRp {r:GL6In} (h:ok6 r) (h1:(sr6 r).2.2=false):∃ w nms evs t,St6 r (rbK w (decide (3≤kd6 (upT w) 4)) nms evs t)∧(bt6 evs (-1) 0).2=true:=by
 have hb:(re6 r).2.2=false∧(!(bi6 r).2)=false:=Bool.or_eq_false_iff.1 h1
 have hb2:(bi6 r).2=true:=by simpa using hb.2
 obtain ⟨evs,t1,h2⟩:=ZOj (ZHj h) (ZgH hb.1)
 obtain ⟨h3,h4⟩:=ZJS h2
 obtain ⟨t,h5⟩:=ZPD h3.1.2 hb.1
 have e:t1=Za5 :: t:=h3.2.symm.trans h5.2
 subst e
 unfold bi6 at hb2
 rw [h4] at hb2
 have h6:∃ nms,St6 (rb6 r) (if decide (3≤kd6 (wd6 r) 4)=true then gpK nms (gpK evs (Za5 :: t)) else gpK evs (Za5 :: t)):=by
  by_cases h7:3≤kd6 (wd6 r) 4
  ·have e1:rc6 r=ZbK (rb6 r):=if_pos h7
   rw [e1] at h2
   obtain ⟨nms,t2,h8⟩:=ZOj (ZCZ h) h2.1.1
   have h9:t2=gpK evs (Za5 :: t):=(ZJS h8).1.2.symm.trans h2.2
   refine ⟨nms,?_⟩
   rw [if_pos (decide_eq_true h7),← h9]
   exact h8
  ·have e1:rc6 r=rb6 r:=if_neg h7
   rw [e1] at h2
   refine ⟨[],?_⟩
   rw [if_neg (by rw [decide_eq_true_eq]; exact h7)]
   exact h2
 obtain ⟨nms,h7⟩:=h6
 obtain ⟨w,s,h8⟩:=ZOi (ZcI 3 h) h7.1.1
 obtain ⟨h9,h10⟩:=ZE3 h8 rfl (.inl rfl)
 obtain ⟨s0,h11⟩:=ZPC h h8.1.1
 have e0:s0=Zan w :: s:=(ZE3 h11 rfl (.inr rfl)).1.2.symm.trans h8.2
 have e1:wd6 r=upT w:=congrArg upT h10
 have e2:=h9.2.symm.trans h7.2
 rw [e1] at e2
 refine ⟨w,nms,evs,t,?_,hb2⟩
 unfold rbK
 rw [← e2,← e0]
 exact h11
def BlK (z:GScope) (s t:List GToken):Prop:=∃ w nms evs,s=rbK w (decide (3≤z.1)) nms evs t∧Zay z=true∧upT w=upT (Zaa scW (Int.toNat z.1))∧(z.2.1=if decide (3≤z.1)=true then nms else [])∧F2 evs (evJ z.2.2)
def BlL:List GScope→List GToken→Prop
 | [],s=>s=[]
 | z :: zs,s=>∃ t,BlK z s t∧BlL zs t
theorem Zqm {z:GScope} (h:Zay z=true):1≤z.2.2∧z.2.2≤15:=by
 unfold Zay at h
 simp only [Bool.and_eq_true,Zaz] at h
 exact h.2.1
theorem ZLr {r:GL6In} (h:ok6 r) (h1:(sr6 r).2.2=false) (hz:Zay (sc6 r)=true):∃ s t,St6 r s∧BlK (sc6 r) s t∧St6 (sr6 r) t:=by
 obtain ⟨w,nms,evs,t,h2,h3⟩:=ZRp h h1
 obtain ⟨e,h4⟩:=ZPF h2 h3
 rw [e] at hz ⊢
 exact ⟨_,t,h2,⟨w,nms,evs,rfl,hz,ZLi (Zcw hz).1.1,rfl,ZOf h3⟩,h4⟩
theorem ZHn {r:GL6In} (h:r.2.2=true):rs6 r=([],r):=Zzm (by unfold go6; rw [h]; exact Bool.and_false _)
theorem ZHo:∀ {n:Nat} {r:GL6In} {s:List GToken},ms6 r≤n→St6 r s→(rs6 r).2.2.2=false→¬ (rs6 r).2.2.1 < ((r.1.length:Nat):Int)→(∀ z ∈ (rs6 r).1,Zay z=true)→BlL (rs6 r).1 s
 | n,r,s,hn,h,h1,h2,h3=>by
  cases hg:go6 r with
  | false =>
   rw [Zzm hg] at h2 ⊢
   show s=[]
   rw [← h.2]
   exact List.drop_of_length_le (by have:=h.1.2.1; have h2:¬ r.2.1 < ((r.1.length:Nat):Int):=h2; omega)
  | true =>
   have hl:=Zql h.1.2 hg
   cases n with
   | zero=>omega
   | succ n =>
    rw [ZC0 h.1.2 hg] at h1 h2 h3 ⊢
    cases hb:(sr6 r).2.2 with
    | true =>
     rw [ZHn hb] at h1
     have h1:(sr6 r).2.2=false:=h1
     rw [hb] at h1
     cases h1
    | false =>
     obtain ⟨s',t,h4,h5,h6⟩:=ZLr h.1.2 hb (h3 _ (List.mem_cons_self ..))
     have e:s'=s:=h4.2.symm.trans h.2
     subst e
     refine ⟨t,h5,ZHo (n:=n) (by omega) h6 h1 ?_ (fun z hz=>h3 z (List.mem_cons_of_mem _ hz))⟩
     rw [Zzk.1]
     exact h2
theorem Zzn {k:Int} (h:1≤k∧k≤4):Zlo k=decide (3≤k):=by
 have:∀ n:Nat,n < 5→Zlo ((n:Nat):Int)=decide ((3:Int)≤((n:Nat):Int)):=by decide
 have h1:=this (Int.toNat k) (by omega)
 rw [show ((Int.toNat k:Nat):Int)=k by omega] at h1
 exact h1
theorem ZLs {z:GScope} {s t:List GToken} (h:BlK z s t):Zmx (Zac 1 s)=z∧Zqq (Zac 1 s)=t∧¬ s.length=0:=by
 obtain ⟨w,nms,evs,rfl,hz,hw,hn,he⟩:=h
 have h1:=Zcw hz
 have h2:=Zqm hz
 have h3:=(ZIY h1.1 hw).2
 have h4:=(ZLn (by omega) he).2
 obtain ⟨h5,h6⟩:=ZHm (w:=w) (hn:=decide (3≤z.1)) (nms:=nms) (evs:=evs) (t:=t) (by rw [h3]; exact Zzn h1.1)
 refine ⟨?_,h6,by unfold rbK; rw [List.length_cons]; omega⟩
 rw [h5,h3,h4,← hn]
theorem ZHp:∀ {zs:List GScope} {s:List GToken},BlL zs s→ZDe s=zs
 | [],s,h=>by
  have h:s=[]:=h
  rw [h]
  rfl
 | z :: zs,s,⟨t,h,h2⟩=>by
  obtain ⟨h3,h4,h5⟩:=ZLs h
  rw [ZnD h5,h3,h4,ZHp h2]
def F3:List ByteArray→List ByteArray→Prop
 | [],[]=>True
 | a :: xs,b :: ys=>upT a=upT b∧F3 xs ys
 | _,_=>False
theorem Zx1:∀ ws:List ByteArray,F3 ws ws
 | []=>trivial
 | _ :: ws=>⟨rfl,Zx1 ws⟩
theorem ZPG:∀ {js:List Nat} {ws:List ByteArray},F2 ws js→F3 (js.map (Zaa evW)) ws
 | [],[],_=>trivial
 | [],_ :: _,h=>h.elim
 | _ :: _,[],h=>h.elim
 | _ :: _,_ :: _,h=>⟨h.1.2.symm,ZPG h.2⟩
theorem ZPH:∀ {js:List Nat} {ws:List ByteArray},(∀ j ∈ js,j < 4)→F3 (js.map (Zaa evW)) ws→F2 ws js
 | [],[],_,_=>trivial
 | [],_ :: _,_,h=>h.elim
 | _ :: _,[],_,h=>h.elim
 | j :: _,_ :: _,h4,h=>⟨⟨h4 j (List.mem_cons_self ..),h.1.symm⟩,ZPH (fun i hi=>h4 i (List.mem_cons_of_mem _ hi)) h.2⟩
theorem Ztd {a b:ByteArray} (h:upT a=upT b):Za4 (Zan a) (Zan b)=true:=by
 unfold Za4
 show (true && (eqS a b || (true && eqS (upT a) (upT b))))=true
 rw [Zav.2 h]
 cases eqS a b <;> rfl
theorem Znv {a:ByteArray} {y:GToken} (h:Za4 (Zan a) y=true):∃ b,y=Zan b∧upT a=upT b:=by
 unfold Za4 at h
 rw [Bool.and_eq_true,Bool.or_eq_true,Bool.and_eq_true] at h
 refine ⟨y.2,Prod.ext (ZaE.1 h.1).symm rfl,?_⟩
 rcases h.2 with h2 | h2
 ·have h2:a=y.2:=Zav.1 h2
  rw [h2]
 ·exact Zav.1 h2.2
theorem Zqn {x y:GToken} (hx:¬ x.1=1) (h:Za4 x y=true):y=x:=by
 unfold Za4 at h
 rw [Bool.and_eq_true,Zba.2 hx,Bool.false_and,Bool.or_false] at h
 exact Prod.ext (ZaE.1 h.1).symm (Zav.1 h.2).symm
theorem Zeh {x:GToken} {xs s:List GToken} (h:Zb5 Za4 (x :: xs) s=true):∃ y ys,s=y :: ys∧Za4 x y=true∧Zb5 Za4 xs ys=true:=by
 cases s with
 | nil=>cases h
 | cons y ys =>
  unfold Zb5 at h
  rw [Bool.and_eq_true] at h
  exact ⟨y,ys,rfl,h.1,h.2⟩
theorem ZpH {x y:GToken} {xs ys:List GToken} (h:Za4 x y=true) (h2:Zb5 Za4 xs ys=true):Zb5 Za4 (x :: xs) (y :: ys)=true:=by
 unfold Zb5
 rw [h,h2]
 rfl
theorem ZLt:∀ {a b:List ByteArray} {t t' : List GToken},F3 a b→Zb5 Za4 t t'=true→Zb5 Za4 (at1 a ++ Za5 :: t) (at1 b ++ Za5 :: t')=true
 | [],[],_,_,_,h=>ZpH (by decide) h
 | [],_ :: _,_,_,h,_=>h.elim
 | _ :: _,[],_,_,h,_=>h.elim
 | _ :: _,_ :: _,_,_,h,h2=>ZpH (Ztd h.1) (ZLt h.2 h2)
theorem ZLu:∀ {a:List ByteArray} {t s:List GToken},Zb5 Za4 (at1 a ++ Za5 :: t) s=true→∃ b t',s=at1 b ++ Za5 :: t'∧F3 a b∧Zb5 Za4 t t'=true
 | [],t,s,h=>by
  obtain ⟨y,ys,e,h1,h2⟩:=Zeh (x:=Za5) (xs:=t) h
  exact ⟨[],ys,by rw [e,Zqn (by decide) h1]; rfl,trivial,h2⟩
 | a :: xs,t,s,h=>by
  obtain ⟨y,ys,e,h1,h2⟩:=Zeh (x:=Zan a) (xs:=at1 xs ++ Za5 :: t) h
  obtain ⟨b,e2,h3⟩:=Znv h1
  obtain ⟨bs,t',e3,h4,h5⟩:=ZLu h2
  exact ⟨b :: bs,t',by rw [e,e2,e3]; rfl,⟨h3,h4⟩,h5⟩
theorem ZOk {a b:List ByteArray} {t t' : List GToken} (h:F3 a b) (h2:Zb5 Za4 t t'=true):Zb5 Za4 (gpK a t) (gpK b t')=true:=ZpH (by decide) (ZLt h h2)
theorem ZOl {a:List ByteArray} {t s:List GToken} (h:Zb5 Za4 (gpK a t) s=true):∃ b t',s=gpK b t'∧F3 a b∧Zb5 Za4 t t'=true:=by
 obtain ⟨y,ys,e,h1,h2⟩:=Zeh h
 obtain ⟨b,t',e2,h3,h4⟩:=ZLu h2
 exact ⟨b,t',by rw [e,e2,Zqn (by decide) h1]; rfl,h3,h4⟩
theorem ZRq {w w' : ByteArray} {hn:Bool} {a a' b b' : List ByteArray} {t t' : List GToken} (hw:upT w=upT w') (ha:hn=true→F3 a a') (hb:F3 b b') (h:Zb5 Za4 t t'=true):Zb5 Za4 (rbK w hn a b t) (rbK w' hn a' b' t')=true:=by
 have h1:Zb5 Za4 (gpK b (Za5 :: t)) (gpK b' (Za5 :: t'))=true:=ZOk hb (ZpH (by decide) h)
 refine ZpH (by decide) (ZpH (Ztd hw) ?_)
 cases hn with
 | true=>exact ZOk (ha rfl) h1
 | false=>exact h1
theorem ZRr {w:ByteArray} {hn:Bool} {a b:List ByteArray} {t s:List GToken} (h:Zb5 Za4 (rbK w hn a b t) s=true):∃ w' a' b' t',s=rbK w' hn a' b' t'∧upT w=upT w'∧F3 b b'∧Zb5 Za4 t t'=true:=by
 have hg:∀ {s:List GToken},Zb5 Za4 (gpK b (Za5 :: t)) s=true→∃ b' t',s=gpK b' (Za5 :: t')∧F3 b b'∧Zb5 Za4 t t'=true:=fun h=>by
  obtain ⟨b',t1,e,h1,h2⟩:=ZOl h
  obtain ⟨y,t',e2,h3,h4⟩:=Zeh h2
  exact ⟨b',t',by rw [e,e2,Zqn (by decide) h3],h1,h4⟩
 obtain ⟨y1,s1,e1,h1,h2⟩:=Zeh h
 obtain ⟨y2,s2,e2,h3,h4⟩:=Zeh h2
 obtain ⟨w',e3,h5⟩:=Znv h3
 cases hn with
 | true =>
  obtain ⟨a',t1,e4,_,h6⟩:=ZOl (show Zb5 Za4 (gpK a (gpK b (Za5 :: t))) s2=true from h4)
  obtain ⟨b',t',e5,h7,h8⟩:=hg h6
  exact ⟨w',a',b',t',by rw [e1,e2,e3,Zqn (by decide) h1,e4,e5]; rfl,h5,h7,h8⟩
 | false =>
  obtain ⟨b',t',e5,h7,h8⟩:=hg (show Zb5 Za4 (gpK b (Za5 :: t)) s2=true from h4)
  exact ⟨w',[],b',t',by rw [e1,e2,e3,Zqn (by decide) h1,e5]; rfl,h5,h7,h8⟩
theorem Znw (ws:List ByteArray):∀ k,k≤ws.length→Zdk ws k=at1 (ws.take k)
 | 0,_=>rfl
 | k + 1,h=>by
  have h1:ws[k]?=some (Zaa ws k):=Zat (t:=Zah) h
  unfold Zdk
  rw [Znw ws k (by omega),List.take_add_one,h1]
  unfold at1
  rw [List.map_append]
  rfl
theorem Zzo (z:GScope) (t:List GToken):Zhp z ++ t=rbK (Zaa scW (Int.toNat z.1)) (decide (3≤z.1)) z.2.1 ((evJ z.2.2).map (Zaa evW)) t:=by
 unfold Zhp ZAy
 rw [ZOg,Znw _ _ (Nat.le_refl _),List.take_length]
 by_cases h:3≤z.1
 ·rw [if_pos h,decide_eq_true h]
  unfold rbK gpK
  rw [if_pos rfl]
  exact Zc8
 ·rw [if_neg h,decide_eq_false h]
  unfold rbK gpK
  rw [if_neg (by decide)]
  exact Zc8
def ZBc:List GScope→List GToken
 | []=>[]
 | z :: zs=>Zhp z ++ ZBc zs
theorem ZC2:∀ (a b:List GScope),ZBc (a ++ b)=ZBc a ++ ZBc b
 | [],b=>rfl
 | z :: a,b=>by
  show Zhp z ++ ZBc (a ++ b)=(Zhp z ++ ZBc a) ++ ZBc b
  rw [ZC2 a b,List.append_assoc]
theorem ZC3 (l:List GScope):∀ k,k≤l.length→Zig l k=Zan (⟨#[115,101,116]⟩:ByteArray) :: ZBc (l.take k)
 | 0,_=>rfl
 | k + 1,h=>by
  have h1:l[k]?=some (Zad l k):=Zat (t:=Zae) h
  unfold Zig
  rw [ZC3 l k (by omega),List.take_add_one,h1,ZC2]
  show _=_ :: (_ ++ (Zhp (Zad l k) ++ []))
  rw [List.append_nil]
  rfl
theorem ZHq:∀ {zs:List GScope} {s:List GToken},BlL zs s→Zb5 Za4 (ZBc zs) s=true
 | [],s,h=>by
  have h:s=[]:=h
  rw [h]
  rfl
 | z :: zs,s,⟨t,⟨w,nms,evs,e,hz,hw,hn,he⟩,h2⟩=>by
  show Zb5 Za4 (Zhp z ++ ZBc zs) s=true
  rw [Zzo,e]
  refine ZRq hw.symm (fun hd=>?_) (ZPG he) (ZHq h2)
  rw [hn,if_pos hd]
  exact Zx1 _
theorem ZLv {b:Int}:∀ j ∈ evJ b,j < 4:=fun j h=>by
 have h1:=(List.mem_filter.1 h).1
 simp only [List.mem_cons,List.not_mem_nil,or_false] at h1
 omega
theorem ZHr:∀ {zs:List GScope} {s:List GToken},Zb5 Za4 (ZBc zs) s=true→ZDe s=zs→(∀ z ∈ zs,Zay z=true)→BlL zs s
 | [],s,h,_,_=>by
  cases s with
  | nil=>rfl
  | cons y ys=>cases h
 | z :: zs,s,h,h1,h2=>by
  have h:Zb5 Za4 (Zhp z ++ ZBc zs) s=true:=h
  rw [Zzo] at h
  obtain ⟨w,nms,evs,t,e,hw,he,ht⟩:=ZRr h
  have hz:=h2 z (List.mem_cons_self ..)
  have h3:=Zcw hz
  have h4:=(ZIY h3.1 hw.symm).2
  obtain ⟨h5,h6⟩:=ZHm (w:=w) (hn:=decide (3≤z.1)) (nms:=nms) (evs:=evs) (t:=t) (by rw [h4]; exact Zzn h3.1)
  rw [ZnD (by rw [e]; unfold rbK; rw [List.length_cons]; omega),e,h5,h6] at h1
  injection h1 with h7 h8
  have h9:=congrArg (fun z:GScope=>z.2.1) h7
  exact ⟨t,⟨w,nms,evs,e,hz,hw.symm,h9.symm,ZPH ZLv he⟩,ZHr ht h8 (fun z hz=>h2 z (List.mem_cons_of_mem _ hz))⟩
theorem ZHs:∀ {zs:List GScope} {r:GL6In} {s:List GToken},BlL zs s→St6 r s→(rs6 r).1=zs∧(rs6 r).2.2.2=false∧¬ (rs6 r).2.2.1 < ((r.1.length:Nat):Int)
 | [],r,s,h,hs=>by
  have h:s=[]:=h
  have h1:=congrArg List.length (hs.2.trans h)
  rw [ZbH,List.length_nil] at h1
  have h2:=hs.1.2.1
  have h3:¬ r.2.1 < ((r.1.length:Nat):Int):=by omega
  rw [Zzm (by unfold go6; rw [Zbz.2 h3]; rfl)]
  exact ⟨rfl,hs.1.1,h3⟩
 | z :: zs,r,s,⟨t,⟨w,nms,evs,e,hz,hw,hn,he⟩,h2⟩,hs=>by
  have h3:=Zcw hz
  have h4:=Zqm hz
  have h5:=(ZIY h3.1 hw).1
  have h6:=(ZLn (by omega) he).1
  have hl:=(Zr4 (hs.2.trans e)).1
  have ho:=hs.1.2.1
  have hg:go6 r=true:=by
   unfold go6
   rw [hs.1.1,ZbN.2 (by omega)]
   rfl
  obtain ⟨e1,h7⟩:=ZPF (r:=r) (w:=w) (nms:=nms) (evs:=evs) (t:=t) (by rw [h5,← e]; exact hs) (by rw [h6])
  rw [h5,h6,← hn] at e1
  obtain ⟨i1,i2,i3⟩:=ZHs h2 h7
  rw [ZC0 hs.1.2 hg]
  refine ⟨?_,i2,?_⟩
  ·show sc6 r :: (rs6 (sr6 r)).1=z :: zs
   rw [i1,e1]
  ·rw [Zzk.1] at i3
   exact i3
theorem ZPI {l:List GToken} (hp:l.length≤1048576):St6 (l,0,false) l:=⟨⟨rfl,ZLe hp⟩,rfl⟩
theorem ZI0 {w:ByteArray} {s:List GToken} (hp:(Zan w :: s).length≤1048576):w60 (Zan w :: s)=upT w∧St6 (r60 (Zan w :: s)) s:=by
 obtain ⟨h1,h2⟩:=ZE3 (ZPI hp) rfl (.inl rfl)
 exact ⟨congrArg upT h2,h1⟩
theorem ZI1 {w:ByteArray} {s:List GToken}:Zjx (Zan w :: s)=eqS (upT w) (⟨#[83,69,84]⟩:ByteArray):=rfl
theorem ZHt:upT (⟨#[115,101,116]⟩:ByteArray)=(⟨#[83,69,84]⟩:ByteArray):=by decide +kernel
theorem ZC4:upT (⟨#[110,111,110,101]⟩:ByteArray)=(⟨#[78,79,78,69]⟩:ByteArray):=by decide +kernel
theorem ZC5 {zs:List GScope} (h:Zar (true,zs)=true):ZbT (true,zs)=Zan (⟨#[115,101,116]⟩:ByteArray) :: ZBc zs:=by
 unfold ZbT
 rw [if_neg (by rw [h]; decide)]
 show (if true=false then _ else _)=_
 rw [if_neg (by decide)]
 show Zig zs zs.length=_
 rw [ZC3 zs _ (Nat.le_refl _),List.take_length]
theorem Zzp {zs:List GScope} (h:Zar (false,zs)=true):ZbT (false,zs)=[Zan (⟨#[110,111,110,101]⟩:ByteArray)]:=by
 unfold ZbT
 rw [if_neg (by rw [h]; decide),if_pos rfl]
theorem ZC6 {zs:List GScope} (h:Zar (true,zs)=true):∀ z ∈ zs,Zay z=true:=fun z hz=>by
 unfold Zar at h
 rw [if_pos rfl,Bool.and_eq_true] at h
 have h2:List.any zs (fun z0:GScope=>!Zay z0)=false:=by simpa using h.2
 simpa using List.any_eq_false.1 h2 z hz
theorem ZRs {l:List GToken} (hp:l.length≤1048576) (h:Zjw l=true):rdB l=true∧rdF l=f6 l:=by
 unfold Zjw at h
 rw [Bool.and_eq_true,Bool.and_eq_true,Bool.and_eq_true,Bool.or_eq_true,Bool.not_eq_true',Bool.not_eq_true'] at h
 obtain ⟨h0,h1,h2,h3⟩:=h
 have h2:=Zbz.1 h2
 have hb:(r60 l).2.2=false:=by
  cases hb:(r60 l).2.2 with
  | false=>rfl
  | true =>
   unfold ZsS at h1
   rw [ZHn hb] at h1
   split at h1
   ·exact hb.symm.trans h1
   ·exact hb.symm.trans h1
 obtain ⟨w,s,h4⟩:=ZOi (ZLe hp) hb
 have e:l=Zan w :: s:=h4.2
 subst e
 obtain ⟨h5,h6⟩:=ZI0 hp
 unfold f6 at h3 ⊢
 unfold rdF rdB
 unfold rdF
 rw [ZI1]
 cases ho:on6 (Zan w :: s) with
 | true =>
  have hw:upT w=(⟨#[83,69,84]⟩:ByteArray):=h5.symm.trans (Zav.1 ho)
  have er:ZsS (Zan w :: s)=rs6 (r60 (Zan w :: s)):=if_pos ho
  rw [ho] at h3
  rw [er] at h1 h2 h3
  have e1:(r60 (Zan w :: s)).1=Zan w :: s:=ZfZ _ _
  have h7:=ZHo (Nat.le_refl _) h6 h1 (by rw [e1]; exact h2) (ZC6 h3)
  have h8:=ZHp h7
  have e2:Zac 1 (Zan w :: s)=s:=rfl
  rw [er,Zav.2 hw,if_pos rfl,e2,h8,ZC5 h3]
  refine ⟨?_,rfl⟩
  rw [Bool.and_eq_true]
  exact ⟨Zcz.2 (by rw [List.length_cons]; omega),ZpH (Ztd (ZHt.trans hw.symm)) (ZHq h7)⟩
 | false =>
  have er:ZsS (Zan w :: s)=([],r60 (Zan w :: s)):=if_neg (by rw [ho]; decide)
  rw [ho] at h0 h3
  rw [er] at h1 h2 h3
  have hw:upT w=(⟨#[78,79,78,69]⟩:ByteArray):=h5.symm.trans (Zav.1 (h0.resolve_left (by decide)))
  have h7:eqS (upT w) (⟨#[83,69,84]⟩:ByteArray)=false:=by
   rw [← h5]
   exact ho
  have e1:(r60 (Zan w :: s)).1=Zan w :: s:=ZfZ _ _
  have h8:s=[]:=by
   rw [← h6.2]
   refine List.drop_of_length_le ?_
   rw [e1]
   have:=h6.1.2.1
   have h2:¬ (r60 (Zan w :: s)).2.1 < (((Zan w :: s).length:Nat):Int):=h2
   omega
  subst h8
  rw [er,h7,if_neg (by decide),Zzp h3]
  refine ⟨?_,rfl⟩
  rw [Bool.and_eq_true]
  exact ⟨by decide,ZpH (Ztd (ZC4.trans hw.symm)) rfl⟩
theorem ZRt {l:List GToken} (hp:l.length≤1048576) (h:rdB l=true):Zjw l=true:=by
 unfold rdB at h
 rw [Bool.and_eq_true] at h
 have hf:Zar (rdF l)=true:=by
  cases hf:Zar (rdF l) with
  | true=>rfl
  | false =>
   have e:ZbT (rdF l)=[]:=if_pos hf
   rw [e] at h
   cases h.1
 have h:=h.2
 unfold Zjw f6
 cases ho:Zjx l with
 | true =>
  have e:rdF l=(true,ZDe (Zac 1 l)):=by
   unfold rdF
   rw [ho,if_pos rfl]
  rw [e] at h hf
  rw [ZC5 hf] at h
  obtain ⟨y,s,e1,h1,h2⟩:=Zeh h
  obtain ⟨w,e2,h3⟩:=Znv h1
  subst e2
  subst e1
  have hw:upT w=(⟨#[83,69,84]⟩:ByteArray):=h3.symm.trans ZHt
  obtain ⟨h5,h6⟩:=ZI0 hp
  have hon:on6 (Zan w :: s)=true:=Zav.2 (h5.trans hw)
  have er:ZsS (Zan w :: s)=rs6 (r60 (Zan w :: s)):=if_pos hon
  have e1:(r60 (Zan w :: s)).1=Zan w :: s:=ZfZ _ _
  have e2:Zac 1 (Zan w :: s)=s:=rfl
  rw [e2] at h2 hf
  obtain ⟨i1,i2,i3⟩:=ZHs (ZHr h2 rfl (ZC6 hf)) h6
  rw [e1] at i3
  rw [er,hon,i1,i2,hf,Zbz.2 i3]
  rfl
 | false =>
  have e:rdF l=(false,[]):=by
   unfold rdF
   rw [ho,if_neg (by decide)]
  rw [e] at h hf
  rw [Zzp hf] at h
  obtain ⟨y,s,e1,h1,h2⟩:=Zeh h
  obtain ⟨w,e2,h3⟩:=Znv h1
  subst e2
  subst e1
  cases s with
  | cons y ys=>cases h2
  | nil =>
   have hw:upT w=(⟨#[78,79,78,69]⟩:ByteArray):=h3.symm.trans ZC4
   obtain ⟨h5,h6⟩:=ZI0 hp
   have hon:on6 [Zan w]=false:=by
    have:on6 [Zan w]=eqS (w60 [Zan w]) (⟨#[83,69,84]⟩:ByteArray):=rfl
    rw [this,h5]
    exact ho
   have er:ZsS [Zan w]=([],r60 [Zan w]):=if_neg (by rw [hon]; decide)
   have e1:(r60 [Zan w]).1=[Zan w]:=ZfZ _ _
   have h7:=congrArg List.length h6.2
   rw [ZbH,e1] at h7
   have h8:[Zan w].length=1:=rfl
   have h9:([]:List GToken).length=0:=rfl
   have h10:¬ (r60 [Zan w]).2.1 < (([Zan w].length:Nat):Int):=by omega
   have hn:eqS (w60 [Zan w]) (⟨#[78,79,78,69]⟩:ByteArray)=true:=Zav.2 (h5.trans hw)
   rw [er,hon,hn]
   show (true && (!(r60 [Zan w]).2.2 && (!ltI (r60 [Zan w]).2.1 (([Zan w].length:Nat):Int) && Zar (false,[]))))=true
   rw [h6.1.1,Zbz.2 h10,hf]
   rfl
theorem ZI2 {l:List GToken} (hp:l.length≤1048576):rdI l=rdS l∧rdB l=Zjw l:=by
 cases h:Zjw l with
 | true =>
  obtain ⟨h1,h2⟩:=ZRs hp h
  exact ⟨((if_pos h1).trans h2).trans (if_pos h).symm,h1⟩
 | false =>
  have h1:rdB l=false:=by
   cases h1:rdB l with
   | false=>rfl
   | true =>
    rw [ZRt hp h1] at h
    cases h
  exact ⟨(ZFP h1).trans (ZpD h).symm,h1⟩
end Go.Proofs.YtkeglpnnedflnaaGreatDoor
