import Derived.Test.YtkeglpnnedflnaaGreatDoorPBlCmd2
import Derived.Test.YtkeglpnnedflnaaGreatDoorPNumLaw
set_option linter.unusedSimpArgs false
set_option linter.unusedVariables false
set_option maxRecDepth 100000
namespace Go.Proofs.YtkeglpnnedflnaaGreatDoor
open Go.ChangeShapes Go.WideShapes Go.ChangeAt Go.RowKit Go.Joins Go.Deep
open GoRep (rep bulk)
theorem Zsb {s w:ByteArray} {A R:List UInt8} (hs:s.data.toList=A ++ (w.data.toList ++ R)) {j:Nat} (hj:j < w.size):Zap s (A.length + j)=Zap w j:=by
 unfold Zap
 rw [hs,List.getD_eq_getElem?_getD,List.getD_eq_getElem?_getD,List.getElem?_append_right (Nat.le_add_right _ _),Nat.add_sub_cancel_left,List.getElem?_append_left (by rw [Array.length_toList]; exact hj)]
theorem ZDg {s w:ByteArray} {b:Int} {A R:List UInt8} {acc:List ByteArray} (hs:s.data.toList=A ++ (w.data.toList ++ R)) (hw:∀ i,i < w.size→¬ Zap w i=b) (h0:paN s b A.length=(acc,A.length)) (hR:R=[]∨∃ c R',R=c :: R'∧((c.toNat:Nat):Int)=b):paN s b (A.length + w.size + 1)=(acc ++ [w],A.length + w.size + 1):=by
 have hsz:s.size=A.length + w.size + R.length:=by
  have h:=congrArg List.length hs
  rw [List.length_append,List.length_append] at h
  have h1:s.data.toList.length=s.data.size:=Array.length_toList
  have h2:w.data.toList.length=w.data.size:=Array.length_toList
  show s.data.size=A.length + w.data.size + R.length
  omega
 have key:∀ j,j≤w.size→paN s b (A.length + j)=(acc,A.length):=by
  intro j
  induction j with
  | zero=>exact fun _=>h0
  | succ j ih =>
   intro hj
   have h1:=Zsb hs (j:=j) (by omega)
   show paN s b ((A.length + j) + 1)=_
   rw [ZKb (by omega) (by rw [h1]; exact hw j (by omega))]
   exact ih (by omega)
 have hb:A.length + w.size=s.size∨Zap s (A.length + w.size)=b:=by
  rcases hR with rfl | ⟨c,R',rfl,hc⟩
  ·exact .inl (by rw [hsz]; rfl)
  ·refine .inr ?_
   unfold Zap
   rw [hs,List.getD_eq_getElem?_getD,List.getElem?_append_right (Nat.le_add_right _ _),Nat.add_sub_cancel_left,List.getElem?_append_right (by rw [Array.length_toList]; exact Nat.le_refl _),Array.length_toList,show w.size - w.data.size=0 from Nat.sub_self _]
   exact hc
 rw [ZFg hb,key _ (Nat.le_refl _)]
 have he:ByteArray.extract s A.length (A.length + w.size)=w:=by
  apply ByteArray.ext
  rw [ByteArray.data_extract]
  apply Array.ext'
  rw [Array.toList_extract,hs,List.extract_eq_take_drop,List.drop_left,Nat.add_sub_cancel_left]
  show List.take w.data.size _=_
  rw [← Array.length_toList,List.take_left]
 show (acc ++ [ByteArray.extract s A.length (A.length + w.size)],_)=_
 rw [he]
def jL (c:UInt8):List ByteArray→List UInt8
 | []=>[]
 | [w]=>w.data.toList
 | w :: w2 :: ws=>w.data.toList ++ c :: jL c (w2 :: ws)
theorem Zyc {s:ByteArray} {c:UInt8}:∀ {ws:List ByteArray} {A:List UInt8} {acc:List ByteArray},ws ≠ []→s.data.toList=A ++ jL c ws→(∀ w ∈ ws,∀ i,i < w.size→¬ Zap w i=((c.toNat:Nat):Int))→paN s ((c.toNat:Nat):Int) A.length=(acc,A.length)→(paN s ((c.toNat:Nat):Int) (s.size + 1)).1=acc ++ ws
 | [],_,_,h,_,_,_=>absurd rfl h
 | [w],A,acc,_,hs,hw,h0=>by
  have hs' : s.data.toList=A ++ (w.data.toList ++ []):=by rw [List.append_nil]; exact hs
  have h:=ZDg hs' (hw w (List.mem_singleton.2 rfl)) h0 (.inl rfl)
  have hsz:s.size=A.length + w.size:=by
   have h:=congrArg List.length hs
   have h:s.data.toList.length=(A ++ w.data.toList).length:=h
   rw [List.length_append] at h
   have h1:s.data.toList.length=s.data.size:=Array.length_toList
   have h2:w.data.toList.length=w.data.size:=Array.length_toList
   show s.data.size=A.length + w.data.size
   omega
  rw [hsz,h]
 | w :: w2 :: ws,A,acc,_,hs,hw,h0=>by
  have h:=ZDg hs (hw w (List.mem_cons_self ..)) h0 (.inr ⟨c,jL c (w2 :: ws),rfl,rfl⟩)
  have hA:(A ++ w.data.toList ++ [c]).length=A.length + w.size + 1:=by
   rw [List.length_append,List.length_append]
   have h2:w.data.toList.length=w.data.size:=Array.length_toList
   show A.length + w.data.toList.length + 1=A.length + w.data.size + 1
   omega
  have hs2:s.data.toList=(A ++ w.data.toList ++ [c]) ++ jL c (w2 :: ws):=by
   rw [List.append_assoc,List.append_assoc]
   exact hs
  have h2:=Zyc (acc:=acc ++ [w]) (by simp) hs2 (fun x hx=>hw x (List.mem_cons_of_mem _ hx)) (by rw [hA]; exact h)
  rw [h2,List.append_assoc]
  rfl
theorem ZDh {c:UInt8} {x:ByteArray}:∀ {ws:List ByteArray},jL c (ws ++ [x])=(if ws=[] then [] else jL c ws ++ [c]) ++ x.data.toList
 | []=>rfl
 | [w]=>by
  show w.data.toList ++ c :: x.data.toList=(w.data.toList ++ [c]) ++ x.data.toList
  rw [List.append_assoc]
  rfl
 | w :: w2 :: ws=>by
  have ih:=ZDh (c:=c) (x:=x) (ws:=w2 :: ws)
  rw [if_neg (by simp)] at ih ⊢
  show w.data.toList ++ c :: jL c (w2 :: ws ++ [x])=((w.data.toList ++ c :: jL c (w2 :: ws)) ++ [c]) ++ x.data.toList
  rw [ih]
  exact Zc8
theorem Zyd (s:ByteArray):(ZdQ s).map (fun n=>UInt8.ofNat n.toNat)=s.data.toList:=by
 unfold ZdQ
 rw [List.map_map]
 conv=>rhs; rw [← List.map_id s.data.toList]
 refine List.map_congr_left fun b _=>?_
 show UInt8.ofNat b.toNat=b
 exact UInt8.ofNat_toNat
theorem ZHE {ws:List ByteArray} {c:UInt8}:∀ k,k≤ws.length→(joN ws ⟨#[c]⟩ k).map (fun n=>UInt8.ofNat n.toNat)=jL c (ws.take k)
 | 0,_=>rfl
 | k + 1,hk=>by
  have ih:=ZHE (ws:=ws) (c:=c) k (by omega)
  rw [List.take_add_one,ZfA (by omega:k < ws.length)]
  show _=jL c (ws.take k ++ [Zaa ws k])
  rw [ZDh]
  by_cases h0:0 < k
  ·rw [ZJ9 h0,List.map_append,List.map_append,ih,Zyd,Zyd,if_neg (by intro h; have:=congrArg List.length h; rw [List.length_take,List.length_nil] at this; omega)]
  ·obtain rfl:k=0:=by omega
   rw [ZKa (by omega),List.map_append,ih,Zyd]
   rfl
theorem Zqr {ws:List ByteArray} {c:UInt8} (hn:ws ≠ []) (hw:∀ w ∈ ws,∀ i,i < w.size→¬ Zap w i=((c.toNat:Nat):Int)):Zaf (joS ws ⟨#[c]⟩) ((c.toNat:Nat):Int)=ws:=by
 have hs:(joS ws ⟨#[c]⟩).data.toList=[] ++ jL c ws:=by
  unfold joS
  rw [Zh0,ZHE _ (Nat.le_refl _),List.take_length]
  rfl
 have h:=Zyc (acc:=[]) hn hs hw rfl
 exact h
set_option maxRecDepth 100000
theorem Zzt {s:ByteArray} {ws:List ByteArray} {c:UInt8} (hn:ws ≠ []) (hs:s.data.toList=jL c ws) (hw:∀ w ∈ ws,∀ i,i < w.size→¬ Zap w i=((c.toNat:Nat):Int)):Zaf s ((c.toNat:Nat):Int)=ws:=Zyc (A:=[]) (acc:=[]) hn hs hw rfl
def ZOs (x:Int):Prop:=x=42∨(48≤x∧x≤57)
theorem ZPL {n:Int} (h:¬ n=0):n4 n=(⟨(Lib.itoa n).toArray⟩:ByteArray):=by
 unfold n4
 rw [Zba.2 h]
 rfl
theorem ZDi {n:Int} (h:¬ n=0):(n4 n).data.toList=Lib.itoa n:=by rw [ZPL h]
theorem ZDj {n:Int} (h0:0≤n) {i:Nat} (hi:i < (n4 n).size):ZOs (Zap (n4 n) i):=by
 by_cases h:n=0
 ·subst h
  have hi:i < 1:=hi
  obtain rfl:i=0:=by omega
  exact .inl rfl
 ·have hl:=ZDi h
  have e:Lib.itoa n=Lib.decDigits n.toNat:=by
   have:=ZkI n.toNat
   rw [show ((n.toNat:Nat):Int)=n by omega] at this
   exact this
  have h1:=ZBZ hi
  have h2:=ZyX n.toNat _ (by rw [← e,← hl]; exact List.mem_of_getElem? h1)
  exact .inr ((ZsN hi h1).1 h2)
def Zfy (s:ByteArray):Int × Bool:=bif eqS s (⟨#[42]⟩:ByteArray) then (0,true) else (Ze3 s,Zi1 s && gtI (Ze3 s) 0)
theorem Zzu:Ze3 (⟨#[42]⟩:ByteArray)=0:=num_no (ZJA (.inr (.inr ⟨0,by decide,by decide⟩)))
theorem ZHF {n:Int} (h0:0≤n) (h1:n≤999999999):Ze3 (n4 n)=n∧Zfy (n4 n)=(n,true):=by
 by_cases h:n=0
 ·subst h
  exact ⟨Zzu,rfl⟩
 ·obtain ⟨h2,h3⟩:=ZHV h0 h1 (ZDi h).symm
  refine ⟨h3,?_⟩
  have hne:eqS (n4 n) (⟨#[42]⟩:ByteArray)=false:=Zbc.2 (fun e=>by
   rw [e,Zzu] at h3
   omega)
  unfold Zfy
  rw [hne,h2,h3,ZfI.2 (by omega)]
  rfl
def pcE (p:ByteArray):List ByteArray:=Zaf p 58
def pcI (p:ByteArray):Zaj:=((Zfy (Zaa (pcE p) 0)).1,(Zfy (Zaa (pcE p) ((pcE p).length - 1))).1)
def pcB (p:ByteArray):Bool:=(Zfy (Zaa (pcE p) 0)).2 && ((Zfy (Zaa (pcE p) ((pcE p).length - 1))).2 && !gtI (((pcE p).length:Nat):Int) 2)
def pcS (p:ByteArray):Zaj:=(Ze3 (Zaa (pcE p) 0),Ze3 (Zaa (pcE p) ((pcE p).length - 1)))
theorem ZHG {z:Zaj} (h:Zhm z=true):(0≤z.1∧z.1≤999999999)∧(0≤z.2∧z.2≤999999999):=by
 unfold Zhm at h
 rw [Bool.and_eq_true,Zaz,Zaz] at h
 exact h
theorem ZnI {x:Int} (h:ZOs x):¬ x=58∧¬ x=44:=by
 unfold ZOs at h
 omega
theorem ZFQ {z:Zaj} (h:Zhm z=true):pcI (spT z)=z∧pcB (spT z)=true∧pcS (spT z)=z:=by
 obtain ⟨⟨a0,a1⟩,b0,b1⟩:=ZHG h
 obtain ⟨n1,r1⟩:=ZHF a0 a1
 obtain ⟨n2,r2⟩:=ZHF b0 b1
 have c1:∀ i,i < (n4 z.1).size→¬ Zap (n4 z.1) i=(((58:UInt8).toNat:Nat):Int):=fun i hi=>(ZnI (ZDj a0 hi)).1
 have c2:∀ i,i < (n4 z.2).size→¬ Zap (n4 z.2) i=(((58:UInt8).toNat:Nat):Int):=fun i hi=>(ZnI (ZDj b0 hi)).1
 by_cases he:z.2=z.1
 ·have e:pcE (spT z)=[n4 z.1]:=by
   rw [Zy6 he]
   exact Zzt (c:=58) (by simp) rfl (fun w hw=>by rw [List.mem_singleton.1 hw]; exact c1)
  unfold pcI pcB pcS
  rw [e]
  show ((Zfy (n4 z.1)).1,(Zfy (n4 z.1)).1)=z∧((Zfy (n4 z.1)).2 && ((Zfy (n4 z.1)).2 && !gtI 1 2))=true∧(Ze3 (n4 z.1),Ze3 (n4 z.1))=z
  rw [r1,n1]
  exact ⟨Prod.ext rfl he.symm,rfl,Prod.ext rfl he.symm⟩
 ·have e:pcE (spT z)=[n4 z.1,n4 z.2]:=by
   rw [Zy7 he]
   refine Zzt (c:=58) (by simp) ?_ (fun w hw=>?_)
   ·rw [ByteArray.data_append,ByteArray.data_append,Array.toList_append,Array.toList_append,List.append_assoc]
    rfl
   ·rcases List.mem_cons.1 hw with rfl | hw
    ·exact c1
    ·rw [List.mem_singleton.1 hw]
     exact c2
  unfold pcI pcB pcS
  rw [e]
  show ((Zfy (n4 z.1)).1,(Zfy (n4 z.2)).1)=z∧((Zfy (n4 z.1)).2 && ((Zfy (n4 z.2)).2 && !gtI 2 2))=true∧(Ze3 (n4 z.1),Ze3 (n4 z.2))=z
  rw [r1,r2,n1,n2]
  exact ⟨rfl,rfl,rfl⟩
theorem ZLy {z:Zaj} (h:Zhm z=true) {i:Nat} (hi:i < (spT z).size):¬ Zap (spT z) i=44:=by
 obtain ⟨⟨a0,a1⟩,b0,b1⟩:=ZHG h
 by_cases he:z.2=z.1
 ·rw [Zy6 he] at hi ⊢
  exact (ZnI (ZDj a0 hi)).2
 ·rw [Zy7 he] at hi ⊢
  rw [ByteArray.size_append,ByteArray.size_append] at hi
  have h1:ByteArray.size (⟨#[58]⟩:ByteArray)=1:=rfl
  have hl:(n4 z.1 ++ (⟨#[58]⟩:ByteArray) ++ n4 z.2).data.toList=(n4 z.1).data.toList ++ ((⟨#[58]⟩:ByteArray).data.toList ++ (n4 z.2).data.toList):=by
   rw [ByteArray.data_append,ByteArray.data_append,Array.toList_append,Array.toList_append,List.append_assoc]
  by_cases q1:i < (n4 z.1).size
  ·have e:Zap (n4 z.1 ++ (⟨#[58]⟩:ByteArray) ++ n4 z.2) i=Zap (n4 z.1) i:=by
    have:=Zsb (A:=[]) (w:=n4 z.1) hl q1
    rw [List.length_nil,Nat.zero_add] at this
    exact this
   rw [e]
   exact (ZnI (ZDj a0 q1)).2
  ·by_cases q2:i=(n4 z.1).size
   ·have e:=Zsb (A:=(n4 z.1).data.toList) (w:=(⟨#[58]⟩:ByteArray)) hl (j:=0) (by decide)
    rw [Zcm,Nat.add_zero,← q2] at e
    rw [e]
    decide
   ·have e:=Zsb (A:=(n4 z.1).data.toList ++ (⟨#[58]⟩:ByteArray).data.toList) (w:=n4 z.2) (R:=[]) (hl.trans (by rw [List.append_nil,List.append_assoc])) (j:=i - ((n4 z.1).size + 1)) (by omega)
    rw [List.length_append,Zcm,Zcm,h1,show (n4 z.1).size + 1 + (i - ((n4 z.1).size + 1))=i by omega] at e
    rw [e]
    exact (ZnI (ZDj b0 (by omega))).2
theorem Zzv (l:List Zaj):∀ k,k≤l.length→Zhn l k=(l.take k).map spT
 | 0,_=>rfl
 | k + 1,h=>by
  have h1:l[k]?=some (Zak l k):=Zat (t:=Zai) h
  unfold Zhn
  rw [Zzv l k (by omega),List.take_add_one,h1,List.map_append]
  rfl
theorem ZDk {l:List Zaj} (h:ZbB l=true):Zaf (Zif l) 44=l.map spT:=by
 have hl:=Ze4 h
 have e:Zif l=joS (l.map spT) (⟨#[44]⟩:ByteArray):=by
  unfold Zif
  rw [if_pos h,Zzv l _ (Nat.le_refl _),List.take_length]
 rw [e]
 refine Zqr (c:=44) (fun q=>?_) (fun w hw i hi=>?_)
 ·have:=congrArg List.length q
  rw [List.length_map,List.length_nil] at this
  omega
 ·obtain ⟨z,hz,rfl⟩:=List.mem_map.1 hw
  obtain ⟨k,hk,rfl⟩:=List.getElem_of_mem hz
  have h2:=ZjA h hk
  have h3:l[k]?=some (Zak l k):=Zat (t:=Zai) hk
  rw [List.getElem?_eq_getElem hk] at h3
  rw [← Option.some.inj h3] at h2
  exact ZLy h2 hi
def rsO (s:ByteArray):List Zaj:=(Zaf s 44).map pcI
def rsB (s:ByteArray):Bool:=List.all (Zaf s 44) pcB && (ZbB (rsO s) && eqS (Zif (rsO s)) s)
def rsL (s:ByteArray):List Zaj:=if rsB s=true then rsO s else []
def rsP (s:ByteArray):List Zaj:=if (Zaf s 44).length≤5 then (Zaf s 44).map pcS else []
def rsC (s:ByteArray):Bool:=!eqS s (⟨#[]⟩:ByteArray) && eqS (Zif (rsP s)) s
def rsM (s:ByteArray):List Zaj:=if rsC s=true then rsP s else []
theorem ZI6 {l:List Zaj} (h:ZbB l=true):∀ z ∈ l,Zhm z=true:=fun z hz=>by
 obtain ⟨k,hk,rfl⟩:=List.getElem_of_mem hz
 have h2:=ZjA h hk
 have h3:l[k]?=some (Zak l k):=Zat (t:=Zai) hk
 rw [List.getElem?_eq_getElem hk] at h3
 rw [← Option.some.inj h3] at h2
 exact h2
theorem Zzw {α β:Type} {l:List α} {f:α→β} {g:β→α} (h:∀ z ∈ l,g (f z)=z):(l.map f).map g=l:=by
 rw [List.map_map]
 conv=>rhs; rw [← List.map_id l]
 exact List.map_congr_left h
theorem Zzx {l:List Zaj} (h:ZbB l=true):rsO (Zif l)=l∧rsB (Zif l)=true∧rsP (Zif l)=l∧rsC (Zif l)=true:=by
 have hp:=ZDk h
 have hm:=ZI6 h
 have hl:=Ze4 h
 have e1:rsO (Zif l)=l:=by
  unfold rsO
  rw [hp]
  exact Zzw (fun z hz=>(ZFQ (hm z hz)).1)
 have e2:rsP (Zif l)=l:=by
  unfold rsP
  rw [hp,if_pos (by rw [List.length_map]; omega)]
  exact Zzw (fun z hz=>(ZFQ (hm z hz)).2.2)
 have hne:¬ Zif l=(⟨#[]⟩:ByteArray):=fun q=>by
  have h1:Zaf (⟨#[]⟩:ByteArray) 44=[(⟨#[]⟩:ByteArray)]:=by decide
  rw [q,h1] at hp
  cases l with
  | nil=>cases hp
  | cons z l =>
   injection hp with h2 _
   have h3:=(ZFQ (hm z (List.mem_cons_self ..))).2.1
   rw [← h2] at h3
   exact absurd h3 (by decide +kernel)
 refine ⟨e1,?_,e2,?_⟩
 ·unfold rsB
  rw [e1,h,Zav.2 rfl,hp]
  have:List.all (l.map spT) pcB=true:=List.all_eq_true.2 (fun x hx=>by
   obtain ⟨z,hz,rfl⟩:=List.mem_map.1 hx
   exact (ZFQ (hm z hz)).2.1)
  rw [this]
  rfl
 ·unfold rsC
  rw [e2,Zav.2 rfl,Zbc.2 hne]
  rfl
theorem ZI7 {l:List Zaj} (h:¬ Zif l=(⟨#[]⟩:ByteArray)):ZbB l=true:=by
 cases hs:ZbB l with
 | true=>rfl
 | false=>exact absurd (if_neg (by rw [hs]; decide)) h
theorem ZnJ (s:ByteArray):rsL s=rsM s∧rsB s=rsC s:=by
 cases hb:rsB s with
 | true =>
  have h:=hb
  unfold rsB at h
  rw [Bool.and_eq_true,Bool.and_eq_true] at h
  have e:=Zav.1 h.2.2
  obtain ⟨_,_,h3,h4⟩:=Zzx h.2.1
  rw [e] at h3 h4
  refine ⟨(if_pos hb).trans (h3.symm.trans (if_pos h4).symm),h4.symm⟩
 | false =>
  have hc:rsC s=false:=by
   cases hc:rsC s with
   | false=>rfl
   | true =>
    unfold rsC at hc
    rw [Bool.and_eq_true,Bool.not_eq_true'] at hc
    have e:=Zav.1 hc.2
    have hn:=Zbc.1 hc.1
    have hs:=ZI7 (l:=rsP s) (by rw [e]; exact hn)
    have h2:=(Zzx hs).2.1
    rw [e,hb] at h2
    cases h2
  refine ⟨(if_neg (by rw [hb]; decide)).trans (if_neg (by rw [hc]; decide)).symm,hc.symm⟩
theorem ZOt {s:ByteArray} (h:rsB s=true):ZbB (rsL s)=true∧Zif (rsL s)=s:=by
 have e:rsL s=rsO s:=if_pos h
 unfold rsB at h
 rw [Bool.and_eq_true,Bool.and_eq_true] at h
 rw [e]
 exact ⟨h.2.1,Zav.1 h.2.2⟩
end Go.Proofs.YtkeglpnnedflnaaGreatDoor
