import Derived.Test.YtafhbjjcpncfnaaGreatIBlOk
import Derived.Test.YtafhbjjcpncfnaaGreatIBlFetch
set_option linter.unusedSimpArgs false
set_option linter.unusedVariables false
namespace Go.Proofs.YtafhbjjcpncfnaaGreat
open Go.ChangeShapes Go.WideShapes Go.ChangeAt Go.RowKit Go.Joins Go.Deep
open GoRep (rep bulk)
abbrev Zh4 (a b:ByteArray):Bool:=Op.bytesLess a.toList b.toList
theorem ZvL (a b:ByteArray):(Zh4 a b || decide (a=b))=!Zh4 b a:=ZLH a b
theorem Zyx {a b:ByteArray} (h:Zh4 a b=true):Zh4 b a=false:=by
 have:=ZvL a b
 rw [h] at this
 simpa using this.symm
theorem ZoU (a:ByteArray):Zh4 a a=false:=by
 cases h:Zh4 a a with
 | false=>rfl
 | true=>have:=Zyx h; rw [h] at this; exact this
theorem ZvM {a b:ByteArray} (h:Zh4 a b=false) (hn:a ≠ b):Zh4 b a=true:=by
 have:=ZvL b a
 rw [h] at this
 cases hb:Zh4 b a with
 | true=>rfl
 | false =>
  rw [hb] at this
  simp at this
  exact absurd this.symm hn
theorem ZFb:∀ (x y z:List UInt8),Op.bytesLess x y=true→Op.bytesLess y z=true→Op.bytesLess x z=true
 | [],[],_,h,_=>by simp [Op.bytesLess] at h
 | _ :: _,[],_,h,_=>by simp [Op.bytesLess] at h
 | _,_ :: _,[],_,h=>by simp [Op.bytesLess] at h
 | [],_ :: _,_ :: _,_,_=>by simp [Op.bytesLess]
 | a :: x,b :: y,c :: z,h1,h2=>by
  rw [Op.bytesLess] at h1 h2 ⊢
  simp only [Bool.or_eq_true,Bool.and_eq_true,decide_eq_true_eq,beq_iff_eq] at h1 h2 ⊢
  rcases h1 with h1 | ⟨rfl,h1⟩
  ·rcases h2 with h2 | ⟨rfl,h2⟩
   ·left
    have q1:a.toNat < b.toNat:=h1
    have q2:b.toNat < c.toNat:=h2
    have q3:a.toNat < c.toNat:=by omega
    exact q3
   ·exact .inl h1
  ·rcases h2 with h2 | ⟨rfl,h2⟩
   ·exact .inl h2
   ·exact .inr ⟨rfl,ZFb x y z h1 h2⟩
theorem ZkH {a b c:ByteArray} (h1:Zh4 a b=true) (h2:Zh4 b c=true):Zh4 a c=true:=ZFb _ _ _ h1 h2
theorem ZLi {t:Ty} {xs:List t.den} {k:Nat} (h:xs.length≤k):nth t xs k=t.dflt:=by
 unfold nth
 rw [List.getD_eq_getElem?_getD,List.getElem?_eq_none h]
 rfl
def srt (l:List ZaO):Prop:=l.Pairwise (fun a b=>Zh4 a.1 b.1=true)
theorem ZFc:∀ {l k:List ZaO},srt l→srt k→l.Perm k→l=k
 | [],k,_,_,h=>(List.Perm.nil_eq h)
 | a :: l,[],_,_,h=>absurd h.length_eq (by simp)
 | a :: l,b :: k,h1,h2,h=>by
  have h1':=List.pairwise_cons.1 h1
  have h2':=List.pairwise_cons.1 h2
  have e:a=b:=by
   have ha:a ∈ b :: k:=h.mem_iff.1 (by simp)
   have hb:b ∈ a :: l:=h.mem_iff.2 (by simp)
   rcases List.mem_cons.1 ha with e | ha
   ·exact e
   ·rcases List.mem_cons.1 hb with e | hb
    ·exact e.symm
    ·have q1:=h2'.1 a ha
     have q2:=h1'.1 b hb
     rw [Zyx q1] at q2
     cases q2
  subst e
  rw [ZFc h1'.2 h2'.2 ((List.perm_cons a).1 h)]
def Zoz:List ZaO→ZaO→List ZaO
 | [],b=>[b]
 | x :: l,b=>if Zh4 x.1 b.1=true then x :: Zoz l b else b :: x :: l
def ZLW:List ZaO→ByteArray→Nat
 | [],_=>0
 | x :: l,n=>if Zh4 x.1 n=true then ZLW l n + 1 else 0
theorem ZoV:∀ (l:List ZaO) (b:ZaO),Zoz l b=l.take (ZLW l b.1) ++ b :: l.drop (ZLW l b.1)
 | [],_=>rfl
 | x :: l,b=>by
  unfold Zoz ZLW
  split
  ·rw [ZoV l b]; rfl
  ·rfl
theorem ZmN (l:List ZaO) (b:ZaO):(Zoz l b).Perm (b :: l):=by
 rw [ZoV]
 refine List.perm_middle.trans ?_
 rw [List.take_append_drop]
theorem lay_mem {l:List ZaO} {b x:ZaO}:x ∈ Zoz l b↔x=b∨x ∈ l:=by rw [(ZmN l b).mem_iff,List.mem_cons]
theorem ZvN:∀ {l:List ZaO} {b:ZaO},srt l→(∀ x ∈ l,x.1 ≠ b.1)→srt (Zoz l b)
 | [],b,_,_=>List.pairwise_singleton _ _
 | x :: l,b,h,hn=>by
  have h':=List.pairwise_cons.1 h
  unfold Zoz
  split
  ·rename_i hx
   refine List.pairwise_cons.2 ⟨fun y hy=>?_,ZvN h'.2 (fun y hy=>hn y (by simp [hy]))⟩
   rcases lay_mem.1 hy with rfl | hy
   ·exact hx
   ·exact h'.1 y hy
  ·rename_i hx
   have hb:Zh4 b.1 x.1=true:=ZvM (by simpa using hx) (hn x (by simp))
   refine List.pairwise_cons.2 ⟨fun y hy=>?_,h⟩
   rcases List.mem_cons.1 hy with rfl | hy
   ·exact hb
   ·exact ZkH hb (h'.1 y hy)
def Ziu:List ZaO→List ZaO
 | []=>[]
 | x :: l=>Zoz (Ziu l) x
theorem ZnD:∀ l:List ZaO,(Ziu l).Perm l
 | []=>List.Perm.refl _
 | x :: l=>(ZmN (Ziu l) x).trans ((ZnD l).cons x)
def ZGQ (l:List ZaO):Prop:=(l.map (·.1)).Nodup
theorem Zyy:∀ {l:List ZaO},ZGQ l→srt (Ziu l)
 | [],_=>List.Pairwise.nil
 | x :: l,h=>by
  have h:(x.1 :: l.map (·.1)).Nodup:=h
  rw [List.nodup_cons] at h
  refine ZvN (Zyy h.2) (fun y hy e=>h.1 ?_)
  rw [← e]
  exact List.mem_map_of_mem ((ZnD l).mem_iff.1 hy)
theorem ZoW {l k:List ZaO} (hk:srt k) (hp:k.Perm l):Ziu l=k:=by
 refine ZFc (Zyy ?_) hk ((ZnD l).trans hp.symm)
 have:(k.map (·.1)).Nodup:=by
  rw [List.Nodup,List.pairwise_map]
  exact List.Pairwise.imp (fun h e=>by rw [e,ZoU] at h; cases h) hk
 exact (hp.map _).nodup_iff.1 this
def Zfa (b:ZaO) (i:Nat):Prop:=(ZaG b.2.2.2 i).1 < 1∨b.2.2.1 - 1 < (ZaG b.2.2.2 i).1∨(ZaG b.2.2.2 i).2.1 < 0∨31 < (ZaG b.2.2.2 i).2.1∨40 < (ZaG b.2.2.2 i).2.2.size∨(0 < i∧(ZaG b.2.2.2 i).1≤(ZaG b.2.2.2 (i - 1)).1)
instance (b:ZaO) (i:Nat):Decidable (Zfa b i):=by unfold Zfa; infer_instance
def Zel (b:ZaO):Bool:=decide ((∀ i,i < b.2.2.2.length→¬ Zfa b i)∧Zb8 b.1=true∧(1≤b.2.1∧b.2.1≤999999999)∧(1≤b.2.2.1∧b.2.2.1≤999999999)∧b.2.2.2.length≤6)
theorem Zhg {b:ZaO}:Zel b=true↔(∀ i,i < b.2.2.2.length→¬ Zfa b i)∧Zb8 b.1=true∧(1≤b.2.1∧b.2.1≤999999999)∧(1≤b.2.2.1∧b.2.2.1≤999999999)∧b.2.2.2.length≤6:=by
 unfold Zel
 rw [decide_eq_true_eq]
theorem ZLj {b:ZaO} {i:Nat} (hi:i < b.2.2.2.length) (h:Zfa b i):Zel b=false:=by
 rw [← Bool.not_eq_true,Zhg]
 exact fun q=>q.1 i hi h
theorem Zrh {b:ZaO} (h:¬ (Zb8 b.1=true∧(1≤b.2.1∧b.2.1≤999999999)∧(1≤b.2.2.1∧b.2.2.1≤999999999)∧b.2.2.2.length≤6)):Zel b=false:=by
 rw [← Bool.not_eq_true,Zhg]
 exact fun q=>h q.2
theorem ZJj {b:ZaO} (h:∀ i,i < b.2.2.2.length→¬ Zfa b i) (h2:Zb8 b.1=true∧(1≤b.2.1∧b.2.1≤999999999)∧(1≤b.2.2.1∧b.2.2.1≤999999999)∧b.2.2.2.length≤6):Zel b=true:=Zhg.2 ⟨h,h2⟩
def Zka (l:List ZaO) (i:Nat):Prop:=Zel (Zab l i)=false∨(0 < i∧Zh4 (Zab l (i - 1)).1 (Zab l i).1=false)∨boxW l (Zab l i).2.1 ≠ ((i:Nat):Int)
instance (l:List ZaO) (i:Nat):Decidable (Zka l i):=by unfold Zka; infer_instance
def Zdq (l:List ZaO):Bool:=decide ((∀ i,i < l.length→¬ Zka l i)∧l.length≤4)
theorem Zhh {l:List ZaO}:Zdq l=true↔(∀ i,i < l.length→¬ Zka l i)∧l.length≤4:=by
 unfold Zdq
 rw [decide_eq_true_eq]
theorem ZkI {l:List ZaO} {i:Nat} (hi:i < l.length) (h:Zka l i):Zdq l=false:=by
 rw [← Bool.not_eq_true,Zhh]
 exact fun q=>q.1 i hi h
theorem ZDR {l:List ZaO} (h:∀ i,i < l.length→¬ Zka l i):Zdq l=decide (l.length≤4):=by
 rw [Bool.eq_iff_iff,Zhh,decide_eq_true_eq]
 exact ⟨fun q=>q.2,fun q=>⟨h,q⟩⟩
theorem ZDS {l:List ZaO} (h:Zdq l=true):srt l:=by
 have hb:=(Zhh.1 h).1
 have step:∀ i,i + 1 < l.length→Zh4 (Zab l i).1 (Zab l (i + 1)).1=true:=fun i hi=>by
  have:=hb (i + 1) hi
  unfold Zka at this
  cases hq:Zh4 (Zab l i).1 (Zab l (i + 1)).1 with
  | true=>rfl
  | false=>exact absurd (Or.inr (Or.inl ⟨by omega,hq⟩)) this
 have far:∀ d i,i + (d + 1) < l.length→Zh4 (Zab l i).1 (Zab l (i + (d + 1))).1=true:=by
  intro d
  induction d with
  | zero=>exact fun i hi=>step i hi
  | succ d ih=>exact fun i hi=>ZkH (ih i (by omega)) (step (i + (d + 1)) (by omega))
 unfold srt
 rw [List.pairwise_iff_getElem]
 intro i j hi hj hij
 have:=far (j - i - 1) i (by omega)
 rw [show i + (j - i - 1 + 1)=j by omega] at this
 have e:∀ q (hq:q < l.length),Zab l q=l[q]:=fun q hq=>Zcb (t:=Zaj) (List.getElem?_eq_getElem hq)
 rw [e i hi,e j hj] at this
 exact this
theorem ZMI {l:List ZaO} {i:Nat} (hi:i < l.length):boxW l (Zab l i).2.1=((i:Nat):Int)↔boxW (l.take i) (Zab l i).2.1 < 0:=by
 have hg:l[i]?=some (Zab l i):=Zat (t:=Zaj) hi
 have hp:eqI (Zab l i).2.1 (Zab l i).2.1=true:=ZaJ.2 rfl
 unfold boxW
 constructor
 ·intro h
  cases ha:(l.take i).any (fun z0:ZaO=>eqI z0.2.1 (Zab l i).2.1) with
  | false=>rw [Zrl ha]; omega
  | true =>
   exfalso
   obtain ⟨x,hx,hpx⟩:=List.any_eq_true.1 ha
   obtain ⟨j,hj,rfl⟩:=List.mem_iff_getElem.1 hx
   have hjl:j < i:=by rw [List.length_take] at hj; omega
   have hlt:=Zrn (p:=fun z0:ZaO=>eqI z0.2.1 (Zab l i).2.1) (l.take (j + 1))
   have:∀ k,k≤j→(l.take k).any (fun z0:ZaO=>eqI z0.2.1 (Zab l i).2.1)=false:=by
    intro k hk
    cases hq:(l.take k).any (fun z0:ZaO=>eqI z0.2.1 (Zab l i).2.1) with
    | false=>rfl
    | true =>
     exfalso
     have hfi:∃ q,l.findIdx? (fun z0:ZaO=>eqI z0.2.1 (Zab l i).2.1)=some q∧q < k:=by
      obtain ⟨y,hy,hpy⟩:=List.any_eq_true.1 hq
      obtain ⟨q,hq1,rfl⟩:=List.mem_iff_getElem.1 hy
      have hqk:q < k:=by rw [List.length_take] at hq1; omega
      have hql:q < l.length:=by omega
      rw [List.getElem_take] at hpy
      cases hf:l.findIdx? (fun z0:ZaO=>eqI z0.2.1 (Zab l i).2.1) with
      | none =>
       have:=(List.findIdx?_eq_none_iff.1 hf) _ (List.getElem_mem hql)
       rw [hpy] at this
       cases this
      | some r =>
       refine ⟨r,rfl,?_⟩
       obtain ⟨h1,h2,h3⟩:=List.findIdx?_eq_some_iff_getElem.1 hf
       rcases Nat.lt_or_ge r k with h4 | h4
       ·exact h4
       ·exact absurd hpy (by simpa using h3 q (by omega))
     obtain ⟨q,hf,hqk⟩:=hfi
     unfold Zf0 at h
     rw [hf] at h
     simp at h
     omega
   have hx' : l[j]?=some ((l.take i)[j]):=by
    rw [List.getElem_take]
    exact List.getElem?_eq_getElem (by omega)
   have:=ZD7 (this j (Nat.le_refl _)) hx' hpx
   rw [this] at h
   have h:((j:Nat):Int)=((i:Nat):Int):=h
   omega
 ·intro h
  have ha:(l.take i).any (fun z0:ZaO=>eqI z0.2.1 (Zab l i).2.1)=false:=by
   cases hq:(l.take i).any (fun z0:ZaO=>eqI z0.2.1 (Zab l i).2.1) with
   | false=>rfl
   | true =>
    have:=(Zrm (p:=fun z0:ZaO=>eqI z0.2.1 (Zab l i).2.1) (l.take i)).2 hq
    omega
  exact ZD7 ha hg hp
def ZbG (m:ZaA):Bool:=decide ((1≤m.2.1∧m.2.1≤999999999) ∧
 (((m.1=1∨m.1=3)∧Zb8 m.2.2.2.2.1=true∧m.2.2.1=0∧m.2.2.2.1=0∧m.2.2.2.2.2=(⟨#[]⟩:ByteArray)) ∨
  (m.1=2∧m.2.2.1=0∧m.2.2.2.1=0∧m.2.2.2.2.1=(⟨#[]⟩:ByteArray)∧m.2.2.2.2.2=(⟨#[]⟩:ByteArray)) ∨
  (m.1=4∧(1≤m.2.2.1∧m.2.2.1≤999999998)∧(0≤m.2.2.2.1∧m.2.2.2.1≤31)∧m.2.2.2.2.2.size≤40∧m.2.2.2.2.1=(⟨#[]⟩:ByteArray)) ∨
  (m.1=5∧(1≤m.2.2.1∧m.2.2.1≤999999998)∧(0≤m.2.2.2.1∧m.2.2.2.1≤31)∧m.2.2.2.2.1=(⟨#[]⟩:ByteArray)∧m.2.2.2.2.2=(⟨#[]⟩:ByteArray)) ∨
  (m.1=6∧(1≤m.2.2.1∧m.2.2.1≤999999998)∧m.2.2.2.1=0∧m.2.2.2.2.1=(⟨#[]⟩:ByteArray)∧m.2.2.2.2.2=(⟨#[]⟩:ByteArray))))
abbrev bxK (l:List ZaO) (m:ZaA):Nat:=(boxW l m.2.1).toNat
abbrev bxB (l:List ZaO) (m:ZaA):ZaO:=Zab l (boxW l m.2.1).toNat
def Zi2 (l:List ZaO) (m:ZaA):Bool :=
 if m.1=1 then decide (l.length < 4∧boxW l m.2.1 < 0∧ZiD l m.2.2.2.2.1 < 0)
 else if boxW l m.2.1 < 0 then false
 else if m.1=3 then decide (ZiD l m.2.2.2.2.1 < 0)
 else if m.1=4 then decide (m.2.2.1=(bxB l m).2.2.1∧(bxB l m).2.2.2.length < 6)
 else if m.1=5∨m.1=6 then decide (0≤Zb4 (bxB l m).2.2.2 m.2.2.1)
 else true
def ZfP (l:List ZaO) (m:ZaA):Bool:=Zdq l && (ZbG m && Zi2 l m)
abbrev ZnE (l:List ZaO) (k:Nat):List ZaO:=l.take k ++ l.drop (k + 1)
abbrev ZJM (l:List Zdr) (k:Nat):List Zdr:=l.take k ++ l.drop (k + 1)
def ZeU (l:List ZaO) (m:ZaA):List ZaO :=
 if m.1=1 then Zoz l (m.2.2.2.2.1,m.2.1,1,[])
 else if m.1=2 then ZnE l (bxK l m)
 else if m.1=3 then Zoz (ZnE l (bxK l m)) (m.2.2.2.2.1,(bxB l m).2.1,(bxB l m).2.2.1,(bxB l m).2.2.2)
 else if m.1=4 then l.set (bxK l m) ((bxB l m).1,(bxB l m).2.1,(bxB l m).2.2.1 + 1,(bxB l m).2.2.2 ++ [(m.2.2.1,m.2.2.2.1,m.2.2.2.2.2)])
 else if m.1=5 then l.set (bxK l m) ((bxB l m).1,(bxB l m).2.1,(bxB l m).2.2.1,(bxB l m).2.2.2.set (Zb4 (bxB l m).2.2.2 m.2.2.1).toNat ((ZaG (bxB l m).2.2.2 (Zb4 (bxB l m).2.2.2 m.2.2.1).toNat).1,m.2.2.2.1,(ZaG (bxB l m).2.2.2 (Zb4 (bxB l m).2.2.2 m.2.2.1).toNat).2.2))
 else l.set (bxK l m) ((bxB l m).1,(bxB l m).2.1,(bxB l m).2.2.1,ZJM (bxB l m).2.2.2 (Zb4 (bxB l m).2.2.2 m.2.2.1).toNat)
def Zdk:List ZaO→List ZaA→List ZaO × Bool
 | l,[]=>(l,true)
 | l,m :: r=>if ZfP l m=true then Zdk (ZeU l m) r else (l,false)
def ZbZ (l:List ZaO):Prop:=l.length≤1048576∧∀ x ∈ l,x.2.2.2.length≤1048576
theorem Ztr {l:List ZaO} (h:ZbZ l) (k:Nat):(Zab l k).2.2.2.length≤1048576:=by
 by_cases hk:k < l.length
 ·exact h.2 _ (List.mem_of_getElem? (Zat (t:=Zaj) hk))
 ·exact Zz4
theorem ZGR {l:List ZaO} {m:ZaA} (h:ZfP l m=true):l.length≤4∧∀ k,(Zab l k).2.2.2.length≤6:=by
 unfold ZfP at h
 rw [Bool.and_eq_true] at h
 have hb:=Zhh.1 h.1
 refine ⟨hb.2,fun k=>?_⟩
 by_cases hk:k < l.length
 ·have:=hb.1 k hk
  unfold Zka at this
  cases hq:Zel (Zab l k) with
  | false=>exact absurd (Or.inl hq) this
  | true=>exact (Zhg.1 hq).2.2.2.2
 ·exact Zz4
theorem ZoX {l k:List ZaO} (h:srt k) (hp:k.Perm l):ZGQ l:=by
 have:(k.map (·.1)).Nodup:=by
  rw [List.Nodup,List.pairwise_map]
  exact List.Pairwise.imp (fun h e=>by rw [e,ZoU] at h; cases h) h
 exact (hp.map _).nodup_iff.1 this
theorem ZFd {l:List ZaO} (h:srt l):Ziu l=l:=ZoW h (List.Perm.refl _)
theorem ZGS (l:List ZaO) (k:Nat):ZnE l k=l.eraseIdx k:=by
 rw [List.eraseIdx_eq_take_drop_succ]
theorem ZmO (l:List ZaO) (k:Nat):(ZnE l k).Sublist l:=by
 rw [ZGS]
 exact List.eraseIdx_sublist _ _
theorem ZDT {l:List ZaO} (h:srt l) (k:Nat):srt (ZnE l k):=List.Pairwise.sublist (ZmO l k) h
theorem ZLk {l:List ZaO} {k:Nat} {b:ZaO} (hk:k < l.length):(l.set k b).Perm (b :: ZnE l k):=by
 rw [List.set_eq_take_append_cons_drop,if_pos hk]
 exact List.perm_middle
theorem ZMJ {l:List ZaO} {k:Nat} {b:ZaO} (h:srt l) (e:b.1=(Zab l k).1):srt (l.set k b):=by
 by_cases hk:k < l.length
 ·have hm:(l.set k b).map (·.1)=l.map (·.1):=by
   rw [List.map_set,e]
   have hg:(Zab l k).1=(l.map (·.1))[k]'(by simpa using hk):=by
    rw [List.getElem_map]
    exact congrArg (fun z:ZaO=>z.1) (Zcb (t:=Zaj) (List.getElem?_eq_getElem hk))
   rw [hg,List.set_getElem_self]
  have h1:(l.map (·.1)).Pairwise (fun a b=>Zh4 a b=true):=List.pairwise_map.2 h
  rw [← hm] at h1
  exact List.pairwise_map.1 h1
 ·rw [List.set_eq_of_length_le (Nat.le_of_not_lt hk)]
  exact h
theorem ZLl {l:List ZaO} {k:Nat} {b:ZaO} (h:srt l) (hk:k < l.length) (hn:∀ x ∈ l,x.1 ≠ b.1):ZGQ (l.set k b)∧Ziu (l.set k b)=Zoz (ZnE l k) b:=by
 have h1:srt (Zoz (ZnE l k) b):=ZvN (ZDT h k) (fun x hx=>hn x ((ZmO l k).mem hx))
 have h2:(Zoz (ZnE l k) b).Perm (l.set k b):=(ZmN _ _).trans (ZLk hk).symm
 exact ⟨ZoX h1 h2,ZoW h1 h2⟩
theorem ZLm {l:List ZaO} {b:ZaO} (h:srt l) (hn:∀ x ∈ l,x.1 ≠ b.1):ZGQ (l ++ [b])∧Ziu (l ++ [b])=Zoz l b:=by
 have h1:srt (Zoz l b):=ZvN h hn
 have h2:(Zoz l b).Perm (l ++ [b]):=(ZmN _ _).trans (List.perm_append_singleton b l).symm
 exact ⟨ZoX h1 h2,ZoW h1 h2⟩
theorem Zyz {l:List ZaO} {n:ByteArray} (h:ZiD l n < 0):∀ x ∈ l,x.1 ≠ n:=fun x hx e=>by
 have:=(Zrm (p:=fun z0:ZaO=>eqS z0.1 n) l).2 (List.any_eq_true.2 ⟨x,hx,Zbp.2 e⟩)
 unfold ZiD at h
 omega
theorem Zri (l:List ZaO) (u:Int) : -1≤boxW l u∧boxW l u < l.length:=Zrn l
theorem ZFe (l:List ZaO) (n:ByteArray) : -1≤ZiD l n∧ZiD l n < l.length:=Zrn l
theorem ZyA (l:List Zdr) (u:Int) : -1≤Zb4 l u∧Zb4 l u < l.length:=Zrn l
theorem geN (a b:Int):(!geI a b)=ltI a b:=by
 rw [Bool.eq_iff_iff]
 simp [geI,ltI]
theorem Zkb {l:List ZaO} {m:ZaA}:Zi2 l m=true↔(m.1=1∧l.length < 4∧boxW l m.2.1 < 0∧ZiD l m.2.2.2.2.1 < 0) ∨
 (m.1 ≠ 1∧0≤boxW l m.2.1∧((m.1=3∧ZiD l m.2.2.2.2.1 < 0)∨(m.1=4∧m.2.2.1=(bxB l m).2.2.1∧(bxB l m).2.2.2.length < 6)∨((m.1=5∨m.1=6)∧0≤Zb4 (bxB l m).2.2.2 m.2.2.1)∨(m.1 ≠ 3∧m.1 ≠ 4∧m.1 ≠ 5∧m.1 ≠ 6))):=by
 unfold Zi2
 split
 ·rw [decide_eq_true_eq]
  omega
 ·split
  ·simp only [Bool.false_eq_true,false_iff]
   omega
  ·split
   ·rw [decide_eq_true_eq]
    omega
   ·split
    ·rw [decide_eq_true_eq]
     omega
    ·split
     ·rw [decide_eq_true_eq]
      omega
     ·simp only [true_iff]
      omega
theorem Ziv {l:List ZaO} {m:ZaA} (h:ZfP l m=true):srt l∧l.length≤4∧(∀ k,k < l.length→Zel (Zab l k)=true)∧ZbG m=true∧Zi2 l m=true:=by
 unfold ZfP at h
 rw [Bool.and_eq_true,Bool.and_eq_true] at h
 have hb:=Zhh.1 h.1
 refine ⟨ZDS h.1,hb.2,fun k hk=>?_,h.2.1,h.2.2⟩
 have:=hb.1 k hk
 unfold Zka at this
 cases hq:Zel (Zab l k) with
 | false=>exact absurd (Or.inl hq) this
 | true=>rfl
end Go.Proofs.YtafhbjjcpncfnaaGreat
