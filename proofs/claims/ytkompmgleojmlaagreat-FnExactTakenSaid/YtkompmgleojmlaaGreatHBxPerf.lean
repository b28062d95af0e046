import Derived.Test.YtkompmgleojmlaaGreatHBlOk
import Derived.Test.YtkompmgleojmlaaGreatHBlFetch
set_option linter.unusedSimpArgs false
set_option linter.unusedVariables false
namespace Go.Proofs.YtkompmgleojmlaaGreat
open Go.ChangeShapes Go.WideShapes Go.ChangeAt Go.RowKit Go.Joins Go.Deep
open GoRep (rep bulk)
abbrev Zh3 (a b:ByteArray):Bool:=Op.bytesLess a.toList b.toList
theorem ZvR (a b:ByteArray):(Zh3 a b || decide (a=b))=!Zh3 b a:=ZMa a b
theorem Zyv {a b:ByteArray} (h:Zh3 a b=true):Zh3 b a=false:=by
 have:=ZvR a b
 rw [h] at this
 simpa using this.symm
theorem ZoY (a:ByteArray):Zh3 a a=false:=by
 cases h:Zh3 a a with
 | false=>rfl
 | true=>have:=Zyv h; rw [h] at this; exact this
theorem ZvS {a b:ByteArray} (h:Zh3 a b=false) (hn:a ≠ b):Zh3 b a=true:=by
 have:=ZvR b a
 rw [h] at this
 cases hb:Zh3 b a with
 | true=>rfl
 | false =>
  rw [hb] at this
  simp at this
  exact absurd this.symm hn
theorem ZFv:∀ (x y z:List UInt8),Op.bytesLess x y=true→Op.bytesLess y z=true→Op.bytesLess x z=true
 | [],[],_,h,_=>by simp [Op.bytesLess] at h
 | _ :: _,[],_,h,_=>by simp [Op.bytesLess] at h
 | _,_ :: _,[],_,h=>by simp [Op.bytesLess] at h
 | [],_ :: _,_ :: _,_,_=>by simp [Op.bytesLess]
 | a :: x,b :: y,c :: z,h1,h2=>by
  rw [Op.bytesLess] at h1 h2 ⊢
  simp only [Bool.or_eq_true,Bool.and_eq_true,decide_eq_true_eq,beq_iff_eq] at h1 h2 ⊢
  rcases h1 with h1 | ⟨rfl,h1⟩
  ·rcases h2 with h2 | ⟨rfl,h2⟩
   ·left
    have q1:a.toNat < b.toNat:=h1
    have q2:b.toNat < c.toNat:=h2
    have q3:a.toNat < c.toNat:=by omega
    exact q3
   ·exact .inl h1
  ·rcases h2 with h2 | ⟨rfl,h2⟩
   ·exact .inl h2
   ·exact .inr ⟨rfl,ZFv x y z h1 h2⟩
theorem ZkJ {a b c:ByteArray} (h1:Zh3 a b=true) (h2:Zh3 b c=true):Zh3 a c=true:=ZFv _ _ _ h1 h2
theorem ZLL {t:Ty} {xs:List t.den} {k:Nat} (h:xs.length≤k):nth t xs k=t.dflt:=by
 unfold nth
 rw [List.getD_eq_getElem?_getD,List.getElem?_eq_none h]
 rfl
def srt (l:List ZaM):Prop:=l.Pairwise (fun a b=>Zh3 a.1 b.1=true)
theorem ZFw:∀ {l k:List ZaM},srt l→srt k→l.Perm k→l=k
 | [],k,_,_,h=>(List.Perm.nil_eq h)
 | a :: l,[],_,_,h=>absurd h.length_eq (by simp)
 | a :: l,b :: k,h1,h2,h=>by
  have h1':=List.pairwise_cons.1 h1
  have h2':=List.pairwise_cons.1 h2
  have e:a=b:=by
   have ha:a ∈ b :: k:=h.mem_iff.1 (by simp)
   have hb:b ∈ a :: l:=h.mem_iff.2 (by simp)
   rcases List.mem_cons.1 ha with e | ha
   ·exact e
   ·rcases List.mem_cons.1 hb with e | hb
    ·exact e.symm
    ·have q1:=h2'.1 a ha
     have q2:=h1'.1 b hb
     rw [Zyv q1] at q2
     cases q2
  subst e
  rw [ZFw h1'.2 h2'.2 ((List.perm_cons a).1 h)]
def ZoC:List ZaM→ZaM→List ZaM
 | [],b=>[b]
 | x :: l,b=>if Zh3 x.1 b.1=true then x :: ZoC l b else b :: x :: l
def ZMr:List ZaM→ByteArray→Nat
 | [],_=>0
 | x :: l,n=>if Zh3 x.1 n=true then ZMr l n + 1 else 0
theorem ZoZ:∀ (l:List ZaM) (b:ZaM),ZoC l b=l.take (ZMr l b.1) ++ b :: l.drop (ZMr l b.1)
 | [],_=>rfl
 | x :: l,b=>by
  unfold ZoC ZMr
  split
  ·rw [ZoZ l b]; rfl
  ·rfl
theorem ZmT (l:List ZaM) (b:ZaM):(ZoC l b).Perm (b :: l):=by
 rw [ZoZ]
 refine List.perm_middle.trans ?_
 rw [List.take_append_drop]
theorem lay_mem {l:List ZaM} {b x:ZaM}:x ∈ ZoC l b↔x=b∨x ∈ l:=by rw [(ZmT l b).mem_iff,List.mem_cons]
theorem ZvT:∀ {l:List ZaM} {b:ZaM},srt l→(∀ x ∈ l,x.1 ≠ b.1)→srt (ZoC l b)
 | [],b,_,_=>List.pairwise_singleton _ _
 | x :: l,b,h,hn=>by
  have h':=List.pairwise_cons.1 h
  unfold ZoC
  split
  ·rename_i hx
   refine List.pairwise_cons.2 ⟨fun y hy=>?_,ZvT h'.2 (fun y hy=>hn y (by simp [hy]))⟩
   rcases lay_mem.1 hy with rfl | hy
   ·exact hx
   ·exact h'.1 y hy
  ·rename_i hx
   have hb:Zh3 b.1 x.1=true:=ZvS (by simpa using hx) (hn x (by simp))
   refine List.pairwise_cons.2 ⟨fun y hy=>?_,h⟩
   rcases List.mem_cons.1 hy with rfl | hy
   ·exact hb
   ·exact ZkJ hb (h'.1 y hy)
def Ziu:List ZaM→List ZaM
 | []=>[]
 | x :: l=>ZoC (Ziu l) x
theorem ZnF:∀ l:List ZaM,(Ziu l).Perm l
 | []=>List.Perm.refl _
 | x :: l=>(ZmT (Ziu l) x).trans ((ZnF l).cons x)
def ZG6 (l:List ZaM):Prop:=(l.map (·.1)).Nodup
theorem Zyw:∀ {l:List ZaM},ZG6 l→srt (Ziu l)
 | [],_=>List.Pairwise.nil
 | x :: l,h=>by
  have h:(x.1 :: l.map (·.1)).Nodup:=h
  rw [List.nodup_cons] at h
  refine ZvT (Zyw h.2) (fun y hy e=>h.1 ?_)
  rw [← e]
  exact List.mem_map_of_mem ((ZnF l).mem_iff.1 hy)
theorem Zo0 {l k:List ZaM} (hk:srt k) (hp:k.Perm l):Ziu l=k:=by
 refine ZFw (Zyw ?_) hk ((ZnF l).trans hp.symm)
 have:(k.map (·.1)).Nodup:=by
  rw [List.Nodup,List.pairwise_map]
  exact List.Pairwise.imp (fun h e=>by rw [e,ZoY] at h; cases h) hk
 exact (hp.map _).nodup_iff.1 this
def Ze9 (b:ZaM) (i:Nat):Prop:=(ZaG b.2.2.2 i).1 < 1∨b.2.2.1 - 1 < (ZaG b.2.2.2 i).1∨(ZaG b.2.2.2 i).2.1 < 0∨31 < (ZaG b.2.2.2 i).2.1∨40 < (ZaG b.2.2.2 i).2.2.size∨(0 < i∧(ZaG b.2.2.2 i).1≤(ZaG b.2.2.2 (i - 1)).1)
instance (b:ZaM) (i:Nat):Decidable (Ze9 b i):=by unfold Ze9; infer_instance
def Zek (b:ZaM):Bool:=decide ((∀ i,i < b.2.2.2.length→¬ Ze9 b i)∧Zb9 b.1=true∧(1≤b.2.1∧b.2.1≤999999999)∧(1≤b.2.2.1∧b.2.2.1≤999999999)∧b.2.2.2.length≤6)
theorem Zhc {b:ZaM}:Zek b=true↔(∀ i,i < b.2.2.2.length→¬ Ze9 b i)∧Zb9 b.1=true∧(1≤b.2.1∧b.2.1≤999999999)∧(1≤b.2.2.1∧b.2.2.1≤999999999)∧b.2.2.2.length≤6:=by
 unfold Zek
 rw [decide_eq_true_eq]
theorem ZLM {b:ZaM} {i:Nat} (hi:i < b.2.2.2.length) (h:Ze9 b i):Zek b=false:=by
 rw [← Bool.not_eq_true,Zhc]
 exact fun q=>q.1 i hi h
theorem Zrq {b:ZaM} (h:¬ (Zb9 b.1=true∧(1≤b.2.1∧b.2.1≤999999999)∧(1≤b.2.2.1∧b.2.2.1≤999999999)∧b.2.2.2.length≤6)):Zek b=false:=by
 rw [← Bool.not_eq_true,Zhc]
 exact fun q=>h q.2
theorem ZJK {b:ZaM} (h:∀ i,i < b.2.2.2.length→¬ Ze9 b i) (h2:Zb9 b.1=true∧(1≤b.2.1∧b.2.1≤999999999)∧(1≤b.2.2.1∧b.2.2.1≤999999999)∧b.2.2.2.length≤6):Zek b=true:=Zhc.2 ⟨h,h2⟩
def Zkd (l:List ZaM) (i:Nat):Prop:=Zek (Zab l i)=false∨(0 < i∧Zh3 (Zab l (i - 1)).1 (Zab l i).1=false)∨boxW l (Zab l i).2.1 ≠ ((i:Nat):Int)
instance (l:List ZaM) (i:Nat):Decidable (Zkd l i):=by unfold Zkd; infer_instance
def Zdr (l:List ZaM):Bool:=decide ((∀ i,i < l.length→¬ Zkd l i)∧l.length≤4)
theorem Zhd {l:List ZaM}:Zdr l=true↔(∀ i,i < l.length→¬ Zkd l i)∧l.length≤4:=by
 unfold Zdr
 rw [decide_eq_true_eq]
theorem ZkK {l:List ZaM} {i:Nat} (hi:i < l.length) (h:Zkd l i):Zdr l=false:=by
 rw [← Bool.not_eq_true,Zhd]
 exact fun q=>q.1 i hi h
theorem ZD9 {l:List ZaM} (h:∀ i,i < l.length→¬ Zkd l i):Zdr l=decide (l.length≤4):=by
 rw [Bool.eq_iff_iff,Zhd,decide_eq_true_eq]
 exact ⟨fun q=>q.2,fun q=>⟨h,q⟩⟩
theorem ZEa {l:List ZaM} (h:Zdr l=true):srt l:=by
 have hb:=(Zhd.1 h).1
 have step:∀ i,i + 1 < l.length→Zh3 (Zab l i).1 (Zab l (i + 1)).1=true:=fun i hi=>by
  have:=hb (i + 1) hi
  unfold Zkd at this
  cases hq:Zh3 (Zab l i).1 (Zab l (i + 1)).1 with
  | true=>rfl
  | false=>exact absurd (Or.inr (Or.inl ⟨by omega,hq⟩)) this
 have far:∀ d i,i + (d + 1) < l.length→Zh3 (Zab l i).1 (Zab l (i + (d + 1))).1=true:=by
  intro d
  induction d with
  | zero=>exact fun i hi=>step i hi
  | succ d ih=>exact fun i hi=>ZkJ (ih i (by omega)) (step (i + (d + 1)) (by omega))
 unfold srt
 rw [List.pairwise_iff_getElem]
 intro i j hi hj hij
 have:=far (j - i - 1) i (by omega)
 rw [show i + (j - i - 1 + 1)=j by omega] at this
 have e:∀ q (hq:q < l.length),Zab l q=l[q]:=fun q hq=>Zcj (t:=Zaj) (List.getElem?_eq_getElem hq)
 rw [e i hi,e j hj] at this
 exact this
theorem ZNc {l:List ZaM} {i:Nat} (hi:i < l.length):boxW l (Zab l i).2.1=((i:Nat):Int)↔boxW (l.take i) (Zab l i).2.1 < 0:=by
 have hg:l[i]?=some (Zab l i):=Zau (t:=Zaj) hi
 have hp:eqI (Zab l i).2.1 (Zab l i).2.1=true:=ZaJ.2 rfl
 unfold boxW
 constructor
 ·intro h
  cases ha:(l.take i).any (fun z0:ZaM=>eqI z0.2.1 (Zab l i).2.1) with
  | false=>rw [Zru ha]; omega
  | true =>
   exfalso
   obtain ⟨x,hx,hpx⟩:=List.any_eq_true.1 ha
   obtain ⟨j,hj,rfl⟩:=List.mem_iff_getElem.1 hx
   have hjl:j < i:=by rw [List.length_take] at hj; omega
   have hlt:=Zrw (p:=fun z0:ZaM=>eqI z0.2.1 (Zab l i).2.1) (l.take (j + 1))
   have:∀ k,k≤j→(l.take k).any (fun z0:ZaM=>eqI z0.2.1 (Zab l i).2.1)=false:=by
    intro k hk
    cases hq:(l.take k).any (fun z0:ZaM=>eqI z0.2.1 (Zab l i).2.1) with
    | false=>rfl
    | true =>
     exfalso
     have hfi:∃ q,l.findIdx? (fun z0:ZaM=>eqI z0.2.1 (Zab l i).2.1)=some q∧q < k:=by
      obtain ⟨y,hy,hpy⟩:=List.any_eq_true.1 hq
      obtain ⟨q,hq1,rfl⟩:=List.mem_iff_getElem.1 hy
      have hqk:q < k:=by rw [List.length_take] at hq1; omega
      have hql:q < l.length:=by omega
      rw [List.getElem_take] at hpy
      cases hf:l.findIdx? (fun z0:ZaM=>eqI z0.2.1 (Zab l i).2.1) with
      | none =>
       have:=(List.findIdx?_eq_none_iff.1 hf) _ (List.getElem_mem hql)
       rw [hpy] at this
       cases this
      | some r =>
       refine ⟨r,rfl,?_⟩
       obtain ⟨h1,h2,h3⟩:=List.findIdx?_eq_some_iff_getElem.1 hf
       rcases Nat.lt_or_ge r k with h4 | h4
       ·exact h4
       ·exact absurd hpy (by simpa using h3 q (by omega))
     obtain ⟨q,hf,hqk⟩:=hfi
     unfold Zf2 at h
     rw [hf] at h
     simp at h
     omega
   have hx' : l[j]?=some ((l.take i)[j]):=by
    rw [List.getElem_take]
    exact List.getElem?_eq_getElem (by omega)
   have:=ZEp (this j (Nat.le_refl _)) hx' hpx
   rw [this] at h
   have h:((j:Nat):Int)=((i:Nat):Int):=h
   omega
 ·intro h
  have ha:(l.take i).any (fun z0:ZaM=>eqI z0.2.1 (Zab l i).2.1)=false:=by
   cases hq:(l.take i).any (fun z0:ZaM=>eqI z0.2.1 (Zab l i).2.1) with
   | false=>rfl
   | true =>
    have:=(Zrv (p:=fun z0:ZaM=>eqI z0.2.1 (Zab l i).2.1) (l.take i)).2 hq
    omega
  exact ZEp ha hg hp
def ZbG (m:Zax):Bool:=decide ((1≤m.2.1∧m.2.1≤999999999) ∧
 (((m.1=1∨m.1=3)∧Zb9 m.2.2.2.2.1=true∧m.2.2.1=0∧m.2.2.2.1=0∧m.2.2.2.2.2=(⟨#[]⟩:ByteArray)) ∨
  (m.1=2∧m.2.2.1=0∧m.2.2.2.1=0∧m.2.2.2.2.1=(⟨#[]⟩:ByteArray)∧m.2.2.2.2.2=(⟨#[]⟩:ByteArray)) ∨
  (m.1=4∧(1≤m.2.2.1∧m.2.2.1≤999999998)∧(0≤m.2.2.2.1∧m.2.2.2.1≤31)∧m.2.2.2.2.2.size≤40∧m.2.2.2.2.1=(⟨#[]⟩:ByteArray)) ∨
  (m.1=5∧(1≤m.2.2.1∧m.2.2.1≤999999998)∧(0≤m.2.2.2.1∧m.2.2.2.1≤31)∧m.2.2.2.2.1=(⟨#[]⟩:ByteArray)∧m.2.2.2.2.2=(⟨#[]⟩:ByteArray)) ∨
  (m.1=6∧(1≤m.2.2.1∧m.2.2.1≤999999998)∧m.2.2.2.1=0∧m.2.2.2.2.1=(⟨#[]⟩:ByteArray)∧m.2.2.2.2.2=(⟨#[]⟩:ByteArray))))
abbrev bxK (l:List ZaM) (m:Zax):Nat:=(boxW l m.2.1).toNat
abbrev bxB (l:List ZaM) (m:Zax):ZaM:=Zab l (boxW l m.2.1).toNat
def Zi0 (l:List ZaM) (m:Zax):Bool :=
 if m.1=1 then decide (l.length < 4∧boxW l m.2.1 < 0∧ZiC l m.2.2.2.2.1 < 0)
 else if boxW l m.2.1 < 0 then false
 else if m.1=3 then decide (ZiC l m.2.2.2.2.1 < 0)
 else if m.1=4 then decide (m.2.2.1=(bxB l m).2.2.1∧(bxB l m).2.2.2.length < 6)
 else if m.1=5∨m.1=6 then decide (0≤Zb6 (bxB l m).2.2.2 m.2.2.1)
 else true
def ZfR (l:List ZaM) (m:Zax):Bool:=Zdr l && (ZbG m && Zi0 l m)
abbrev ZnG (l:List ZaM) (k:Nat):List ZaM:=l.take k ++ l.drop (k + 1)
abbrev ZKf (l:List Zds) (k:Nat):List Zds:=l.take k ++ l.drop (k + 1)
def ZeV (l:List ZaM) (m:Zax):List ZaM :=
 if m.1=1 then ZoC l (m.2.2.2.2.1,m.2.1,1,[])
 else if m.1=2 then ZnG l (bxK l m)
 else if m.1=3 then ZoC (ZnG l (bxK l m)) (m.2.2.2.2.1,(bxB l m).2.1,(bxB l m).2.2.1,(bxB l m).2.2.2)
 else if m.1=4 then l.set (bxK l m) ((bxB l m).1,(bxB l m).2.1,(bxB l m).2.2.1 + 1,(bxB l m).2.2.2 ++ [(m.2.2.1,m.2.2.2.1,m.2.2.2.2.2)])
 else if m.1=5 then l.set (bxK l m) ((bxB l m).1,(bxB l m).2.1,(bxB l m).2.2.1,(bxB l m).2.2.2.set (Zb6 (bxB l m).2.2.2 m.2.2.1).toNat ((ZaG (bxB l m).2.2.2 (Zb6 (bxB l m).2.2.2 m.2.2.1).toNat).1,m.2.2.2.1,(ZaG (bxB l m).2.2.2 (Zb6 (bxB l m).2.2.2 m.2.2.1).toNat).2.2))
 else l.set (bxK l m) ((bxB l m).1,(bxB l m).2.1,(bxB l m).2.2.1,ZKf (bxB l m).2.2.2 (Zb6 (bxB l m).2.2.2 m.2.2.1).toNat)
def Zdl:List ZaM→List Zax→List ZaM × Bool
 | l,[]=>(l,true)
 | l,m :: r=>if ZfR l m=true then Zdl (ZeV l m) r else (l,false)
def Zb1 (l:List ZaM):Prop:=l.length≤1048576∧∀ x ∈ l,x.2.2.2.length≤1048576
theorem ZtC {l:List ZaM} (h:Zb1 l) (k:Nat):(Zab l k).2.2.2.length≤1048576:=by
 by_cases hk:k < l.length
 ·exact h.2 _ (List.mem_of_getElem? (Zau (t:=Zaj) hk))
 ·exact Zz3
theorem ZG7 {l:List ZaM} {m:Zax} (h:ZfR l m=true):l.length≤4∧∀ k,(Zab l k).2.2.2.length≤6:=by
 unfold ZfR at h
 rw [Bool.and_eq_true] at h
 have hb:=Zhd.1 h.1
 refine ⟨hb.2,fun k=>?_⟩
 by_cases hk:k < l.length
 ·have:=hb.1 k hk
  unfold Zkd at this
  cases hq:Zek (Zab l k) with
  | false=>exact absurd (Or.inl hq) this
  | true=>exact (Zhc.1 hq).2.2.2.2
 ·exact Zz3
theorem Zo1 {l k:List ZaM} (h:srt k) (hp:k.Perm l):ZG6 l:=by
 have:(k.map (·.1)).Nodup:=by
  rw [List.Nodup,List.pairwise_map]
  exact List.Pairwise.imp (fun h e=>by rw [e,ZoY] at h; cases h) h
 exact (hp.map _).nodup_iff.1 this
theorem ZFx {l:List ZaM} (h:srt l):Ziu l=l:=Zo0 h (List.Perm.refl _)
theorem ZG8 (l:List ZaM) (k:Nat):ZnG l k=l.eraseIdx k:=by
 rw [List.eraseIdx_eq_take_drop_succ]
theorem ZmU (l:List ZaM) (k:Nat):(ZnG l k).Sublist l:=by
 rw [ZG8]
 exact List.eraseIdx_sublist _ _
theorem ZEb {l:List ZaM} (h:srt l) (k:Nat):srt (ZnG l k):=List.Pairwise.sublist (ZmU l k) h
theorem ZLN {l:List ZaM} {k:Nat} {b:ZaM} (hk:k < l.length):(l.set k b).Perm (b :: ZnG l k):=by
 rw [List.set_eq_take_append_cons_drop,if_pos hk]
 exact List.perm_middle
theorem ZNd {l:List ZaM} {k:Nat} {b:ZaM} (h:srt l) (e:b.1=(Zab l k).1):srt (l.set k b):=by
 by_cases hk:k < l.length
 ·have hm:(l.set k b).map (·.1)=l.map (·.1):=by
   rw [List.map_set,e]
   have hg:(Zab l k).1=(l.map (·.1))[k]'(by simpa using hk):=by
    rw [List.getElem_map]
    exact congrArg (fun z:ZaM=>z.1) (Zcj (t:=Zaj) (List.getElem?_eq_getElem hk))
   rw [hg,List.set_getElem_self]
  have h1:(l.map (·.1)).Pairwise (fun a b=>Zh3 a b=true):=List.pairwise_map.2 h
  rw [← hm] at h1
  exact List.pairwise_map.1 h1
 ·rw [List.set_eq_of_length_le (Nat.le_of_not_lt hk)]
  exact h
theorem ZLO {l:List ZaM} {k:Nat} {b:ZaM} (h:srt l) (hk:k < l.length) (hn:∀ x ∈ l,x.1 ≠ b.1):ZG6 (l.set k b)∧Ziu (l.set k b)=ZoC (ZnG l k) b:=by
 have h1:srt (ZoC (ZnG l k) b):=ZvT (ZEb h k) (fun x hx=>hn x ((ZmU l k).mem hx))
 have h2:(ZoC (ZnG l k) b).Perm (l.set k b):=(ZmT _ _).trans (ZLN hk).symm
 exact ⟨Zo1 h1 h2,Zo0 h1 h2⟩
theorem ZLP {l:List ZaM} {b:ZaM} (h:srt l) (hn:∀ x ∈ l,x.1 ≠ b.1):ZG6 (l ++ [b])∧Ziu (l ++ [b])=ZoC l b:=by
 have h1:srt (ZoC l b):=ZvT h hn
 have h2:(ZoC l b).Perm (l ++ [b]):=(ZmT _ _).trans (List.perm_append_singleton b l).symm
 exact ⟨Zo1 h1 h2,Zo0 h1 h2⟩
theorem Zyx {l:List ZaM} {n:ByteArray} (h:ZiC l n < 0):∀ x ∈ l,x.1 ≠ n:=fun x hx e=>by
 have:=(Zrv (p:=fun z0:ZaM=>eqS z0.1 n) l).2 (List.any_eq_true.2 ⟨x,hx,Zbp.2 e⟩)
 unfold ZiC at h
 omega
theorem Zrr (l:List ZaM) (u:Int) : -1≤boxW l u∧boxW l u < l.length:=Zrw l
theorem ZFy (l:List ZaM) (n:ByteArray) : -1≤ZiC l n∧ZiC l n < l.length:=Zrw l
theorem Zyy (l:List Zds) (u:Int) : -1≤Zb6 l u∧Zb6 l u < l.length:=Zrw l
theorem geN (a b:Int):(!geI a b)=ltI a b:=by
 rw [Bool.eq_iff_iff]
 simp [geI,ltI]
theorem Zke {l:List ZaM} {m:Zax}:Zi0 l m=true↔(m.1=1∧l.length < 4∧boxW l m.2.1 < 0∧ZiC l m.2.2.2.2.1 < 0) ∨
 (m.1 ≠ 1∧0≤boxW l m.2.1∧((m.1=3∧ZiC l m.2.2.2.2.1 < 0)∨(m.1=4∧m.2.2.1=(bxB l m).2.2.1∧(bxB l m).2.2.2.length < 6)∨((m.1=5∨m.1=6)∧0≤Zb6 (bxB l m).2.2.2 m.2.2.1)∨(m.1 ≠ 3∧m.1 ≠ 4∧m.1 ≠ 5∧m.1 ≠ 6))):=by
 unfold Zi0
 split
 ·rw [decide_eq_true_eq]
  omega
 ·split
  ·simp only [Bool.false_eq_true,false_iff]
   omega
  ·split
   ·rw [decide_eq_true_eq]
    omega
   ·split
    ·rw [decide_eq_true_eq]
     omega
    ·split
     ·rw [decide_eq_true_eq]
      omega
     ·simp only [true_iff]
      omega
theorem Ziv {l:List ZaM} {m:Zax} (h:ZfR l m=true):srt l∧l.length≤4∧(∀ k,k < l.length→Zek (Zab l k)=true)∧ZbG m=true∧Zi0 l m=true:=by
 unfold ZfR at h
 rw [Bool.and_eq_true,Bool.and_eq_true] at h
 have hb:=Zhd.1 h.1
 refine ⟨ZEa h.1,hb.2,fun k hk=>?_,h.2.1,h.2.2⟩
 have:=hb.1 k hk
 unfold Zkd at this
 cases hq:Zek (Zab l k) with
 | false=>exact absurd (Or.inl hq) this
 | true=>rfl
end Go.Proofs.YtkompmgleojmlaaGreat
