import Derived.Test.YtkompmgleojmlaaGreatDBlOk
import Derived.Test.YtkompmgleojmlaaGreatDBlFetch
set_option linter.unusedSimpArgs false
set_option linter.unusedVariables false
namespace Go.Proofs.YtkompmgleojmlaaGreat
open Go.ChangeShapes Go.WideShapes Go.ChangeAt Go.RowKit Go.Joins Go.Deep
open GoRep (rep bulk)
abbrev Zgg (a b:ByteArray):Bool:=Op.bytesLess a.toList b.toList
theorem Zsi (a b:ByteArray):(Zgg a b || decide (a=b))=!Zgg b a:=ZGO a b
theorem ZuB {a b:ByteArray} (h:Zgg a b=true):Zgg b a=false:=by
  have:=Zsi a b
  rw [h] at this
  simpa using this.symm
theorem ZmA (a:ByteArray):Zgg a a=false:=by
  cases h:Zgg a a with
  | false=>rfl
  | true=>have:=ZuB h; rw [h] at this; exact this
theorem Zsj {a b:ByteArray} (h:Zgg a b=false) (hn:a ≠ b):Zgg b a=true:=by
  have:=Zsi b a
  rw [h] at this
  cases hb:Zgg b a with
  | true=>rfl
  | false =>
    rw [hb] at this
    simp at this
    exact absurd this.symm hn
theorem ZAG:∀ (x y z:List UInt8),Op.bytesLess x y=true→Op.bytesLess y z=true→Op.bytesLess x z=true
  | [],[],_,h,_=>by simp [Op.bytesLess] at h
  | _ :: _,[],_,h,_=>by simp [Op.bytesLess] at h
  | _,_ :: _,[],_,h=>by simp [Op.bytesLess] at h
  | [],_ :: _,_ :: _,_,_=>by simp [Op.bytesLess]
  | a :: x,b :: y,c :: z,h1,h2=>by
    rw [Op.bytesLess] at h1 h2 ⊢
    simp only [Bool.or_eq_true,Bool.and_eq_true,decide_eq_true_eq,beq_iff_eq] at h1 h2 ⊢
    rcases h1 with h1 | ⟨rfl,h1⟩
    · rcases h2 with h2 | ⟨rfl,h2⟩
      · left
        have q1:a.toNat < b.toNat:=h1
        have q2:b.toNat < c.toNat:=h2
        have q3:a.toNat < c.toNat:=by omega
        exact q3
      · exact .inl h1
    · rcases h2 with h2 | ⟨rfl,h2⟩
      · exact .inl h2
      · exact .inr ⟨rfl,ZAG x y z h1 h2⟩
theorem ZiO {a b c:ByteArray} (h1:Zgg a b=true) (h2:Zgg b c=true):Zgg a c=true:=ZAG _ _ _ h1 h2
theorem ZGs {t:Ty} {xs:List t.den} {k:Nat} (h:xs.length≤k):nth t xs k=t.dflt:=by
  unfold nth
  rw [List.getD_eq_getElem?_getD,List.getElem?_eq_none h]
  rfl
def srt (l:List Zaw):Prop:=l.Pairwise (fun a b=>Zgg a.1 b.1=true)
theorem ZAH:∀ {l k:List Zaw},srt l→srt k→l.Perm k→l=k
  | [],k,_,_,h=>(List.Perm.nil_eq h)
  | a :: l,[],_,_,h=>absurd h.length_eq (by simp)
  | a :: l,b :: k,h1,h2,h=>by
    have h1':=List.pairwise_cons.1 h1
    have h2':=List.pairwise_cons.1 h2
    have e:a=b:=by
      have ha:a ∈ b :: k:=h.mem_iff.1 (by simp)
      have hb:b ∈ a :: l:=h.mem_iff.2 (by simp)
      rcases List.mem_cons.1 ha with e | ha
      · exact e
      · rcases List.mem_cons.1 hb with e | hb
        · exact e.symm
        · have q1:=h2'.1 a ha
          have q2:=h1'.1 b hb
          rw [ZuB q1] at q2
          cases q2
    subst e
    rw [ZAH h1'.2 h2'.2 ((List.perm_cons a).1 h)]
def Zmg:List Zaw→Zaw→List Zaw
  | [],b=>[b]
  | x :: l,b=>if Zgg x.1 b.1=true then x :: Zmg l b else b :: x :: l
def ZG3:List Zaw→ByteArray→Nat
  | [],_=>0
  | x :: l,n=>if Zgg x.1 n=true then ZG3 l n + 1 else 0
theorem ZmB:∀ (l:List Zaw) (b:Zaw),Zmg l b=l.take (ZG3 l b.1) ++ b :: l.drop (ZG3 l b.1)
  | [],_=>rfl
  | x :: l,b=>by
    unfold Zmg ZG3
    split
    · rw [ZmB l b]; rfl
    · rfl
theorem ZkL (l:List Zaw) (b:Zaw):(Zmg l b).Perm (b :: l):=by
  rw [ZmB]
  refine List.perm_middle.trans ?_
  rw [List.take_append_drop]
theorem lay_mem {l:List Zaw} {b x:Zaw}:x ∈ Zmg l b↔x=b∨x ∈ l:=by rw [(ZkL l b).mem_iff,List.mem_cons]
theorem Zsk:∀ {l:List Zaw} {b:Zaw},srt l→(∀ x ∈ l,x.1 ≠ b.1)→srt (Zmg l b)
  | [],b,_,_=>List.pairwise_singleton _ _
  | x :: l,b,h,hn=>by
    have h':=List.pairwise_cons.1 h
    unfold Zmg
    split
    · rename_i hx
      refine List.pairwise_cons.2 ⟨fun y hy=>?_,Zsk h'.2 (fun y hy=>hn y (by simp [hy]))⟩
      rcases lay_mem.1 hy with rfl | hy
      · exact hx
      · exact h'.1 y hy
    · rename_i hx
      have hb:Zgg b.1 x.1=true:=Zsj (by simpa using hx) (hn x (by simp))
      refine List.pairwise_cons.2 ⟨fun y hy=>?_,h⟩
      rcases List.mem_cons.1 hy with rfl | hy
      · exact hb
      · exact ZiO hb (h'.1 y hy)
def ZgG:List Zaw→List Zaw
  | []=>[]
  | x :: l=>Zmg (ZgG l) x
theorem Zlt:∀ l:List Zaw,(ZgG l).Perm l
  | []=>List.Perm.refl _
  | x :: l=>(ZkL (ZgG l) x).trans ((Zlt l).cons x)
def ZCa (l:List Zaw):Prop:=(l.map (·.1)).Nodup
theorem ZuC:∀ {l:List Zaw},ZCa l→srt (ZgG l)
  | [],_=>List.Pairwise.nil
  | x :: l,h=>by
    have h:(x.1 :: l.map (·.1)).Nodup:=h
    rw [List.nodup_cons] at h
    refine Zsk (ZuC h.2) (fun y hy e=>h.1 ?_)
    rw [← e]
    exact List.mem_map_of_mem ((Zlt l).mem_iff.1 hy)
theorem ZmC {l k:List Zaw} (hk:srt k) (hp:k.Perm l):ZgG l=k:=by
  refine ZAH (ZuC ?_) hk ((Zlt l).trans hp.symm)
  have:(k.map (·.1)).Nodup:=by
    rw [List.Nodup,List.pairwise_map]
    exact List.Pairwise.imp (fun h e=>by rw [e,ZmA] at h; cases h) hk
  exact (hp.map _).nodup_iff.1 this
def ZdT (b:Zaw) (i:Nat):Prop:=(Zay b.2.2.2 i).1 < 1∨b.2.2.1 - 1 < (Zay b.2.2.2 i).1∨(Zay b.2.2.2 i).2.1 < 0∨31 < (Zay b.2.2.2 i).2.1∨40 < (Zay b.2.2.2 i).2.2.size∨(0 < i∧(Zay b.2.2.2 i).1≤(Zay b.2.2.2 (i - 1)).1)
instance (b:Zaw) (i:Nat):Decidable (ZdT b i):=by unfold ZdT; infer_instance
def Zdf (b:Zaw):Bool:=decide ((∀ i,i < b.2.2.2.length→¬ ZdT b i)∧Zbo b.1=true∧(1≤b.2.1∧b.2.1≤999999999)∧(1≤b.2.2.1∧b.2.2.1≤999999999)∧b.2.2.2.length≤6)
theorem ZfA {b:Zaw}:Zdf b=true↔(∀ i,i < b.2.2.2.length→¬ ZdT b i)∧Zbo b.1=true∧(1≤b.2.1∧b.2.1≤999999999)∧(1≤b.2.2.1∧b.2.2.1≤999999999)∧b.2.2.2.length≤6:=by
  unfold Zdf
  rw [decide_eq_true_eq]
theorem ZGt {b:Zaw} {i:Nat} (hi:i < b.2.2.2.length) (h:ZdT b i):Zdf b=false:=by
  rw [← Bool.not_eq_true,ZfA]
  exact fun q=>q.1 i hi h
theorem ZoC {b:Zaw} (h:¬ (Zbo b.1=true∧(1≤b.2.1∧b.2.1≤999999999)∧(1≤b.2.2.1∧b.2.2.1≤999999999)∧b.2.2.2.length≤6)):Zdf b=false:=by
  rw [← Bool.not_eq_true,ZfA]
  exact fun q=>h q.2
theorem ZEx {b:Zaw} (h:∀ i,i < b.2.2.2.length→¬ ZdT b i) (h2:Zbo b.1=true∧(1≤b.2.1∧b.2.1≤999999999)∧(1≤b.2.2.1∧b.2.2.1≤999999999)∧b.2.2.2.length≤6):Zdf b=true:=ZfA.2 ⟨h,h2⟩
def Zij (l:List Zaw) (i:Nat):Prop:=Zdf (Zaa l i)=false∨(0 < i∧Zgg (Zaa l (i - 1)).1 (Zaa l i).1=false)∨boxW l (Zaa l i).2.1 ≠ ((i:Nat):Int)
instance (l:List Zaw) (i:Nat):Decidable (Zij l i):=by unfold Zij; infer_instance
def Zct (l:List Zaw):Bool:=decide ((∀ i,i < l.length→¬ Zij l i)∧l.length≤4)
theorem ZfB {l:List Zaw}:Zct l=true↔(∀ i,i < l.length→¬ Zij l i)∧l.length≤4:=by
  unfold Zct
  rw [decide_eq_true_eq]
theorem ZiP {l:List Zaw} {i:Nat} (hi:i < l.length) (h:Zij l i):Zct l=false:=by
  rw [← Bool.not_eq_true,ZfB]
  exact fun q=>q.1 i hi h
theorem Zzo {l:List Zaw} (h:∀ i,i < l.length→¬ Zij l i):Zct l=decide (l.length≤4):=by
  rw [Bool.eq_iff_iff,ZfB,decide_eq_true_eq]
  exact ⟨fun q=>q.2,fun q=>⟨h,q⟩⟩
theorem Zzp {l:List Zaw} (h:Zct l=true):srt l:=by
  have hb:=(ZfB.1 h).1
  have step:∀ i,i + 1 < l.length→Zgg (Zaa l i).1 (Zaa l (i + 1)).1=true:=fun i hi=>by
    have:=hb (i + 1) hi
    unfold Zij at this
    cases hq:Zgg (Zaa l i).1 (Zaa l (i + 1)).1 with
    | true=>rfl
    | false=>exact absurd (Or.inr (Or.inl ⟨by omega,hq⟩)) this
  have far:∀ d i,i + (d + 1) < l.length→Zgg (Zaa l i).1 (Zaa l (i + (d + 1))).1=true:=by
    intro d
    induction d with
    | zero=>exact fun i hi=>step i hi
    | succ d ih=>exact fun i hi=>ZiO (ih i (by omega)) (step (i + (d + 1)) (by omega))
  unfold srt
  rw [List.pairwise_iff_getElem]
  intro i j hi hj hij
  have:=far (j - i - 1) i (by omega)
  rw [show i + (j - i - 1 + 1)=j by omega] at this
  have e:∀ q (hq:q < l.length),Zaa l q=l[q]:=fun q hq=>ZdB (t:=Zaf) (List.getElem?_eq_getElem hq)
  rw [e i hi,e j hj] at this
  exact this
theorem ZHQ {l:List Zaw} {i:Nat} (hi:i < l.length):boxW l (Zaa l i).2.1=((i:Nat):Int)↔boxW (l.take i) (Zaa l i).2.1 < 0:=by
  have hg:l[i]?=some (Zaa l i):=Zap (t:=Zaf) hi
  have hp:eqI (Zaa l i).2.1 (Zaa l i).2.1=true:=Zao.2 rfl
  unfold boxW
  constructor
  · intro h
    cases ha:(l.take i).any (fun z0:Zaw=>eqI z0.2.1 (Zaa l i).2.1) with
    | false=>rw [ZoG ha]; omega
    | true =>
      exfalso
      obtain ⟨x,hx,hpx⟩:=List.any_eq_true.1 ha
      obtain ⟨j,hj,rfl⟩:=List.mem_iff_getElem.1 hx
      have hjl:j < i:=by rw [List.length_take] at hj; omega
      have hlt:=ZoI (p:=fun z0:Zaw=>eqI z0.2.1 (Zaa l i).2.1) (l.take (j + 1))
      have:∀ k,k≤j→(l.take k).any (fun z0:Zaw=>eqI z0.2.1 (Zaa l i).2.1)=false:=by
        intro k hk
        cases hq:(l.take k).any (fun z0:Zaw=>eqI z0.2.1 (Zaa l i).2.1) with
        | false=>rfl
        | true =>
          exfalso
          have hfi:∃ q,l.findIdx? (fun z0:Zaw=>eqI z0.2.1 (Zaa l i).2.1)=some q∧q < k:=by
            obtain ⟨y,hy,hpy⟩:=List.any_eq_true.1 hq
            obtain ⟨q,hq1,rfl⟩:=List.mem_iff_getElem.1 hy
            have hqk:q < k:=by rw [List.length_take] at hq1; omega
            have hql:q < l.length:=by omega
            rw [List.getElem_take] at hpy
            cases hf:l.findIdx? (fun z0:Zaw=>eqI z0.2.1 (Zaa l i).2.1) with
            | none =>
              have:=(List.findIdx?_eq_none_iff.1 hf) _ (List.getElem_mem hql)
              rw [hpy] at this
              cases this
            | some r =>
              refine ⟨r,rfl,?_⟩
              obtain ⟨h1,h2,h3⟩:=List.findIdx?_eq_some_iff_getElem.1 hf
              rcases Nat.lt_or_ge r k with h4 | h4
              · exact h4
              · exact absurd hpy (by simpa using h3 q (by omega))
          obtain ⟨q,hf,hqk⟩:=hfi
          unfold ZeC at h
          rw [hf] at h
          simp at h
          omega
      have hx' : l[j]?=some ((l.take i)[j]):=by
        rw [List.getElem_take]
        exact List.getElem?_eq_getElem (by omega)
      have:=ZzE (this j (Nat.le_refl _)) hx' hpx
      rw [this] at h
      have h:((j:Nat):Int)=((i:Nat):Int):=h
      omega
  · intro h
    have ha:(l.take i).any (fun z0:Zaw=>eqI z0.2.1 (Zaa l i).2.1)=false:=by
      cases hq:(l.take i).any (fun z0:Zaw=>eqI z0.2.1 (Zaa l i).2.1) with
      | false=>rfl
      | true =>
        have:=(ZoH (p:=fun z0:Zaw=>eqI z0.2.1 (Zaa l i).2.1) (l.take i)).2 hq
        omega
    exact ZzE ha hg hp
def Za2 (m:Zam):Bool:=decide ((1≤m.2.1∧m.2.1≤999999999) ∧
  (((m.1=1∨m.1=3)∧Zbo m.2.2.2.2.1=true∧m.2.2.1=0∧m.2.2.2.1=0∧m.2.2.2.2.2=(⟨#[]⟩:ByteArray)) ∨
   (m.1=2∧m.2.2.1=0∧m.2.2.2.1=0∧m.2.2.2.2.1=(⟨#[]⟩:ByteArray)∧m.2.2.2.2.2=(⟨#[]⟩:ByteArray)) ∨
   (m.1=4∧(1≤m.2.2.1∧m.2.2.1≤999999998)∧(0≤m.2.2.2.1∧m.2.2.2.1≤31)∧m.2.2.2.2.2.size≤40∧m.2.2.2.2.1=(⟨#[]⟩:ByteArray)) ∨
   (m.1=5∧(1≤m.2.2.1∧m.2.2.1≤999999998)∧(0≤m.2.2.2.1∧m.2.2.2.1≤31)∧m.2.2.2.2.1=(⟨#[]⟩:ByteArray)∧m.2.2.2.2.2=(⟨#[]⟩:ByteArray)) ∨
   (m.1=6∧(1≤m.2.2.1∧m.2.2.1≤999999998)∧m.2.2.2.1=0∧m.2.2.2.2.1=(⟨#[]⟩:ByteArray)∧m.2.2.2.2.2=(⟨#[]⟩:ByteArray))))
abbrev bxK (l:List Zaw) (m:Zam):Nat:=(boxW l m.2.1).toNat
abbrev bxB (l:List Zaw) (m:Zam):Zaw:=Zaa l (boxW l m.2.1).toNat
def Zhd (l:List Zaw) (m:Zam):Bool :=
  if m.1=1 then decide (l.length < 4∧boxW l m.2.1 < 0∧ZgO l m.2.2.2.2.1 < 0)
  else if boxW l m.2.1 < 0 then false
  else if m.1=3 then decide (ZgO l m.2.2.2.2.1 < 0)
  else if m.1=4 then decide (m.2.2.1=(bxB l m).2.2.1∧(bxB l m).2.2.2.length < 6)
  else if m.1=5∨m.1=6 then decide (0≤Zbl (bxB l m).2.2.2 m.2.2.1)
  else true
def Zet (l:List Zaw) (m:Zam):Bool:=Zct l && (Za2 m && Zhd l m)
abbrev Zlu (l:List Zaw) (k:Nat):List Zaw:=l.take k ++ l.drop (k + 1)
abbrev ZE1 (l:List Zc7) (k:Nat):List Zc7:=l.take k ++ l.drop (k + 1)
def ZdM (l:List Zaw) (m:Zam):List Zaw :=
  if m.1=1 then Zmg l (m.2.2.2.2.1,m.2.1,1,[])
  else if m.1=2 then Zlu l (bxK l m)
  else if m.1=3 then Zmg (Zlu l (bxK l m)) (m.2.2.2.2.1,(bxB l m).2.1,(bxB l m).2.2.1,(bxB l m).2.2.2)
  else if m.1=4 then l.set (bxK l m) ((bxB l m).1,(bxB l m).2.1,(bxB l m).2.2.1 + 1,(bxB l m).2.2.2 ++ [(m.2.2.1,m.2.2.2.1,m.2.2.2.2.2)])
  else if m.1=5 then l.set (bxK l m) ((bxB l m).1,(bxB l m).2.1,(bxB l m).2.2.1,(bxB l m).2.2.2.set (Zbl (bxB l m).2.2.2 m.2.2.1).toNat ((Zay (bxB l m).2.2.2 (Zbl (bxB l m).2.2.2 m.2.2.1).toNat).1,m.2.2.2.1,(Zay (bxB l m).2.2.2 (Zbl (bxB l m).2.2.2 m.2.2.1).toNat).2.2))
  else l.set (bxK l m) ((bxB l m).1,(bxB l m).2.1,(bxB l m).2.2.1,ZE1 (bxB l m).2.2.2 (Zbl (bxB l m).2.2.2 m.2.2.1).toNat)
def Zcp:List Zaw→List Zam→List Zaw × Bool
  | l,[]=>(l,true)
  | l,m :: r=>if Zet l m=true then Zcp (ZdM l m) r else (l,false)
def ZbA (l:List Zaw):Prop:=l.length≤1048576∧∀ x ∈ l,x.2.2.2.length≤1048576
theorem Zqq {l:List Zaw} (h:ZbA l) (k:Nat):(Zaa l k).2.2.2.length≤1048576:=by
  by_cases hk:k < l.length
  · exact h.2 _ (List.mem_of_getElem? (Zap (t:=Zaf) hk))
  · exact ZvW
theorem ZCb {l:List Zaw} {m:Zam} (h:Zet l m=true):l.length≤4∧∀ k,(Zaa l k).2.2.2.length≤6:=by
  unfold Zet at h
  rw [Bool.and_eq_true] at h
  have hb:=ZfB.1 h.1
  refine ⟨hb.2,fun k=>?_⟩
  by_cases hk:k < l.length
  · have:=hb.1 k hk
    unfold Zij at this
    cases hq:Zdf (Zaa l k) with
    | false=>exact absurd (Or.inl hq) this
    | true=>exact (ZfA.1 hq).2.2.2.2
  · exact ZvW
theorem ZmD {l k:List Zaw} (h:srt k) (hp:k.Perm l):ZCa l:=by
  have:(k.map (·.1)).Nodup:=by
    rw [List.Nodup,List.pairwise_map]
    exact List.Pairwise.imp (fun h e=>by rw [e,ZmA] at h; cases h) h
  exact (hp.map _).nodup_iff.1 this
theorem ZAI {l:List Zaw} (h:srt l):ZgG l=l:=ZmC h (List.Perm.refl _)
theorem ZCc (l:List Zaw) (k:Nat):Zlu l k=l.eraseIdx k:=by
  rw [List.eraseIdx_eq_take_drop_succ]
theorem ZkM (l:List Zaw) (k:Nat):(Zlu l k).Sublist l:=by
  rw [ZCc]
  exact List.eraseIdx_sublist _ _
theorem Zzq {l:List Zaw} (h:srt l) (k:Nat):srt (Zlu l k):=List.Pairwise.sublist (ZkM l k) h
theorem ZGu {l:List Zaw} {k:Nat} {b:Zaw} (hk:k < l.length):(l.set k b).Perm (b :: Zlu l k):=by
  rw [List.set_eq_take_append_cons_drop,if_pos hk]
  exact List.perm_middle
theorem ZHR {l:List Zaw} {k:Nat} {b:Zaw} (h:srt l) (e:b.1=(Zaa l k).1):srt (l.set k b):=by
  by_cases hk:k < l.length
  · have hm:(l.set k b).map (·.1)=l.map (·.1):=by
      rw [List.map_set,e]
      have hg:(Zaa l k).1=(l.map (·.1))[k]'(by simpa using hk):=by
        rw [List.getElem_map]
        exact congrArg (fun z:Zaw=>z.1) (ZdB (t:=Zaf) (List.getElem?_eq_getElem hk))
      rw [hg,List.set_getElem_self]
    have h1:(l.map (·.1)).Pairwise (fun a b=>Zgg a b=true):=List.pairwise_map.2 h
    rw [← hm] at h1
    exact List.pairwise_map.1 h1
  · rw [List.set_eq_of_length_le (Nat.le_of_not_lt hk)]
    exact h
theorem ZGv {l:List Zaw} {k:Nat} {b:Zaw} (h:srt l) (hk:k < l.length) (hn:∀ x ∈ l,x.1 ≠ b.1):ZCa (l.set k b)∧ZgG (l.set k b)=Zmg (Zlu l k) b:=by
  have h1:srt (Zmg (Zlu l k) b):=Zsk (Zzq h k) (fun x hx=>hn x ((ZkM l k).mem hx))
  have h2:(Zmg (Zlu l k) b).Perm (l.set k b):=(ZkL _ _).trans (ZGu hk).symm
  exact ⟨ZmD h1 h2,ZmC h1 h2⟩
theorem ZGw {l:List Zaw} {b:Zaw} (h:srt l) (hn:∀ x ∈ l,x.1 ≠ b.1):ZCa (l ++ [b])∧ZgG (l ++ [b])=Zmg l b:=by
  have h1:srt (Zmg l b):=Zsk h hn
  have h2:(Zmg l b).Perm (l ++ [b]):=(ZkL _ _).trans (List.perm_append_singleton b l).symm
  exact ⟨ZmD h1 h2,ZmC h1 h2⟩
theorem ZuD {l:List Zaw} {n:ByteArray} (h:ZgO l n < 0):∀ x ∈ l,x.1 ≠ n:=fun x hx e=>by
  have:=(ZoH (p:=fun z0:Zaw=>eqS z0.1 n) l).2 (List.any_eq_true.2 ⟨x,hx,ZaU.2 e⟩)
  unfold ZgO at h
  omega
theorem ZoD (l:List Zaw) (u:Int) : -1≤boxW l u∧boxW l u < l.length:=ZoI l
theorem ZAJ (l:List Zaw) (n:ByteArray) : -1≤ZgO l n∧ZgO l n < l.length:=ZoI l
theorem ZuE (l:List Zc7) (u:Int) : -1≤Zbl l u∧Zbl l u < l.length:=ZoI l
theorem geN (a b:Int):(!geI a b)=ltI a b:=by
  rw [Bool.eq_iff_iff]
  simp [geI,ltI]
theorem Zik {l:List Zaw} {m:Zam}:Zhd l m=true↔(m.1=1∧l.length < 4∧boxW l m.2.1 < 0∧ZgO l m.2.2.2.2.1 < 0) ∨
    (m.1 ≠ 1∧0≤boxW l m.2.1∧((m.1=3∧ZgO l m.2.2.2.2.1 < 0)∨(m.1=4∧m.2.2.1=(bxB l m).2.2.1∧(bxB l m).2.2.2.length < 6)∨((m.1=5∨m.1=6)∧0≤Zbl (bxB l m).2.2.2 m.2.2.1)∨(m.1 ≠ 3∧m.1 ≠ 4∧m.1 ≠ 5∧m.1 ≠ 6))):=by
  unfold Zhd
  split
  · rw [decide_eq_true_eq]
    omega
  · split
    · simp only [Bool.false_eq_true,false_iff]
      omega
    · split
      · rw [decide_eq_true_eq]
        omega
      · split
        · rw [decide_eq_true_eq]
          omega
        · split
          · rw [decide_eq_true_eq]
            omega
          · simp only [true_iff]
            omega
theorem ZgH {l:List Zaw} {m:Zam} (h:Zet l m=true):srt l∧l.length≤4∧(∀ k,k < l.length→Zdf (Zaa l k)=true)∧Za2 m=true∧Zhd l m=true:=by
  unfold Zet at h
  rw [Bool.and_eq_true,Bool.and_eq_true] at h
  have hb:=ZfB.1 h.1
  refine ⟨Zzp h.1,hb.2,fun k hk=>?_,h.2.1,h.2.2⟩
  have:=hb.1 k hk
  unfold Zij at this
  cases hq:Zdf (Zaa l k) with
  | false=>exact absurd (Or.inl hq) this
  | true=>rfl
end Go.Proofs.YtkompmgleojmlaaGreat
