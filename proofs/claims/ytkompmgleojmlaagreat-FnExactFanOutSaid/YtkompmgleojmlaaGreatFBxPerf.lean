import Derived.Test.YtkompmgleojmlaaGreatFBlOk
import Derived.Test.YtkompmgleojmlaaGreatFBlFetch
set_option linter.unusedSimpArgs false
set_option linter.unusedVariables false
namespace Go.Proofs.YtkompmgleojmlaaGreat
open Go.ChangeShapes Go.WideShapes Go.ChangeAt Go.RowKit Go.Joins Go.Deep
open GoRep (rep bulk)
abbrev Zg5 (a b:ByteArray):Bool:=Op.bytesLess a.toList b.toList
theorem ZsU (a b:ByteArray):(Zg5 a b || decide (a=b))=!Zg5 b a:=ZIz a b
theorem Zvn {a b:ByteArray} (h:Zg5 a b=true):Zg5 b a=false:=by
  have:=ZsU a b
  rw [h] at this
  simpa using this.symm
theorem Znm (a:ByteArray):Zg5 a a=false:=by
  cases h:Zg5 a a with
  | false=>rfl
  | true=>have:=Zvn h; rw [h] at this; exact this
theorem ZsV {a b:ByteArray} (h:Zg5 a b=false) (hn:a ≠ b):Zg5 b a=true:=by
  have:=ZsU b a
  rw [h] at this
  cases hb:Zg5 b a with
  | true=>rfl
  | false =>
    rw [hb] at this
    simp at this
    exact absurd this.symm hn
theorem ZAU:∀ (x y z:List UInt8),Op.bytesLess x y=true→Op.bytesLess y z=true→Op.bytesLess x z=true
  | [],[],_,h,_=>by simp [Op.bytesLess] at h
  | _ :: _,[],_,h,_=>by simp [Op.bytesLess] at h
  | _,_ :: _,[],_,h=>by simp [Op.bytesLess] at h
  | [],_ :: _,_ :: _,_,_=>by simp [Op.bytesLess]
  | a :: x,b :: y,c :: z,h1,h2=>by
    rw [Op.bytesLess] at h1 h2 ⊢
    simp only [Bool.or_eq_true,Bool.and_eq_true,decide_eq_true_eq,beq_iff_eq] at h1 h2 ⊢
    rcases h1 with h1 | ⟨rfl,h1⟩
    · rcases h2 with h2 | ⟨rfl,h2⟩
      · left
        have q1:a.toNat < b.toNat:=h1
        have q2:b.toNat < c.toNat:=h2
        have q3:a.toNat < c.toNat:=by omega
        exact q3
      · exact .inl h1
    · rcases h2 with h2 | ⟨rfl,h2⟩
      · exact .inl h2
      · exact .inr ⟨rfl,ZAU x y z h1 h2⟩
theorem ZjG {a b c:ByteArray} (h1:Zg5 a b=true) (h2:Zg5 b c=true):Zg5 a c=true:=ZAU _ _ _ h1 h2
theorem ZGN {t:Ty} {xs:List t.den} {k:Nat} (h:xs.length≤k):nth t xs k=t.dflt:=by
  unfold nth
  rw [List.getD_eq_getElem?_getD,List.getElem?_eq_none h]
  rfl
def srt (l:List ZaM):Prop:=l.Pairwise (fun a b=>Zg5 a.1 b.1=true)
theorem ZAV:∀ {l k:List ZaM},srt l→srt k→l.Perm k→l=k
  | [],k,_,_,h=>(List.Perm.nil_eq h)
  | a :: l,[],_,_,h=>absurd h.length_eq (by simp)
  | a :: l,b :: k,h1,h2,h=>by
    have h1':=List.pairwise_cons.1 h1
    have h2':=List.pairwise_cons.1 h2
    have e:a=b:=by
      have ha:a ∈ b :: k:=h.mem_iff.1 (by simp)
      have hb:b ∈ a :: l:=h.mem_iff.2 (by simp)
      rcases List.mem_cons.1 ha with e | ha
      · exact e
      · rcases List.mem_cons.1 hb with e | hb
        · exact e.symm
        · have q1:=h2'.1 a ha
          have q2:=h1'.1 b hb
          rw [Zvn q1] at q2
          cases q2
    subst e
    rw [ZAV h1'.2 h2'.2 ((List.perm_cons a).1 h)]
def Zm7:List ZaM→ZaM→List ZaM
  | [],b=>[b]
  | x :: l,b=>if Zg5 x.1 b.1=true then x :: Zm7 l b else b :: x :: l
def ZHq:List ZaM→ByteArray→Nat
  | [],_=>0
  | x :: l,n=>if Zg5 x.1 n=true then ZHq l n + 1 else 0
theorem Znn:∀ (l:List ZaM) (b:ZaM),Zm7 l b=l.take (ZHq l b.1) ++ b :: l.drop (ZHq l b.1)
  | [],_=>rfl
  | x :: l,b=>by
    unfold Zm7 ZHq
    split
    · rw [Znn l b]; rfl
    · rfl
theorem Zlu (l:List ZaM) (b:ZaM):(Zm7 l b).Perm (b :: l):=by
  rw [Znn]
  refine List.perm_middle.trans ?_
  rw [List.take_append_drop]
theorem lay_mem {l:List ZaM} {b x:ZaM}:x ∈ Zm7 l b↔x=b∨x ∈ l:=by rw [(Zlu l b).mem_iff,List.mem_cons]
theorem ZsW:∀ {l:List ZaM} {b:ZaM},srt l→(∀ x ∈ l,x.1 ≠ b.1)→srt (Zm7 l b)
  | [],b,_,_=>List.pairwise_singleton _ _
  | x :: l,b,h,hn=>by
    have h':=List.pairwise_cons.1 h
    unfold Zm7
    split
    · rename_i hx
      refine List.pairwise_cons.2 ⟨fun y hy=>?_,ZsW h'.2 (fun y hy=>hn y (by simp [hy]))⟩
      rcases lay_mem.1 hy with rfl | hy
      · exact hx
      · exact h'.1 y hy
    · rename_i hx
      have hb:Zg5 b.1 x.1=true:=ZsV (by simpa using hx) (hn x (by simp))
      refine List.pairwise_cons.2 ⟨fun y hy=>?_,h⟩
      rcases List.mem_cons.1 hy with rfl | hy
      · exact hb
      · exact ZjG hb (h'.1 y hy)
def ZhD:List ZaM→List ZaM
  | []=>[]
  | x :: l=>Zm7 (ZhD l) x
theorem Zmh:∀ l:List ZaM,(ZhD l).Perm l
  | []=>List.Perm.refl _
  | x :: l=>(Zlu (ZhD l) x).trans ((Zmh l).cons x)
def ZCx (l:List ZaM):Prop:=(l.map (·.1)).Nodup
theorem Zvo:∀ {l:List ZaM},ZCx l→srt (ZhD l)
  | [],_=>List.Pairwise.nil
  | x :: l,h=>by
    have h:(x.1 :: l.map (·.1)).Nodup:=h
    rw [List.nodup_cons] at h
    refine ZsW (Zvo h.2) (fun y hy e=>h.1 ?_)
    rw [← e]
    exact List.mem_map_of_mem ((Zmh l).mem_iff.1 hy)
theorem Zno {l k:List ZaM} (hk:srt k) (hp:k.Perm l):ZhD l=k:=by
  refine ZAV (Zvo ?_) hk ((Zmh l).trans hp.symm)
  have:(k.map (·.1)).Nodup:=by
    rw [List.Nodup,List.pairwise_map]
    exact List.Pairwise.imp (fun h e=>by rw [e,Znm] at h; cases h) hk
  exact (hp.map _).nodup_iff.1 this
def Zep (b:ZaM) (i:Nat):Prop:=(ZaL b.2.2.2 i).1 < 1∨b.2.2.1 - 1 < (ZaL b.2.2.2 i).1∨(ZaL b.2.2.2 i).2.1 < 0∨31 < (ZaL b.2.2.2 i).2.1∨40 < (ZaL b.2.2.2 i).2.2.size∨(0 < i∧(ZaL b.2.2.2 i).1≤(ZaL b.2.2.2 (i - 1)).1)
instance (b:ZaM) (i:Nat):Decidable (Zep b i):=by unfold Zep; infer_instance
def Zdz (b:ZaM):Bool:=decide ((∀ i,i < b.2.2.2.length→¬ Zep b i)∧Zbx b.1=true∧(1≤b.2.1∧b.2.1≤999999999)∧(1≤b.2.2.1∧b.2.2.1≤999999999)∧b.2.2.2.length≤6)
theorem Zgm {b:ZaM}:Zdz b=true↔(∀ i,i < b.2.2.2.length→¬ Zep b i)∧Zbx b.1=true∧(1≤b.2.1∧b.2.1≤999999999)∧(1≤b.2.2.1∧b.2.2.1≤999999999)∧b.2.2.2.length≤6:=by
  unfold Zdz
  rw [decide_eq_true_eq]
theorem ZGO {b:ZaM} {i:Nat} (hi:i < b.2.2.2.length) (h:Zep b i):Zdz b=false:=by
  rw [← Bool.not_eq_true,Zgm]
  exact fun q=>q.1 i hi h
theorem Zpj {b:ZaM} (h:¬ (Zbx b.1=true∧(1≤b.2.1∧b.2.1≤999999999)∧(1≤b.2.2.1∧b.2.2.1≤999999999)∧b.2.2.2.length≤6)):Zdz b=false:=by
  rw [← Bool.not_eq_true,Zgm]
  exact fun q=>h q.2
theorem ZE0 {b:ZaM} (h:∀ i,i < b.2.2.2.length→¬ Zep b i) (h2:Zbx b.1=true∧(1≤b.2.1∧b.2.1≤999999999)∧(1≤b.2.2.1∧b.2.2.1≤999999999)∧b.2.2.2.length≤6):Zdz b=true:=Zgm.2 ⟨h,h2⟩
def Zjc (l:List ZaM) (i:Nat):Prop:=Zdz (Zab l i)=false∨(0 < i∧Zg5 (Zab l (i - 1)).1 (Zab l i).1=false)∨boxW l (Zab l i).2.1 ≠ ((i:Nat):Int)
instance (l:List ZaM) (i:Nat):Decidable (Zjc l i):=by unfold Zjc; infer_instance
def ZcJ (l:List ZaM):Bool:=decide ((∀ i,i < l.length→¬ Zjc l i)∧l.length≤4)
theorem Zgn {l:List ZaM}:ZcJ l=true↔(∀ i,i < l.length→¬ Zjc l i)∧l.length≤4:=by
  unfold ZcJ
  rw [decide_eq_true_eq]
theorem ZjH {l:List ZaM} {i:Nat} (hi:i < l.length) (h:Zjc l i):ZcJ l=false:=by
  rw [← Bool.not_eq_true,Zgn]
  exact fun q=>q.1 i hi h
theorem ZzL {l:List ZaM} (h:∀ i,i < l.length→¬ Zjc l i):ZcJ l=decide (l.length≤4):=by
  rw [Bool.eq_iff_iff,Zgn,decide_eq_true_eq]
  exact ⟨fun q=>q.2,fun q=>⟨h,q⟩⟩
theorem ZzM {l:List ZaM} (h:ZcJ l=true):srt l:=by
  have hb:=(Zgn.1 h).1
  have step:∀ i,i + 1 < l.length→Zg5 (Zab l i).1 (Zab l (i + 1)).1=true:=fun i hi=>by
    have:=hb (i + 1) hi
    unfold Zjc at this
    cases hq:Zg5 (Zab l i).1 (Zab l (i + 1)).1 with
    | true=>rfl
    | false=>exact absurd (Or.inr (Or.inl ⟨by omega,hq⟩)) this
  have far:∀ d i,i + (d + 1) < l.length→Zg5 (Zab l i).1 (Zab l (i + (d + 1))).1=true:=by
    intro d
    induction d with
    | zero=>exact fun i hi=>step i hi
    | succ d ih=>exact fun i hi=>ZjG (ih i (by omega)) (step (i + (d + 1)) (by omega))
  unfold srt
  rw [List.pairwise_iff_getElem]
  intro i j hi hj hij
  have:=far (j - i - 1) i (by omega)
  rw [show i + (j - i - 1 + 1)=j by omega] at this
  have e:∀ q (hq:q < l.length),Zab l q=l[q]:=fun q hq=>ZbU (t:=Zak) (List.getElem?_eq_getElem hq)
  rw [e i hi,e j hj] at this
  exact this
theorem ZH5 {l:List ZaM} {i:Nat} (hi:i < l.length):boxW l (Zab l i).2.1=((i:Nat):Int)↔boxW (l.take i) (Zab l i).2.1 < 0:=by
  have hg:l[i]?=some (Zab l i):=Zau (t:=Zak) hi
  have hp:eqI (Zab l i).2.1 (Zab l i).2.1=true:=ZbA.2 rfl
  unfold boxW
  constructor
  · intro h
    cases ha:(l.take i).any (fun z0:ZaM=>eqI z0.2.1 (Zab l i).2.1) with
    | false=>rw [Zpn ha]; omega
    | true =>
      exfalso
      obtain ⟨x,hx,hpx⟩:=List.any_eq_true.1 ha
      obtain ⟨j,hj,rfl⟩:=List.mem_iff_getElem.1 hx
      have hjl:j < i:=by rw [List.length_take] at hj; omega
      have hlt:=Zpp (p:=fun z0:ZaM=>eqI z0.2.1 (Zab l i).2.1) (l.take (j + 1))
      have:∀ k,k≤j→(l.take k).any (fun z0:ZaM=>eqI z0.2.1 (Zab l i).2.1)=false:=by
        intro k hk
        cases hq:(l.take k).any (fun z0:ZaM=>eqI z0.2.1 (Zab l i).2.1) with
        | false=>rfl
        | true =>
          exfalso
          have hfi:∃ q,l.findIdx? (fun z0:ZaM=>eqI z0.2.1 (Zab l i).2.1)=some q∧q < k:=by
            obtain ⟨y,hy,hpy⟩:=List.any_eq_true.1 hq
            obtain ⟨q,hq1,rfl⟩:=List.mem_iff_getElem.1 hy
            have hqk:q < k:=by rw [List.length_take] at hq1; omega
            have hql:q < l.length:=by omega
            rw [List.getElem_take] at hpy
            cases hf:l.findIdx? (fun z0:ZaM=>eqI z0.2.1 (Zab l i).2.1) with
            | none =>
              have:=(List.findIdx?_eq_none_iff.1 hf) _ (List.getElem_mem hql)
              rw [hpy] at this
              cases this
            | some r =>
              refine ⟨r,rfl,?_⟩
              obtain ⟨h1,h2,h3⟩:=List.findIdx?_eq_some_iff_getElem.1 hf
              rcases Nat.lt_or_ge r k with h4 | h4
              · exact h4
              · exact absurd hpy (by simpa using h3 q (by omega))
          obtain ⟨q,hf,hqk⟩:=hfi
          unfold ZcO at h
          rw [hf] at h
          simp at h
          omega
      have hx' : l[j]?=some ((l.take i)[j]):=by
        rw [List.getElem_take]
        exact List.getElem?_eq_getElem (by omega)
      have:=Zz1 (this j (Nat.le_refl _)) hx' hpx
      rw [this] at h
      have h:((j:Nat):Int)=((i:Nat):Int):=h
      omega
  · intro h
    have ha:(l.take i).any (fun z0:ZaM=>eqI z0.2.1 (Zab l i).2.1)=false:=by
      cases hq:(l.take i).any (fun z0:ZaM=>eqI z0.2.1 (Zab l i).2.1) with
      | false=>rfl
      | true =>
        have:=(Zpo (p:=fun z0:ZaM=>eqI z0.2.1 (Zab l i).2.1) (l.take i)).2 hq
        omega
    exact Zz1 ha hg hp
def Zbm (m:Zax):Bool:=decide ((1≤m.2.1∧m.2.1≤999999999) ∧
  (((m.1=1∨m.1=3)∧Zbx m.2.2.2.2.1=true∧m.2.2.1=0∧m.2.2.2.1=0∧m.2.2.2.2.2=(⟨#[]⟩:ByteArray)) ∨
   (m.1=2∧m.2.2.1=0∧m.2.2.2.1=0∧m.2.2.2.2.1=(⟨#[]⟩:ByteArray)∧m.2.2.2.2.2=(⟨#[]⟩:ByteArray)) ∨
   (m.1=4∧(1≤m.2.2.1∧m.2.2.1≤999999998)∧(0≤m.2.2.2.1∧m.2.2.2.1≤31)∧m.2.2.2.2.2.size≤40∧m.2.2.2.2.1=(⟨#[]⟩:ByteArray)) ∨
   (m.1=5∧(1≤m.2.2.1∧m.2.2.1≤999999998)∧(0≤m.2.2.2.1∧m.2.2.2.1≤31)∧m.2.2.2.2.1=(⟨#[]⟩:ByteArray)∧m.2.2.2.2.2=(⟨#[]⟩:ByteArray)) ∨
   (m.1=6∧(1≤m.2.2.1∧m.2.2.1≤999999998)∧m.2.2.2.1=0∧m.2.2.2.2.1=(⟨#[]⟩:ByteArray)∧m.2.2.2.2.2=(⟨#[]⟩:ByteArray))))
abbrev bxK (l:List ZaM) (m:Zax):Nat:=(boxW l m.2.1).toNat
abbrev bxB (l:List ZaM) (m:Zax):ZaM:=Zab l (boxW l m.2.1).toNat
def Zh8 (l:List ZaM) (m:Zax):Bool :=
  if m.1=1 then decide (l.length < 4∧boxW l m.2.1 < 0∧ZhO l m.2.2.2.2.1 < 0)
  else if boxW l m.2.1 < 0 then false
  else if m.1=3 then decide (ZhO l m.2.2.2.2.1 < 0)
  else if m.1=4 then decide (m.2.2.1=(bxB l m).2.2.1∧(bxB l m).2.2.2.length < 6)
  else if m.1=5∨m.1=6 then decide (0≤ZbH (bxB l m).2.2.2 m.2.2.1)
  else true
def Ze3 (l:List ZaM) (m:Zax):Bool:=ZcJ l && (Zbm m && Zh8 l m)
abbrev Zmi (l:List ZaM) (k:Nat):List ZaM:=l.take k ++ l.drop (k + 1)
abbrev ZFs (l:List ZcU) (k:Nat):List ZcU:=l.take k ++ l.drop (k + 1)
def Zec (l:List ZaM) (m:Zax):List ZaM :=
  if m.1=1 then Zm7 l (m.2.2.2.2.1,m.2.1,1,[])
  else if m.1=2 then Zmi l (bxK l m)
  else if m.1=3 then Zm7 (Zmi l (bxK l m)) (m.2.2.2.2.1,(bxB l m).2.1,(bxB l m).2.2.1,(bxB l m).2.2.2)
  else if m.1=4 then l.set (bxK l m) ((bxB l m).1,(bxB l m).2.1,(bxB l m).2.2.1 + 1,(bxB l m).2.2.2 ++ [(m.2.2.1,m.2.2.2.1,m.2.2.2.2.2)])
  else if m.1=5 then l.set (bxK l m) ((bxB l m).1,(bxB l m).2.1,(bxB l m).2.2.1,(bxB l m).2.2.2.set (ZbH (bxB l m).2.2.2 m.2.2.1).toNat ((ZaL (bxB l m).2.2.2 (ZbH (bxB l m).2.2.2 m.2.2.1).toNat).1,m.2.2.2.1,(ZaL (bxB l m).2.2.2 (ZbH (bxB l m).2.2.2 m.2.2.1).toNat).2.2))
  else l.set (bxK l m) ((bxB l m).1,(bxB l m).2.1,(bxB l m).2.2.1,ZFs (bxB l m).2.2.2 (ZbH (bxB l m).2.2.2 m.2.2.1).toNat)
def Zg6:List ZaM→List Zax→List ZaM × Bool
  | l,[]=>(l,true)
  | l,m :: r=>if Ze3 l m=true then Zg6 (Zec l m) r else (l,false)
def ZbO (l:List ZaM):Prop:=l.length≤1048576∧∀ x ∈ l,x.2.2.2.length≤1048576
theorem ZCy {l:List ZaM} (h:ZbO l) (k:Nat):(Zab l k).2.2.2.length≤1048576:=by
  by_cases hk:k < l.length
  · exact h.2 _ (List.mem_of_getElem? (Zau (t:=Zak) hk))
  · exact ZwI
theorem ZCz {l:List ZaM} {m:Zax} (h:Ze3 l m=true):l.length≤4∧∀ k,(Zab l k).2.2.2.length≤6:=by
  unfold Ze3 at h
  rw [Bool.and_eq_true] at h
  have hb:=Zgn.1 h.1
  refine ⟨hb.2,fun k=>?_⟩
  by_cases hk:k < l.length
  · have:=hb.1 k hk
    unfold Zjc at this
    cases hq:Zdz (Zab l k) with
    | false=>exact absurd (Or.inl hq) this
    | true=>exact (Zgm.1 hq).2.2.2.2
  · exact ZwI
theorem Znp {l k:List ZaM} (h:srt k) (hp:k.Perm l):ZCx l:=by
  have:(k.map (·.1)).Nodup:=by
    rw [List.Nodup,List.pairwise_map]
    exact List.Pairwise.imp (fun h e=>by rw [e,Znm] at h; cases h) h
  exact (hp.map _).nodup_iff.1 this
theorem ZAW {l:List ZaM} (h:srt l):ZhD l=l:=Zno h (List.Perm.refl _)
theorem ZCA (l:List ZaM) (k:Nat):Zmi l k=l.eraseIdx k:=by
  rw [List.eraseIdx_eq_take_drop_succ]
theorem Zlv (l:List ZaM) (k:Nat):(Zmi l k).Sublist l:=by
  rw [ZCA]
  exact List.eraseIdx_sublist _ _
theorem ZzN {l:List ZaM} (h:srt l) (k:Nat):srt (Zmi l k):=List.Pairwise.sublist (Zlv l k) h
theorem ZGP {l:List ZaM} {k:Nat} {b:ZaM} (hk:k < l.length):(l.set k b).Perm (b :: Zmi l k):=by
  rw [List.set_eq_take_append_cons_drop,if_pos hk]
  exact List.perm_middle
theorem ZH6 {l:List ZaM} {k:Nat} {b:ZaM} (h:srt l) (e:b.1=(Zab l k).1):srt (l.set k b):=by
  by_cases hk:k < l.length
  · have hm:(l.set k b).map (·.1)=l.map (·.1):=by
      rw [List.map_set,e]
      have hg:(Zab l k).1=(l.map (·.1))[k]'(by simpa using hk):=by
        rw [List.getElem_map]
        exact congrArg (fun z:ZaM=>z.1) (ZbU (t:=Zak) (List.getElem?_eq_getElem hk))
      rw [hg,List.set_getElem_self]
    have h1:(l.map (·.1)).Pairwise (fun a b=>Zg5 a b=true):=List.pairwise_map.2 h
    rw [← hm] at h1
    exact List.pairwise_map.1 h1
  · rw [List.set_eq_of_length_le (Nat.le_of_not_lt hk)]
    exact h
theorem ZGQ {l:List ZaM} {k:Nat} {b:ZaM} (h:srt l) (hk:k < l.length) (hn:∀ x ∈ l,x.1 ≠ b.1):ZCx (l.set k b)∧ZhD (l.set k b)=Zm7 (Zmi l k) b:=by
  have h1:srt (Zm7 (Zmi l k) b):=ZsW (ZzN h k) (fun x hx=>hn x ((Zlv l k).mem hx))
  have h2:(Zm7 (Zmi l k) b).Perm (l.set k b):=(Zlu _ _).trans (ZGP hk).symm
  exact ⟨Znp h1 h2,Zno h1 h2⟩
theorem ZGR {l:List ZaM} {b:ZaM} (h:srt l) (hn:∀ x ∈ l,x.1 ≠ b.1):ZCx (l ++ [b])∧ZhD (l ++ [b])=Zm7 l b:=by
  have h1:srt (Zm7 l b):=ZsW h hn
  have h2:(Zm7 l b).Perm (l ++ [b]):=(Zlu _ _).trans (List.perm_append_singleton b l).symm
  exact ⟨Znp h1 h2,Zno h1 h2⟩
theorem Zvp {l:List ZaM} {n:ByteArray} (h:ZhO l n < 0):∀ x ∈ l,x.1 ≠ n:=fun x hx e=>by
  have:=(Zpo (p:=fun z0:ZaM=>eqS z0.1 n) l).2 (List.any_eq_true.2 ⟨x,hx,Zc4.2 e⟩)
  unfold ZhO at h
  omega
theorem Zpk (l:List ZaM) (u:Int) : -1≤boxW l u∧boxW l u < l.length:=Zpp l
theorem ZAX (l:List ZaM) (n:ByteArray) : -1≤ZhO l n∧ZhO l n < l.length:=Zpp l
theorem Zvq (l:List ZcU) (u:Int) : -1≤ZbH l u∧ZbH l u < l.length:=Zpp l
theorem geN (a b:Int):(!geI a b)=ltI a b:=by
  rw [Bool.eq_iff_iff]
  simp [geI,ltI]
theorem Zjd {l:List ZaM} {m:Zax}:Zh8 l m=true↔(m.1=1∧l.length < 4∧boxW l m.2.1 < 0∧ZhO l m.2.2.2.2.1 < 0) ∨
    (m.1 ≠ 1∧0≤boxW l m.2.1∧((m.1=3∧ZhO l m.2.2.2.2.1 < 0)∨(m.1=4∧m.2.2.1=(bxB l m).2.2.1∧(bxB l m).2.2.2.length < 6)∨((m.1=5∨m.1=6)∧0≤ZbH (bxB l m).2.2.2 m.2.2.1)∨(m.1 ≠ 3∧m.1 ≠ 4∧m.1 ≠ 5∧m.1 ≠ 6))):=by
  unfold Zh8
  split
  · rw [decide_eq_true_eq]
    omega
  · split
    · simp only [Bool.false_eq_true,false_iff]
      omega
    · split
      · rw [decide_eq_true_eq]
        omega
      · split
        · rw [decide_eq_true_eq]
          omega
        · split
          · rw [decide_eq_true_eq]
            omega
          · simp only [true_iff]
            omega
theorem ZhE {l:List ZaM} {m:Zax} (h:Ze3 l m=true):srt l∧l.length≤4∧(∀ k,k < l.length→Zdz (Zab l k)=true)∧Zbm m=true∧Zh8 l m=true:=by
  unfold Ze3 at h
  rw [Bool.and_eq_true,Bool.and_eq_true] at h
  have hb:=Zgn.1 h.1
  refine ⟨ZzM h.1,hb.2,fun k hk=>?_,h.2.1,h.2.2⟩
  have:=hb.1 k hk
  unfold Zjc at this
  cases hq:Zdz (Zab l k) with
  | false=>exact absurd (Or.inl hq) this
  | true=>rfl
end Go.Proofs.YtkompmgleojmlaaGreat
