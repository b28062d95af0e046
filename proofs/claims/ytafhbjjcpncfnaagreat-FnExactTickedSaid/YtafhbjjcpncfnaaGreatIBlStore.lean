import Derived.Test.YtafhbjjcpncfnaaGreatIBlName
import Derived.Test.YtafhbjjcpncfnaaGreatIBlSm
set_option linter.unusedSimpArgs false
set_option linter.unusedVariables false
set_option maxRecDepth 100000
set_option maxHeartbeats 4000000
namespace Go.Proofs.YtafhbjjcpncfnaaGreat
open Go.ChangeShapes Go.WideShapes Go.ChangeAt Go.RowKit Go.Joins Go.Deep
open GoRep (rep bulk)
def Zp0 (l:List ZaA):Nat→List Int
 | 0=>[]
 | k + 1=>if (Zac l k).1=1 then ZKv (Zac l k).2.1 (Zp0 l k) else Zp0 l k
theorem Zl8 {n:Int} {xs:List Int}:ZEE n xs=true↔n ∈ xs:=by
 exact ZzC
theorem mem_ins {n x:Int} {xs:List Int}:x ∈ ZKv n xs↔x=n∨x ∈ xs:=by
 unfold ZKv
 cases h:ZEE n xs with
 | true =>
  have h1:=Zl8.1 h
  exact ⟨fun q=>.inr q,fun q=>q.elim (fun e=>by rw [e]; exact h1) id⟩
 | false =>
  show x ∈ xs ++ [n]↔_
  rw [List.mem_append,List.mem_singleton]
  exact ⟨fun q=>q.elim .inr .inl,fun q=>q.elim .inr .inl⟩
theorem Zl9 {l:List ZaA} {x:Int}:∀ {k:Nat},x ∈ Zp0 l k↔∃ j,j < k∧(Zac l j).1=1∧(Zac l j).2.1=x
 | 0=>by
  constructor
  ·intro h; cases h
  ·rintro ⟨j,h,_⟩; omega
 | k + 1=>by
  have ih:=Zl9 (l:=l) (x:=x) (k:=k)
  unfold Zp0
  constructor
  ·intro h
   split at h
   ·rename_i h1
    rcases mem_ins.1 h with h2 | h2
    ·exact ⟨k,by omega,h1,h2.symm⟩
    ·obtain ⟨j,q1,q2⟩:=ih.1 h2
     exact ⟨j,by omega,q2⟩
   ·obtain ⟨j,q1,q2⟩:=ih.1 h
    exact ⟨j,by omega,q2⟩
  ·rintro ⟨j,q1,q2,q3⟩
   by_cases hj:j=k
   ·subst hj
    rw [if_pos q2]
    exact mem_ins.2 (.inl q3.symm)
   ·have h2:=ih.2 ⟨j,by omega,q2,q3⟩
    split
    ·exact mem_ins.2 (.inr h2)
    ·exact h2
def ZjE (l:List ZaA) (i k:Nat):Prop:=(Zac l i).1=1∧(Zac l k).1=1∧(Zac l i).2.1=(Zac l k).2.1
instance (l:List ZaA) (i k:Nat):Decidable (ZjE l i k):=by unfold ZjE; infer_instance
def Zi5 (st:ZaI) (i:Nat):Prop:=(Zac st.2.1 i).1=1∧st.2.2 < (Zac st.2.1 i).2.1
instance (st:ZaI) (i:Nat):Decidable (Zi5 st i):=by unfold Zi5; infer_instance
def madeOk (l:List ZaA):Bool:=decide (∀ i,i < l.length→∀ k,k < i→¬ ZjE l i k)
def Zcd (st:ZaI):Bool:=decide (st.2.1.length≤300) && (btw st.2.2 0 999999999 && (madeOk st.2.1 && ((Zdk [] st.2.1).2 && (decide (∀ i,i < st.2.1.length→¬ Zi5 st i) && Zca (Zdk [] st.2.1).1 st.1))))
def okN (st:ZaI) (k:Nat):Bool:=(Zdk [] st.2.1).2 && decide (∀ i,i < k→¬ Zi5 st i)
theorem ZKa {st:ZaI}:okN st 0=(Zdk [] st.2.1).2:=by
 unfold okN
 rw [decide_eq_true (fun i hi=>absurd hi (Nat.not_lt_zero i)),Bool.and_true]
theorem ZH6 {st:ZaI} {k:Nat} (h:okN st k=true) (hn:¬ Zi5 st k):okN st (k + 1)=true:=by
 unfold okN at h ⊢
 rw [Bool.and_eq_true,decide_eq_true_eq] at h ⊢
 exact ⟨h.1,ZaU h.2 hn⟩
theorem ZLK {st:ZaI} {k:Nat} (h:okN st k=false∨Zi5 st k):okN st (k + 1)=false:=by
 cases hq:okN st (k + 1) with
 | false=>rfl
 | true =>
  exfalso
  unfold okN at h hq
  rw [Bool.and_eq_true,decide_eq_true_eq] at hq
  rcases h with h | h
  ·rw [hq.1,Bool.true_and] at h
   exact of_decide_eq_false h (fun i hi=>hq.2 i (by omega))
  ·exact hq.2 k (by omega) h
theorem ZNk {st:ZaI} {k:Nat} (h:okN st k=true) (h1:(Zac st.2.1 k).1=1):leI (Zac st.2.1 k).2.1 st.2.2=okN st (k + 1):=by
 cases hq:leI (Zac st.2.1 k).2.1 st.2.2 with
 | true=>exact (ZH6 h (fun t=>by have:=Zcn.1 hq; have:=t.2; omega)).symm
 | false=>exact (ZLK (.inr ⟨h1,by have:=ZcT.1 hq; omega⟩)).symm
theorem ZNl {st:ZaI} (h1:st.2.1.length≤300) (h2:0≤st.2.2∧st.2.2≤999999999) (h3:madeOk st.2.1=true):Zcd st=(okN st st.2.1.length && Zca (Zdk [] st.2.1).1 st.1):=by
 unfold Zcd okN
 rw [decide_eq_true h1,Zbu.2 h2,h3,Bool.true_and,Bool.true_and,Bool.true_and,Bool.and_assoc]
theorem ZiM {st:ZaI}:Zcd st=true↔st.2.1.length≤300∧(0≤st.2.2∧st.2.2≤999999999)∧(∀ i,i < st.2.1.length→∀ k,k < i→¬ ZjE st.2.1 i k)∧(Zdk [] st.2.1).2=true∧(∀ i,i < st.2.1.length→¬ Zi5 st i)∧(Zdk [] st.2.1).1=st.1:=by
 unfold Zcd madeOk
 simp only [Bool.and_eq_true,decide_eq_true_eq,Zbu,Zdg]
def ZCM (st:ZaI):Nat→List AV→Mem→Zbd
 | 6,tm,M=>⟨Nat,fun y=>(Zcf (Zct tm [(2, .any),(7, .any),(39, .c (.int .i64 ((y:Nat):Int)))]) 40 21,Zky M [(2, .mp (Zp0 st.2.1 y))]),fun y=>(y≤List.length st.2.1∧∀ j,j < y→(¬ Zi5 st j∧∀ i,i < j→¬ ZjE st.2.1 j i)),fun y=>(List.length st.2.1 - y)⟩
 | _,_,_=>⟨Unit,fun _=>([],[]),fun _=>False,fun _=>0⟩
def ZCN (st:ZaI) (y0:Nat) (y0' : Nat):Prop:=True∧lxs [.c (.row 1 0), .c (.bool (Zdk ([]:List ZaO) st.2.1).2), .c (.mp 2), .tp []] (True∧lxs [.tp [.c (.row 1 0), .c (.bool (Zdk ([]:List ZaO) st.2.1).2)], .c (.bp 0 1),hn Zag st.2.1, .tp [.c (.row 1 0), .c (.bool (Zdk ([]:List ZaO) st.2.1).2)], .c (.row 1 0), .c (.bool (Zdk ([]:List ZaO) st.2.1).2), .c (.bool (Zdk ([]:List ZaO) st.2.1).2), .c (.bool (!(Zdk ([]:List ZaO) st.2.1).2)), .c (.bool false), .c (.row 1 0), .c (.bp 0 0),hn Zaj st.1, .c (.bool (Zca ((Zdk ([]:List ZaO) st.2.1).1) st.1)), .c (.bool (!(Zca ((Zdk ([]:List ZaO) st.2.1).1) st.1))), .c (.bool (!(Zca ((Zdk ([]:List ZaO) st.2.1).1) st.1))), .c (.bool false), .c (.bp 0 1),hn Zag st.2.1,ci st.2.1.length, .c (.bool (gtI st.2.1.length 300)), .c (.bool (gtI st.2.1.length 300)), .c (.bool false), .c (.bp 0 2),ci st.2.2, .c (.bool (btw st.2.2 0 999999999)), .c (.bool (!(btw st.2.2 0 999999999))), .c (.bool false), .c (.mp 2), .c (.bp 0 1),hn Zag st.2.1,ci st.2.1.length] (vI (w64 ((y0:Int) + 1)) y0'∧TN 21 True))
def ZlD (st:ZaI):List AC:=[.hs .no Zaj st.1, .hs .no Zag st.2.1, .int .i64 st.2.2]
theorem ZCO (st:ZaI):Zao Tryz.prog 44 [.ag (cellsOf ZbJ st)] (.c (.bool (Zcd st))) []:=by
 refine bc0 [ZkR,ZuM,ZcO] [] [] [] (ZCM st) Tryz.func44 (fun hwf=>?_)
 refine Eq.mpr (β:=T4 (pt (ZbZ ([]:List ZaO))∧T8 (bif !(Zdk ([]:List ZaO) st.2.1).2 then T6 (rB false (Zcd st)) else T3 ((True∧pt (true=true))∧T3 (bif !(Zca ((Zdk ([]:List ZaO) st.2.1).1) st.1) then T4 (rB false (Zcd st)) else T6 (bif gtI st.2.1.length 300 then T2 (rB false (Zcd st)) else T2 (pt True∧T2 (bif !(btw st.2.2 0 999999999) then True∧rB false (Zcd st) else T6 ((∃ q:Nat,(q≤st.2.1.length∧∀ j,j < q→¬ Zi5 st j∧∀ i,i < j→¬ ZjE st.2.1 j i)∧lxs [.ag (ZlD st), .c (.bp 0 0)] (True∧lxs [.c (.row 1 0), .c (.bool (Zdk ([]:List ZaO) st.2.1).2), .c (.mp 2), .tp []] (True∧lxs [.tp [.c (.row 1 0), .c (.bool (Zdk ([]:List ZaO) st.2.1).2)], .c (.bp 0 1),hn Zag st.2.1, .tp [.c (.row 1 0), .c (.bool (Zdk ([]:List ZaO) st.2.1).2)], .c (.row 1 0), .c (.bool (Zdk ([]:List ZaO) st.2.1).2), .c (.bool (Zdk ([]:List ZaO) st.2.1).2), .c (.bool (!(Zdk ([]:List ZaO) st.2.1).2)), .c (.bool false), .c (.row 1 0), .c (.bp 0 0),hn Zaj st.1, .c (.bool (Zca ((Zdk ([]:List ZaO) st.2.1).1) st.1)), .c (.bool (!(Zca ((Zdk ([]:List ZaO) st.2.1).1) st.1))), .c (.bool (!(Zca ((Zdk ([]:List ZaO) st.2.1).1) st.1))), .c (.bool false), .c (.bp 0 1),hn Zag st.2.1,ci st.2.1.length, .c (.bool (gtI st.2.1.length 300)), .c (.bool (gtI st.2.1.length 300)), .c (.bool false), .c (.bp 0 2),ci st.2.2, .c (.bool (btw st.2.2 0 999999999)), .c (.bool (!(btw st.2.2 0 999999999))), .c (.bool false), .c (.mp 2), .c (.bp 0 1),hn Zag st.2.1,ci st.2.1.length] (vI 0 q∧TN 21 True)))∧pt (lb (.box (ZlD st))∧lb (.row Zaj ((Zdk ([]:List ZaO) st.2.1).1) 0 0 none)∧leB (.mp ([]:List Int)) (.mp (Zp0 st.2.1 q))∧True))∧∀ y0:Nat,(y0≤st.2.1.length∧∀ j,j < y0→¬ Zi5 st j∧∀ i,i < j→¬ ZjE st.2.1 j i)→True∧bif ltI y0 st.2.1.length then ix 6 y0 st.2.1.length∧T6 (bif neI (Zac st.2.1 y0).1 1 then T2 (∃ y0' : Nat,(y0'≤st.2.1.length∧∀ j,j < y0'→¬ Zi5 st j∧∀ i,i < j→¬ ZjE st.2.1 j i)∧(st.2.1.length - y0') < (st.2.1.length - y0)∧lxs [.ag (ZlD st), .c (.bp 0 0)] (ZCN st y0 y0')∧pt (lb (.box (ZlD st))∧lb (.row Zaj ((Zdk ([]:List ZaO) st.2.1).1) 0 0 none)∧leB (.mp (Zp0 st.2.1 y0)) (.mp (Zp0 st.2.1 y0'))∧True)) else T5 (bif ZEE (Zac st.2.1 y0).2.1 (Zp0 st.2.1 y0) then T2 (rB false (Zcd st)) else T6 (bif gtI (Zac st.2.1 y0).2.1 st.2.2 then True∧rB false (Zcd st) else T6 (∃ y0' : Nat,(y0'≤st.2.1.length∧∀ j,j < y0'→¬ Zi5 st j∧∀ i,i < j→¬ ZjE st.2.1 j i)∧(st.2.1.length - y0') < (st.2.1.length - y0)∧lxs [.ag (ZlD st), .c (.bp 0 0)] (ZCN st y0 y0')∧pt (lb (.box (ZlD st))∧lb (.row Zaj ((Zdk ([]:List ZaO) st.2.1).1) 0 0 none)∧leB (.mp (ZKv (Zac st.2.1 y0).2.1 (Zp0 st.2.1 y0))) (.mp (Zp0 st.2.1 y0'))∧True))))) else True∧rB true (Zcd st)))))))))) (by kernel_rfl) ?_
 unfold ZlD ZCN T2 T3 T4 T5 T6 T8
 have hz:ZbZ ([]:List ZaO):=⟨Nat.zero_le _,fun x hx=>by cases hx⟩
 have hm:List.length st.2.1≤maxLen:=hwf.1.2.1.1
 simp only [Zbu,ZbS,Zbn,Bool.not_true,Bool.not_false,Zeg,eq_self]
 repeat' (first | apply And.intro | intro _)
 all_goals first
  | trivial
  | omega
  | exact hz.1
  | exact ⟨0,⟨Nat.zero_le _,fun j hj=>absurd hj (Nat.not_lt_zero j)⟩,rfl,rfl⟩
  | (rename_i y hy hlt hne
     exact ⟨y + 1,⟨Int.ofNat_lt.1 hlt,ZaU hy.2 ⟨fun t=>hne t.1,fun i hi t=>hne t.1⟩⟩,by omega,Zbs (by omega),(if_neg hne).symm⟩)
  | (rename_i y hy hlt h1 hmem hle
     exact ⟨y + 1,⟨Int.ofNat_lt.1 hlt,ZaU hy.2 ⟨fun t=>hle t.2,fun i hi t=>by
      have h2:=Zl8.2 (Zl9.2 ⟨i,hi,t.2.1,t.2.2.symm⟩)
      rw [hmem] at h2
      cases h2⟩⟩,by omega,Zbs (by omega),(if_pos h1).symm⟩)
  | (rename_i y hy hge
     exact (ZiM.2 ⟨by omega,by assumption,fun i hi k hk=>(hy.2 i (by omega)).2 k hk,by assumption,fun i hi=>(hy.2 i (by omega)).1,Zdg.1 (by assumption)⟩).symm)
  | (cases hq:Zcd st with
     | false=>rfl
     | true =>
      exfalso
      obtain ⟨q1,q2,q3,q4,q5,q6⟩:=ZiM.1 hq
      first
       | omega
       | (rename_i h; rw [q4] at h; cases h)
       | (rename_i h; exact eqT_LBox_false.1 h q6)
       | (rename_i h; unfold madeOk at h; exact of_decide_eq_false h q3)
       | (rename_i y hy hlt h1 hmem
          obtain ⟨j,e1,e2,e3⟩:=Zl9.1 (Zl8.1 hmem)
          exact q3 y (Int.ofNat_lt.1 hlt) j e1 ⟨h1,e2,e3.symm⟩)
       | (rename_i y hy hlt h1 hmem hb; exact q5 y (Int.ofNat_lt.1 hlt) ⟨h1,hb⟩))
def ZCP:ZaE Tryz.prog:=⟨44,[.s ZbJ],fun x=>True,fun x=>.c (.bool (Zcd x.1)),fun _=>[],fun x hx=>ZCO x.1,Tryz.call44⟩
def ZCQ (l:List ZaA):Nat→List AV→Mem→Zbd
 | 2,tm,M=>⟨Nat,fun y=>(Zcf (Zct tm [(2, .any),(3, .c (.int .i64 ((y:Nat):Int)))]) 4 39,M),fun y=>(y≤List.length l∧∀ j,j < y→∀ i,i < j→¬ ZjE l j i),fun y=>(List.length l - y)⟩
 | 5,tm,M=>⟨Nat,fun y=>(Zcf (Zct tm [(2, .any),(4, .c (.int .i64 ((y:Nat):Int)))]) 11 32,M),fun y=>(((y:Nat):Int)≤(tmI tm 3)∧∀ i,i < y→¬ ZjE l (Int.toNat (tmI tm 3)) i),fun y=>(Int.toNat (tmI tm 3) - y)⟩
 | _,_,_=>⟨Unit,fun _=>([],[]),fun _=>False,fun _=>0⟩
def ZuQ (y0:Nat) (l:List ZaA) (y1:Nat):Prop:=T3 (∃ y1' : Nat,((y1' : Int)≤(y0:Int)∧∀ i,i < y1'→¬ ZjE l y0 i)∧(Int.toNat (y0:Int) - y1') < (Int.toNat (y0:Int) - y1)∧lxs [hn Zag l, .tp []] (True∧lxs [ci y0] (vI (w64 ((y1:Int) + 1)) y1'∧lxs [ci y0,hn Zag l,ci l.length, .c (.bool true)] (TN 34 True)))∧pt (True))
theorem ZCR (l:List ZaA):Zao Tryz.prog 77 [.c (.hs .no Zag l)] (.c (.bool (madeOk l))) []:=by
 refine bc0 [] [] [] [] (ZCQ l) Tryz.func77 (fun hwf=>?_)
 refine Eq.mpr (β:=T2 ((∃ q:Nat,(q≤l.length∧∀ j,j < q→∀ i,i < j→¬ ZjE l j i)∧lxs [hn Zag l, .tp []] (True∧vI 0 q∧TN 39 True)∧pt (True))∧∀ y0:Nat,(y0≤l.length∧∀ j,j < y0→∀ i,i < j→¬ ZjE l j i)→T4 (bif ltI y0 l.length then True∧(∃ q:Nat,((q:Int)≤(y0:Int)∧∀ i,i < q→¬ ZjE l y0 i)∧lxs [hn Zag l, .tp []] (True∧lxs [ci y0] (vI 0 q∧lxs [ci y0,hn Zag l,ci l.length, .c (.bool true)] (TN 34 True)))∧pt (True))∧∀ y1:Nat,((y1:Int)≤(y0:Int)∧∀ i,i < y1→¬ ZjE l y0 i)→T3 (bif ltI y1 y0 then pt (true=true)∧T2 (ix 6 y0 l.length∧T4 (bif eqI (Zac l y0).1 1 then T2 (ix 6 y1 l.length∧T5 (bif eqI (Zac l y1).1 1 then T2 (ix 6 y0 l.length∧T4 (ix 6 y1 l.length∧T4 (bif eqI (Zac l y0).2.1 (Zac l y1).2.1 then True∧rB false (madeOk l) else ZuQ y0 l y1))) else True∧ZuQ y0 l y1)) else T3 (ZuQ y0 l y1))) else T3 (∃ y0' : Nat,(y0'≤l.length∧∀ j,j < y0'→∀ i,i < j→¬ ZjE l j i)∧(l.length - y0') < (l.length - y0)∧lxs [hn Zag l, .tp []] (True∧vI (w64 ((y0:Int) + 1)) y0'∧TN 39 True)∧pt (True))) else True∧rB true (madeOk l)))) (by kernel_rfl) ?_
 unfold ZuQ T2 T3 T4 T5
 have hm:List.length l≤maxLen:=hwf.1.1
 simp only [Zbu,ZbS,Zbn,Bool.not_true,Bool.not_false,Zeg,eq_self]
 repeat' (first | apply And.intro | intro _)
 all_goals first
  | trivial
  | omega
  | exact ⟨0,⟨Nat.zero_le _,fun j hj=>absurd hj (Nat.not_lt_zero j)⟩,rfl⟩
  | exact ⟨0,⟨by omega,fun j hj=>absurd hj (Nat.not_lt_zero j)⟩,rfl⟩
  | (rename_i y hy hlt z hz hzl h1 h2 h3; exact (decide_eq_false (fun h=>h y (Int.ofNat_lt.1 hlt) z (Int.ofNat_lt.1 hzl) ⟨h1,h2,h3⟩)).symm)
  | (rename_i y hy hlt z hz hzl h1 h2 h3; exact ⟨z + 1,⟨by omega,ZaU hz.2 (fun t=>h3 t.2.2)⟩,by omega,Zbs (by omega)⟩)
  | (rename_i y hy hlt z hz hzl h1 h2; exact ⟨z + 1,⟨by omega,ZaU hz.2 (fun t=>h2 t.2.1)⟩,by omega,Zbs (by omega)⟩)
  | (rename_i y hy hlt z hz hzl h1; exact ⟨z + 1,⟨by omega,ZaU hz.2 (fun t=>h1 t.1)⟩,by omega,Zbs (by omega)⟩)
  | (rename_i y hy hlt z hz hge; exact ⟨y + 1,⟨Int.ofNat_lt.1 hlt,ZaU hy.2 (fun i hi=>hz.2 i (by omega))⟩,by omega,Zbs (by omega)⟩)
  | (rename_i y hy hge; exact (decide_eq_true (fun i hi k hk=>hy.2 i (by omega) k hk)).symm)
def ZCS:ZaE Tryz.prog:=⟨77,[.v (.list Zag)],fun x=>True,fun x=>.c (.bool (madeOk x.1)),fun _=>[],fun x hx=>ZCR x.1,Tryz.call77⟩
def ZCT (st:ZaI):Nat→List AV→Mem→Zbd
 | 5,tm,M=>⟨Nat,fun y=>(Zcf (Zct tm [(4, .c (.bool (okN st y))),(5, .c (.int .i64 ((y:Nat):Int)))]) 28 28,M),fun y=>(y≤List.length st.2.1),fun y=>(List.length st.2.1 - y)⟩
 | _,_,_=>⟨Unit,fun _=>([],[]),fun _=>False,fun _=>0⟩
def Znd (st:ZaI):List AC:=[.hs .no Zaj st.1, .hs .no Zag st.2.1, .int .i64 st.2.2]
def Zp1 (st:ZaI):Prop:=lb (.box (Znd st))∧lb (.row Zaj ((Zdk ([]:List ZaO) st.2.1).1) 0 0 none)∧True
theorem ZCU (st:ZaI):Zao Tryz.prog 35 [.ag (cellsOf ZbJ st)] (.c (.bool (Zcd st))) []:=by
 refine bc0 [ZcI,ZCS,ZkS,ZuP] [] [] [] (ZCT st) Tryz.func35 (fun hwf=>?_)
 refine Eq.mpr (β:=T7 (bif gtI st.2.1.length 300 then T4 (rB false (Zcd st)) else T2 (pt True∧T3 (bif !(btw st.2.2 0 999999999) then T2 (rB false (Zcd st)) else T2 (pt True∧T2 (bif !(madeOk st.2.1) then True∧rB false (Zcd st) else T2 (pt (ZbZ ([]:List ZaO))∧T6 ((∃ q:Nat,(q≤st.2.1.length)∧lxs [.ag (Znd st), .c (.bp 0 0), .c (.bool false), .c (.row 1 0)] (leV (.c (.bool (Zdk ([]:List ZaO) st.2.1).2)) (.c (.bool (okN st q)))∧vI 0 q∧lxs [.c (.bp 0 1),hn Zag st.2.1,ci st.2.1.length, .c (.bool (gtI st.2.1.length 300)), .c (.bool false), .c (.bp 0 2),ci st.2.2, .c (.bool (btw st.2.2 0 999999999)), .c (.bool (!(btw st.2.2 0 999999999))), .c (.bool (!(btw st.2.2 0 999999999))), .c (.bool false), .c (.bp 0 1),hn Zag st.2.1, .c (.bool (madeOk st.2.1)), .c (.bool (!(madeOk st.2.1))), .c (.bool false), .tp [.c (.row 1 0), .c (.bool (Zdk ([]:List ZaO) st.2.1).2)], .c (.bp 0 1),hn Zag st.2.1, .tp [.c (.row 1 0), .c (.bool (Zdk ([]:List ZaO) st.2.1).2)], .c (.row 1 0), .c (.bool (Zdk ([]:List ZaO) st.2.1).2)] (TN 28 (tpn 7 True)))∧pt (Zp1 st))∧∀ y0:Nat,(y0≤st.2.1.length)→T5 (bif ltI y0 st.2.1.length then pt (true=true)∧T2 (bif okN st y0 then T3 (ix 6 y0 st.2.1.length∧T4 (bif neI (Zac st.2.1 y0).1 1 then T6 (∃ y0' : Nat,(y0'≤st.2.1.length)∧(st.2.1.length - y0') < (st.2.1.length - y0)∧lxs [.ag (Znd st), .c (.bp 0 0), .c (.bool false), .c (.row 1 0)] (leV (.c (.bool true)) (.c (.bool (okN st y0')))∧vI (w64 ((y0:Int) + 1)) y0'∧lxs [.c (.bp 0 1),hn Zag st.2.1,ci st.2.1.length, .c (.bool (gtI st.2.1.length 300)), .c (.bool false), .c (.bp 0 2),ci st.2.2, .c (.bool (btw st.2.2 0 999999999)), .c (.bool (!(btw st.2.2 0 999999999))), .c (.bool (!(btw st.2.2 0 999999999))), .c (.bool false), .c (.bp 0 1),hn Zag st.2.1, .c (.bool (madeOk st.2.1)), .c (.bool (!(madeOk st.2.1))), .c (.bool false), .tp [.c (.row 1 0), .c (.bool (Zdk ([]:List ZaO) st.2.1).2)], .c (.bp 0 1),hn Zag st.2.1, .tp [.c (.row 1 0), .c (.bool (Zdk ([]:List ZaO) st.2.1).2)], .c (.row 1 0), .c (.bool (Zdk ([]:List ZaO) st.2.1).2)] (TN 28 (tpn 7 True)))∧pt (Zp1 st)) else T3 (ix 6 y0 st.2.1.length∧T11 (∃ y0' : Nat,(y0'≤st.2.1.length)∧(st.2.1.length - y0') < (st.2.1.length - y0)∧lxs [.ag (Znd st), .c (.bp 0 0), .c (.bool false), .c (.row 1 0)] (leV (.c (.bool (leI (Zac st.2.1 y0).2.1 st.2.2))) (.c (.bool (okN st y0')))∧vI (w64 ((y0:Int) + 1)) y0'∧lxs [.c (.bp 0 1),hn Zag st.2.1,ci st.2.1.length, .c (.bool (gtI st.2.1.length 300)), .c (.bool false), .c (.bp 0 2),ci st.2.2, .c (.bool (btw st.2.2 0 999999999)), .c (.bool (!(btw st.2.2 0 999999999))), .c (.bool (!(btw st.2.2 0 999999999))), .c (.bool false), .c (.bp 0 1),hn Zag st.2.1, .c (.bool (madeOk st.2.1)), .c (.bool (!(madeOk st.2.1))), .c (.bool false), .tp [.c (.row 1 0), .c (.bool (Zdk ([]:List ZaO) st.2.1).2)], .c (.bp 0 1),hn Zag st.2.1, .tp [.c (.row 1 0), .c (.bool (Zdk ([]:List ZaO) st.2.1).2)], .c (.row 1 0), .c (.bool (Zdk ([]:List ZaO) st.2.1).2)] (TN 28 (tpn 7 True)))∧pt (Zp1 st))))) else T5 (∃ y0' : Nat,(y0'≤st.2.1.length)∧(st.2.1.length - y0') < (st.2.1.length - y0)∧lxs [.ag (Znd st), .c (.bp 0 0), .c (.bool false), .c (.row 1 0)] (leV (.c (.bool false)) (.c (.bool (okN st y0')))∧vI (w64 ((y0:Int) + 1)) y0'∧lxs [.c (.bp 0 1),hn Zag st.2.1,ci st.2.1.length, .c (.bool (gtI st.2.1.length 300)), .c (.bool false), .c (.bp 0 2),ci st.2.2, .c (.bool (btw st.2.2 0 999999999)), .c (.bool (!(btw st.2.2 0 999999999))), .c (.bool (!(btw st.2.2 0 999999999))), .c (.bool false), .c (.bp 0 1),hn Zag st.2.1, .c (.bool (madeOk st.2.1)), .c (.bool (!(madeOk st.2.1))), .c (.bool false), .tp [.c (.row 1 0), .c (.bool (Zdk ([]:List ZaO) st.2.1).2)], .c (.bp 0 1),hn Zag st.2.1, .tp [.c (.row 1 0), .c (.bool (Zdk ([]:List ZaO) st.2.1).2)], .c (.row 1 0), .c (.bool (Zdk ([]:List ZaO) st.2.1).2)] (TN 28 (tpn 7 True)))∧pt (Zp1 st))) else T2 (bif okN st y0 then T3 ((True∧pt (true=true))∧T2 (rB (Zca ((Zdk ([]:List ZaO) st.2.1).1) st.1) (Zcd st))) else T2 (rB false (Zcd st)))))))))))) (by kernel_rfl) ?_
 unfold Zp1 Znd T11 T2 T3 T4 T5 T6 T7
 have hz:ZbZ ([]:List ZaO):=⟨Nat.zero_le _,fun x hx=>by cases hx⟩
 have hm:List.length st.2.1≤maxLen:=hwf.1.2.1.1
 simp only [Zbu,ZbS,Zbn,Bool.not_true,Bool.not_false,Zeg,eq_self]
 repeat' (first | apply And.intro | intro _)
 all_goals first
  | trivial
  | omega
  | exact hz.1
  | exact ⟨0,Nat.zero_le _,ZKa.symm,rfl⟩
  | (rename_i y hy hlt hok hne; exact ⟨y + 1,Int.ofNat_lt.1 hlt,by omega,(ZH6 hok (fun t=>hne t.1)).symm,Zbs (by omega)⟩)
  | (rename_i y hy hlt hok h1; exact ⟨y + 1,Int.ofNat_lt.1 hlt,by omega,ZNk hok h1,Zbs (by omega)⟩)
  | (rename_i y hy hlt hok; exact ⟨y + 1,Int.ofNat_lt.1 hlt,by omega,(ZLK (.inl hok)).symm,Zbs (by omega)⟩)
  | (rename_i y hy hge hok; obtain rfl:y=List.length st.2.1:=(by omega); rw [ZNl (by omega) (by omega) (by assumption),hok]; first | rfl | exact (Bool.true_and _).symm)
  | trivial
  | omega
  | exact hz.1
  | exact ⟨0,⟨Nat.zero_le _,fun j hj=>absurd hj (Nat.not_lt_zero j)⟩,rfl,rfl⟩
  | (rename_i y hy hlt hne
     exact ⟨y + 1,⟨Int.ofNat_lt.1 hlt,ZaU hy.2 ⟨fun t=>hne t.1,fun i hi t=>hne t.1⟩⟩,by omega,Zbs (by omega),(if_neg hne).symm⟩)
  | (rename_i y hy hlt h1 hmem hle
     exact ⟨y + 1,⟨Int.ofNat_lt.1 hlt,ZaU hy.2 ⟨fun t=>hle t.2,fun i hi t=>by
      have h2:=Zl8.2 (Zl9.2 ⟨i,hi,t.2.1,t.2.2.symm⟩)
      rw [hmem] at h2
      cases h2⟩⟩,by omega,Zbs (by omega),(if_pos h1).symm⟩)
  | (rename_i y hy hge
     exact (ZiM.2 ⟨by omega,by assumption,fun i hi k hk=>(hy.2 i (by omega)).2 k hk,by assumption,fun i hi=>(hy.2 i (by omega)).1,Zdg.1 (by assumption)⟩).symm)
  | (cases hq:Zcd st with
     | false=>rfl
     | true =>
      exfalso
      obtain ⟨q1,q2,q3,q4,q5,q6⟩:=ZiM.1 hq
      first
       | omega
       | (rename_i h; rw [q4] at h; cases h)
       | (rename_i h; exact eqT_LBox_false.1 h q6)
       | (rename_i h; unfold madeOk at h; exact of_decide_eq_false h q3)
       | (rename_i y hy hlt h1 hmem
          obtain ⟨j,e1,e2,e3⟩:=Zl9.1 (Zl8.1 hmem)
          exact q3 y (Int.ofNat_lt.1 hlt) j e1 ⟨h1,e2,e3.symm⟩)
       | (rename_i y hy hlt h1 hmem hb; exact q5 y (Int.ofNat_lt.1 hlt) ⟨h1,hb⟩))
def ZCV:ZaE Tryz.prog:=⟨35,[.s ZbJ],fun x=>True,fun x=>.c (.bool (Zcd x.1)),fun _=>[],fun x hx=>ZCU x.1,Tryz.call35⟩
end Go.Proofs.YtafhbjjcpncfnaaGreat
