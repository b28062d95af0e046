import Derived.Test.YtkompmgleojmlaaGreatDBlName
import Derived.Test.YtkompmgleojmlaaGreatDBlSm
set_option linter.unusedSimpArgs false
set_option linter.unusedVariables false
set_option maxRecDepth 100000
set_option maxHeartbeats 4000000
namespace Go.Proofs.YtkompmgleojmlaaGreat
open Go.ChangeShapes Go.WideShapes Go.ChangeAt Go.RowKit Go.Joins Go.Deep
open GoRep (rep bulk)
def Znn (l:List Zam):Nat→List Int
  | 0=>[]
  | k + 1=>if (Zab l k).1=1 then ZGe (Zab l k).2.1 (Znn l k) else Znn l k
theorem Zj8 {n:Int} {xs:List Int}:ZAx n xs=true↔n ∈ xs:=by
  exact Zvw
theorem mem_ins {n x:Int} {xs:List Int}:x ∈ ZGe n xs↔x=n∨x ∈ xs:=by
  unfold ZGe
  cases h:ZAx n xs with
  | true =>
    have h1:=Zj8.1 h
    exact ⟨fun q=>.inr q,fun q=>q.elim (fun e=>by rw [e]; exact h1) id⟩
  | false =>
    show x ∈ xs ++ [n]↔_
    rw [List.mem_append,List.mem_singleton]
    exact ⟨fun q=>q.elim .inr .inl,fun q=>q.elim .inr .inl⟩
theorem Zj9 {l:List Zam} {x:Int}:∀ {k:Nat},x ∈ Znn l k↔∃ j,j < k∧(Zab l j).1=1∧(Zab l j).2.1=x
  | 0=>by
    constructor
    · intro h; cases h
    · rintro ⟨j,h,_⟩; omega
  | k + 1=>by
    have ih:=Zj9 (l:=l) (x:=x) (k:=k)
    unfold Znn
    constructor
    · intro h
      split at h
      · rename_i h1
        rcases mem_ins.1 h with h2 | h2
        · exact ⟨k,by omega,h1,h2.symm⟩
        · obtain ⟨j,q1,q2⟩:=ih.1 h2
          exact ⟨j,by omega,q2⟩
      · obtain ⟨j,q1,q2⟩:=ih.1 h
        exact ⟨j,by omega,q2⟩
    · rintro ⟨j,q1,q2,q3⟩
      by_cases hj:j=k
      · subst hj
        rw [if_pos q2]
        exact mem_ins.2 (.inl q3.symm)
      · have h2:=ih.2 ⟨j,by omega,q2,q3⟩
        split
        · exact mem_ins.2 (.inr h2)
        · exact h2
def ZhN (l:List Zam) (i k:Nat):Prop:=(Zab l i).1=1∧(Zab l k).1=1∧(Zab l i).2.1=(Zab l k).2.1
instance (l:List Zam) (i k:Nat):Decidable (ZhN l i k):=by unfold ZhN; infer_instance
def Zhf (st:Zau) (i:Nat):Prop:=(Zab st.2.1 i).1=1∧st.2.2 < (Zab st.2.1 i).2.1
instance (st:Zau) (i:Nat):Decidable (Zhf st i):=by unfold Zhf; infer_instance
def madeOk (l:List Zam):Bool:=decide (∀ i,i < l.length→∀ k,k < i→¬ ZhN l i k)
def Zbu (st:Zau):Bool:=decide (st.2.1.length≤300) && (btw st.2.2 0 999999999 && (madeOk st.2.1 && ((Zcp [] st.2.1).2 && (decide (∀ i,i < st.2.1.length→¬ Zhf st i) && Zbq (Zcp [] st.2.1).1 st.1))))
def okN (st:Zau) (k:Nat):Bool:=(Zcp [] st.2.1).2 && decide (∀ i,i < k→¬ Zhf st i)
theorem ZFo {st:Zau}:okN st 0=(Zcp [] st.2.1).2:=by
  unfold okN
  rw [decide_eq_true (fun i hi=>absurd hi (Nat.not_lt_zero i)),Bool.and_true]
theorem ZDj {st:Zau} {k:Nat} (h:okN st k=true) (hn:¬ Zhf st k):okN st (k + 1)=true:=by
  unfold okN at h ⊢
  rw [Bool.and_eq_true,decide_eq_true_eq] at h ⊢
  exact ⟨h.1,ZaD h.2 hn⟩
theorem ZGR {st:Zau} {k:Nat} (h:okN st k=false∨Zhf st k):okN st (k + 1)=false:=by
  cases hq:okN st (k + 1) with
  | false=>rfl
  | true =>
    exfalso
    unfold okN at h hq
    rw [Bool.and_eq_true,decide_eq_true_eq] at hq
    rcases h with h | h
    · rw [hq.1,Bool.true_and] at h
      exact of_decide_eq_false h (fun i hi=>hq.2 i (by omega))
    · exact hq.2 k (by omega) h
theorem ZIq {st:Zau} {k:Nat} (h:okN st k=true) (h1:(Zab st.2.1 k).1=1):leI (Zab st.2.1 k).2.1 st.2.2=okN st (k + 1):=by
  cases hq:leI (Zab st.2.1 k).2.1 st.2.2 with
  | true=>exact (ZDj h (fun t=>by have:=ZbD.1 hq; have:=t.2; omega)).symm
  | false=>exact (ZGR (.inr ⟨h1,by have:=Zb6.1 hq; omega⟩)).symm
theorem ZIr {st:Zau} (h1:st.2.1.length≤300) (h2:0≤st.2.2∧st.2.2≤999999999) (h3:madeOk st.2.1=true):Zbu st=(okN st st.2.1.length && Zbq (Zcp [] st.2.1).1 st.1):=by
  unfold Zbu okN
  rw [decide_eq_true h1,Zbd.2 h2,h3,Bool.true_and,Bool.true_and,Bool.true_and,Bool.and_assoc]
theorem ZgX {st:Zau}:Zbu st=true↔st.2.1.length≤300∧(0≤st.2.2∧st.2.2≤999999999)∧(∀ i,i < st.2.1.length→∀ k,k < i→¬ ZhN st.2.1 i k)∧(Zcp [] st.2.1).2=true∧(∀ i,i < st.2.1.length→¬ Zhf st i)∧(Zcp [] st.2.1).1=st.1:=by
  unfold Zbu madeOk
  simp only [Bool.and_eq_true,decide_eq_true_eq,Zbd,Zcl]
def Zym (st:Zau):Nat→List AV→Mem→Za3
  | 6,tm,M=>⟨Nat,fun y=>(Zb2 (Zcx tm [(2, .any),(7, .any),(39, .c (.int .i64 ((y:Nat):Int)))]) 40 21,ZrZ M [(2, .mp (Znn st.2.1 y))]),fun y=>(y≤List.length st.2.1∧∀ j,j < y→(¬ Zhf st j∧∀ i,i < j→¬ ZhN st.2.1 j i)),fun y=>(List.length st.2.1 - y)⟩
  | _,_,_=>⟨Unit,fun _=>([],[]),fun _=>False,fun _=>0⟩
def Zyn (st:Zau) (y0:Nat) (y0' : Nat):Prop:=(True∧lxs [.c (.row 1 0), .c (.bool (Zcp ([]:List Zaw) st.2.1).2), .c (.mp 2), .tp []] (True∧lxs [.tp [.c (.row 1 0), .c (.bool (Zcp ([]:List Zaw) st.2.1).2)], .c (.bp 0 1),hn Zae st.2.1, .tp [.c (.row 1 0), .c (.bool (Zcp ([]:List Zaw) st.2.1).2)], .c (.row 1 0), .c (.bool (Zcp ([]:List Zaw) st.2.1).2), .c (.bool (Zcp ([]:List Zaw) st.2.1).2), .c (.bool (!(Zcp ([]:List Zaw) st.2.1).2)), .c (.bool false), .c (.row 1 0), .c (.bp 0 0),hn Zaf st.1, .c (.bool (Zbq ((Zcp ([]:List Zaw) st.2.1).1) st.1)), .c (.bool (!(Zbq ((Zcp ([]:List Zaw) st.2.1).1) st.1))), .c (.bool (!(Zbq ((Zcp ([]:List Zaw) st.2.1).1) st.1))), .c (.bool false), .c (.bp 0 1),hn Zae st.2.1,ci (List.length st.2.1), .c (.bool (gtI (List.length st.2.1) 300)), .c (.bool (gtI (List.length st.2.1) 300)), .c (.bool false), .c (.bp 0 2),ci st.2.2, .c (.bool (btw st.2.2 0 999999999)), .c (.bool (!(btw st.2.2 0 999999999))), .c (.bool false), .c (.mp 2), .c (.bp 0 1),hn Zae st.2.1,ci (List.length st.2.1)] (vI (w64 ((y0:Int) + 1)) y0'∧TN 21 True)))
def ZjC (st:Zau):List AC:=[.hs .no Zaf st.1, .hs .no Zae st.2.1, .int .i64 st.2.2]
theorem Zyo (st:Zau):Zai Tryz.prog 37 [.ag (cellsOf Zbr st)] (.c (.bool (Zbu st))) []:=by
  refine bc0 [ZiX,Zrp,Zb0] [] [] [] (Zym st) Tryz.func37 (fun hwf=>?_)
  refine Eq.mpr (β:=(T4 ((pt (ZbA ([]:List Zaw)))∧(T8 (bif (!(Zcp ([]:List Zaw) st.2.1).2) then (T6 (rB false (Zbu st))) else (T3 ((True∧pt (true=true))∧(T3 (bif (!(Zbq ((Zcp ([]:List Zaw) st.2.1).1) st.1)) then (T4 (rB false (Zbu st))) else (T6 (bif (gtI (List.length st.2.1) 300) then (T2 (rB false (Zbu st))) else (T2 ((pt True)∧(T2 (bif (!(btw st.2.2 0 999999999)) then (True∧(rB false (Zbu st))) else (T6 ((∃ q:Nat,(q≤List.length st.2.1∧∀ j,j < q→(¬ Zhf st j∧∀ i,i < j→¬ ZhN st.2.1 j i))∧((lxs [.ag (ZjC st), .c (.bp 0 0)] (True∧lxs [.c (.row 1 0), .c (.bool (Zcp ([]:List Zaw) st.2.1).2), .c (.mp 2), .tp []] (True∧lxs [.tp [.c (.row 1 0), .c (.bool (Zcp ([]:List Zaw) st.2.1).2)], .c (.bp 0 1),hn Zae st.2.1, .tp [.c (.row 1 0), .c (.bool (Zcp ([]:List Zaw) st.2.1).2)], .c (.row 1 0), .c (.bool (Zcp ([]:List Zaw) st.2.1).2), .c (.bool (Zcp ([]:List Zaw) st.2.1).2), .c (.bool (!(Zcp ([]:List Zaw) st.2.1).2)), .c (.bool false), .c (.row 1 0), .c (.bp 0 0),hn Zaf st.1, .c (.bool (Zbq ((Zcp ([]:List Zaw) st.2.1).1) st.1)), .c (.bool (!(Zbq ((Zcp ([]:List Zaw) st.2.1).1) st.1))), .c (.bool (!(Zbq ((Zcp ([]:List Zaw) st.2.1).1) st.1))), .c (.bool false), .c (.bp 0 1),hn Zae st.2.1,ci (List.length st.2.1), .c (.bool (gtI (List.length st.2.1) 300)), .c (.bool (gtI (List.length st.2.1) 300)), .c (.bool false), .c (.bp 0 2),ci st.2.2, .c (.bool (btw st.2.2 0 999999999)), .c (.bool (!(btw st.2.2 0 999999999))), .c (.bool false), .c (.mp 2), .c (.bp 0 1),hn Zae st.2.1,ci (List.length st.2.1)] (vI 0 q∧TN 21 True))))∧pt (lb (.box (ZjC st))∧lb (.row Zaf ((Zcp ([]:List Zaw) st.2.1).1) 0 0 none)∧leB (.mp ([]:List Int)) (.mp (Znn st.2.1 q))∧True)))∧∀ y0:Nat,(y0≤List.length st.2.1∧∀ j,j < y0→(¬ Zhf st j∧∀ i,i < j→¬ ZhN st.2.1 j i))→(True∧(bif (ltI y0 (List.length st.2.1)) then ((ix 6 y0 (List.length st.2.1))∧(T6 (bif (neI (Zab st.2.1 y0).1 1) then (T2 (∃ y0' : Nat,(y0'≤List.length st.2.1∧∀ j,j < y0'→(¬ Zhf st j∧∀ i,i < j→¬ ZhN st.2.1 j i))∧(List.length st.2.1 - y0') < (List.length st.2.1 - y0)∧((lxs [.ag (ZjC st), .c (.bp 0 0)] (Zyn st y0 y0'))∧pt (lb (.box (ZjC st))∧lb (.row Zaf ((Zcp ([]:List Zaw) st.2.1).1) 0 0 none)∧leB (.mp (Znn st.2.1 y0)) (.mp (Znn st.2.1 y0'))∧True)))) else (T5 (bif (ZAx (Zab st.2.1 y0).2.1 (Znn st.2.1 y0)) then (T2 (rB false (Zbu st))) else (T6 (bif (gtI (Zab st.2.1 y0).2.1 st.2.2) then (True∧(rB false (Zbu st))) else (T6 (∃ y0' : Nat,(y0'≤List.length st.2.1∧∀ j,j < y0'→(¬ Zhf st j∧∀ i,i < j→¬ ZhN st.2.1 j i))∧(List.length st.2.1 - y0') < (List.length st.2.1 - y0)∧((lxs [.ag (ZjC st), .c (.bp 0 0)] (Zyn st y0 y0'))∧pt (lb (.box (ZjC st))∧lb (.row Zaf ((Zcp ([]:List Zaw) st.2.1).1) 0 0 none)∧leB (.mp (ZGe (Zab st.2.1 y0).2.1 (Znn st.2.1 y0))) (.mp (Znn st.2.1 y0'))∧True))))))))))) else (True∧(rB true (Zbu st)))))))))))))))))))))) (by kernel_rfl) ?_
  unfold ZjC Zyn T2 T3 T4 T5 T6 T8
  have hz:ZbA ([]:List Zaw):=⟨Nat.zero_le _,fun x hx=>by cases hx⟩
  have hm:List.length st.2.1≤maxLen:=hwf.1.2.1.1
  simp only [Zbd,Zbs,ZaY,Bool.not_true,Bool.not_false,Zdy,eq_self]
  repeat' (first | apply And.intro | intro _)
  all_goals first
    | trivial
    | omega
    | exact hz.1
    | exact ⟨0,⟨Nat.zero_le _,fun j hj=>absurd hj (Nat.not_lt_zero j)⟩,rfl,rfl⟩
    | (rename_i y hy hlt hne
       exact ⟨y + 1,⟨Int.ofNat_lt.1 hlt,ZaD hy.2 ⟨fun t=>hne t.1,fun i hi t=>hne t.1⟩⟩,by omega,Zbj (by omega),(if_neg hne).symm⟩)
    | (rename_i y hy hlt h1 hmem hle
       exact ⟨y + 1,⟨Int.ofNat_lt.1 hlt,ZaD hy.2 ⟨fun t=>hle t.2,fun i hi t=>by
         have h2:=Zj8.2 (Zj9.2 ⟨i,hi,t.2.1,t.2.2.symm⟩)
         rw [hmem] at h2
         cases h2⟩⟩,by omega,Zbj (by omega),(if_pos h1).symm⟩)
    | (rename_i y hy hge
       exact (ZgX.2 ⟨by omega,by assumption,fun i hi k hk=>(hy.2 i (by omega)).2 k hk,by assumption,fun i hi=>(hy.2 i (by omega)).1,Zcl.1 (by assumption)⟩).symm)
    | (cases hq:Zbu st with
       | false=>rfl
       | true =>
         exfalso
         obtain ⟨q1,q2,q3,q4,q5,q6⟩:=ZgX.1 hq
         first
           | omega
           | (rename_i h; rw [q4] at h; cases h)
           | (rename_i h; exact eqT_LBox_false.1 h q6)
           | (rename_i h; unfold madeOk at h; exact of_decide_eq_false h q3)
           | (rename_i y hy hlt h1 hmem
              obtain ⟨j,e1,e2,e3⟩:=Zj9.1 (Zj8.1 hmem)
              exact q3 y (Int.ofNat_lt.1 hlt) j e1 ⟨h1,e2,e3.symm⟩)
           | (rename_i y hy hlt h1 hmem hb; exact q5 y (Int.ofNat_lt.1 hlt) ⟨h1,hb⟩))
def Zyp:Zat Tryz.prog:=⟨37,[.s Zbr],fun x=>True,fun x=>.c (.bool (Zbu x.1)),fun _=>[],fun x hx=>Zyo x.1,Tryz.call37⟩
def Zyq (l:List Zam):Nat→List AV→Mem→Za3
  | 2,tm,M=>⟨Nat,fun y=>(Zb2 (Zcx tm [(2, .any),(3, .c (.int .i64 ((y:Nat):Int)))]) 4 39,M),fun y=>(y≤List.length l∧∀ j,j < y→∀ i,i < j→¬ ZhN l j i),fun y=>(List.length l - y)⟩
  | 5,tm,M=>⟨Nat,fun y=>(Zb2 (Zcx tm [(2, .any),(4, .c (.int .i64 ((y:Nat):Int)))]) 11 32,M),fun y=>(((y:Nat):Int)≤(tmI tm 3)∧∀ i,i < y→¬ ZhN l (Int.toNat (tmI tm 3)) i),fun y=>(Int.toNat (tmI tm 3) - y)⟩
  | _,_,_=>⟨Unit,fun _=>([],[]),fun _=>False,fun _=>0⟩
def Zrt (y0:Nat) (l:List Zam) (y1:Nat):Prop:=(T3 (∃ y1' : Nat,((y1' : Int)≤(y0:Int)∧∀ i,i < y1'→¬ ZhN l y0 i)∧(Int.toNat (y0:Int) - y1') < (Int.toNat (y0:Int) - y1)∧((lxs [hn Zae l, .tp []] (True∧lxs [ci y0] (vI (w64 ((y1:Int) + 1)) y1'∧lxs [ci y0,hn Zae l,ci (List.length l), .c (.bool true)] (TN 34 True))))∧pt (True))))
theorem Zyr (l:List Zam):Zai Tryz.prog 68 [.c (.hs .no Zae l)] (.c (.bool (madeOk l))) []:=by
  refine bc0 [] [] [] [] (Zyq l) Tryz.func68 (fun hwf=>?_)
  refine Eq.mpr (β:=(T2 ((∃ q:Nat,(q≤List.length l∧∀ j,j < q→∀ i,i < j→¬ ZhN l j i)∧((lxs [hn Zae l, .tp []] (True∧vI 0 q∧TN 39 True))∧pt (True)))∧∀ y0:Nat,(y0≤List.length l∧∀ j,j < y0→∀ i,i < j→¬ ZhN l j i)→(T4 (bif (ltI y0 (List.length l)) then (True∧((∃ q:Nat,((q:Int)≤(y0:Int)∧∀ i,i < q→¬ ZhN l y0 i)∧((lxs [hn Zae l, .tp []] (True∧lxs [ci y0] (vI 0 q∧lxs [ci y0,hn Zae l,ci (List.length l), .c (.bool true)] (TN 34 True))))∧pt (True)))∧∀ y1:Nat,((y1:Int)≤(y0:Int)∧∀ i,i < y1→¬ ZhN l y0 i)→(T3 (bif (ltI y1 y0) then ((pt (true=true))∧(T2 ((ix 6 y0 (List.length l))∧(T4 (bif (eqI (Zab l y0).1 1) then (T2 ((ix 6 y1 (List.length l))∧(T5 (bif (eqI (Zab l y1).1 1) then (T2 ((ix 6 y0 (List.length l))∧(T4 ((ix 6 y1 (List.length l))∧(T4 (bif (eqI (Zab l y0).2.1 (Zab l y1).2.1) then (True∧(rB false (madeOk l))) else (Zrt y0 l y1))))))) else (True∧(Zrt y0 l y1)))))) else (T3 (Zrt y0 l y1))))))) else (T3 (∃ y0' : Nat,(y0'≤List.length l∧∀ j,j < y0'→∀ i,i < j→¬ ZhN l j i)∧(List.length l - y0') < (List.length l - y0)∧((lxs [hn Zae l, .tp []] (True∧vI (w64 ((y0:Int) + 1)) y0'∧TN 39 True))∧pt (True)))))))) else (True∧(rB true (madeOk l)))))))) (by kernel_rfl) ?_
  unfold Zrt T2 T3 T4 T5
  have hm:List.length l≤maxLen:=hwf.1.1
  simp only [Zbd,Zbs,ZaY,Bool.not_true,Bool.not_false,Zdy,eq_self]
  repeat' (first | apply And.intro | intro _)
  all_goals first
    | trivial
    | omega
    | exact ⟨0,⟨Nat.zero_le _,fun j hj=>absurd hj (Nat.not_lt_zero j)⟩,rfl⟩
    | exact ⟨0,⟨by omega,fun j hj=>absurd hj (Nat.not_lt_zero j)⟩,rfl⟩
    | (rename_i y hy hlt z hz hzl h1 h2 h3; exact (decide_eq_false (fun h=>h y (Int.ofNat_lt.1 hlt) z (Int.ofNat_lt.1 hzl) ⟨h1,h2,h3⟩)).symm)
    | (rename_i y hy hlt z hz hzl h1 h2 h3; exact ⟨z + 1,⟨by omega,ZaD hz.2 (fun t=>h3 t.2.2)⟩,by omega,Zbj (by omega)⟩)
    | (rename_i y hy hlt z hz hzl h1 h2; exact ⟨z + 1,⟨by omega,ZaD hz.2 (fun t=>h2 t.2.1)⟩,by omega,Zbj (by omega)⟩)
    | (rename_i y hy hlt z hz hzl h1; exact ⟨z + 1,⟨by omega,ZaD hz.2 (fun t=>h1 t.1)⟩,by omega,Zbj (by omega)⟩)
    | (rename_i y hy hlt z hz hge; exact ⟨y + 1,⟨Int.ofNat_lt.1 hlt,ZaD hy.2 (fun i hi=>hz.2 i (by omega))⟩,by omega,Zbj (by omega)⟩)
    | (rename_i y hy hge; exact (decide_eq_true (fun i hi k hk=>hy.2 i (by omega) k hk)).symm)
def Zys:Zat Tryz.prog:=⟨68,[.v (.list Zae)],fun x=>True,fun x=>.c (.bool (madeOk x.1)),fun _=>[],fun x hx=>Zyr x.1,Tryz.call68⟩
def Zyt (st:Zau):Nat→List AV→Mem→Za3
  | 5,tm,M=>⟨Nat,fun y=>(Zb2 (Zcx tm [(4, .c (.bool (okN st y))),(5, .c (.int .i64 ((y:Nat):Int)))]) 28 28,M),fun y=>(y≤List.length st.2.1),fun y=>(List.length st.2.1 - y)⟩
  | _,_,_=>⟨Unit,fun _=>([],[]),fun _=>False,fun _=>0⟩
def Zk7 (st:Zau):List AC:=[.hs .no Zaf st.1, .hs .no Zae st.2.1, .int .i64 st.2.2]
def Zno (st:Zau):Prop:=(lb (.box (Zk7 st))∧lb (.row Zaf ((Zcp ([]:List Zaw) st.2.1).1) 0 0 none)∧True)
theorem Zyu (st:Zau):Zai Tryz.prog 31 [.ag (cellsOf Zbr st)] (.c (.bool (Zbu st))) []:=by
  refine bc0 [ZbW,Zys,ZiY,Zrs] [] [] [] (Zyt st) Tryz.func31 (fun hwf=>?_)
  refine Eq.mpr (β:=(T7 (bif (gtI (List.length st.2.1) 300) then (T4 (rB false (Zbu st))) else (T2 ((pt True)∧(T3 (bif (!(btw st.2.2 0 999999999)) then (T2 (rB false (Zbu st))) else (T2 ((pt True)∧(T2 (bif (!(madeOk st.2.1)) then (True∧(rB false (Zbu st))) else (T2 ((pt (ZbA ([]:List Zaw)))∧(T6 ((∃ q:Nat,(q≤List.length st.2.1)∧((lxs [.ag (Zk7 st), .c (.bp 0 0), .c (.bool false), .c (.row 1 0)] (leV (.c (.bool (Zcp ([]:List Zaw) st.2.1).2)) (.c (.bool (okN st q)))∧vI 0 q∧lxs [.c (.bp 0 1),hn Zae st.2.1,ci (List.length st.2.1), .c (.bool (gtI (List.length st.2.1) 300)), .c (.bool false), .c (.bp 0 2),ci st.2.2, .c (.bool (btw st.2.2 0 999999999)), .c (.bool (!(btw st.2.2 0 999999999))), .c (.bool (!(btw st.2.2 0 999999999))), .c (.bool false), .c (.bp 0 1),hn Zae st.2.1, .c (.bool (madeOk st.2.1)), .c (.bool (!(madeOk st.2.1))), .c (.bool false), .tp [.c (.row 1 0), .c (.bool (Zcp ([]:List Zaw) st.2.1).2)], .c (.bp 0 1),hn Zae st.2.1, .tp [.c (.row 1 0), .c (.bool (Zcp ([]:List Zaw) st.2.1).2)], .c (.row 1 0), .c (.bool (Zcp ([]:List Zaw) st.2.1).2)] (TN 28 (tpn 7 True))))∧pt (Zno st)))∧∀ y0:Nat,(y0≤List.length st.2.1)→(T5 (bif (ltI y0 (List.length st.2.1)) then ((pt (true=true))∧(T2 (bif (okN st y0) then (T3 ((ix 6 y0 (List.length st.2.1))∧(T4 (bif (neI (Zab st.2.1 y0).1 1) then (T6 (∃ y0' : Nat,(y0'≤List.length st.2.1)∧(List.length st.2.1 - y0') < (List.length st.2.1 - y0)∧((lxs [.ag (Zk7 st), .c (.bp 0 0), .c (.bool false), .c (.row 1 0)] (leV (.c (.bool true)) (.c (.bool (okN st y0')))∧vI (w64 ((y0:Int) + 1)) y0'∧lxs [.c (.bp 0 1),hn Zae st.2.1,ci (List.length st.2.1), .c (.bool (gtI (List.length st.2.1) 300)), .c (.bool false), .c (.bp 0 2),ci st.2.2, .c (.bool (btw st.2.2 0 999999999)), .c (.bool (!(btw st.2.2 0 999999999))), .c (.bool (!(btw st.2.2 0 999999999))), .c (.bool false), .c (.bp 0 1),hn Zae st.2.1, .c (.bool (madeOk st.2.1)), .c (.bool (!(madeOk st.2.1))), .c (.bool false), .tp [.c (.row 1 0), .c (.bool (Zcp ([]:List Zaw) st.2.1).2)], .c (.bp 0 1),hn Zae st.2.1, .tp [.c (.row 1 0), .c (.bool (Zcp ([]:List Zaw) st.2.1).2)], .c (.row 1 0), .c (.bool (Zcp ([]:List Zaw) st.2.1).2)] (TN 28 (tpn 7 True))))∧pt (Zno st)))) else (T3 ((ix 6 y0 (List.length st.2.1))∧(T11 (∃ y0' : Nat,(y0'≤List.length st.2.1)∧(List.length st.2.1 - y0') < (List.length st.2.1 - y0)∧((lxs [.ag (Zk7 st), .c (.bp 0 0), .c (.bool false), .c (.row 1 0)] (leV (.c (.bool (leI (Zab st.2.1 y0).2.1 st.2.2))) (.c (.bool (okN st y0')))∧vI (w64 ((y0:Int) + 1)) y0'∧lxs [.c (.bp 0 1),hn Zae st.2.1,ci (List.length st.2.1), .c (.bool (gtI (List.length st.2.1) 300)), .c (.bool false), .c (.bp 0 2),ci st.2.2, .c (.bool (btw st.2.2 0 999999999)), .c (.bool (!(btw st.2.2 0 999999999))), .c (.bool (!(btw st.2.2 0 999999999))), .c (.bool false), .c (.bp 0 1),hn Zae st.2.1, .c (.bool (madeOk st.2.1)), .c (.bool (!(madeOk st.2.1))), .c (.bool false), .tp [.c (.row 1 0), .c (.bool (Zcp ([]:List Zaw) st.2.1).2)], .c (.bp 0 1),hn Zae st.2.1, .tp [.c (.row 1 0), .c (.bool (Zcp ([]:List Zaw) st.2.1).2)], .c (.row 1 0), .c (.bool (Zcp ([]:List Zaw) st.2.1).2)] (TN 28 (tpn 7 True))))∧pt (Zno st)))))))))) else (T5 (∃ y0' : Nat,(y0'≤List.length st.2.1)∧(List.length st.2.1 - y0') < (List.length st.2.1 - y0)∧((lxs [.ag (Zk7 st), .c (.bp 0 0), .c (.bool false), .c (.row 1 0)] (leV (.c (.bool false)) (.c (.bool (okN st y0')))∧vI (w64 ((y0:Int) + 1)) y0'∧lxs [.c (.bp 0 1),hn Zae st.2.1,ci (List.length st.2.1), .c (.bool (gtI (List.length st.2.1) 300)), .c (.bool false), .c (.bp 0 2),ci st.2.2, .c (.bool (btw st.2.2 0 999999999)), .c (.bool (!(btw st.2.2 0 999999999))), .c (.bool (!(btw st.2.2 0 999999999))), .c (.bool false), .c (.bp 0 1),hn Zae st.2.1, .c (.bool (madeOk st.2.1)), .c (.bool (!(madeOk st.2.1))), .c (.bool false), .tp [.c (.row 1 0), .c (.bool (Zcp ([]:List Zaw) st.2.1).2)], .c (.bp 0 1),hn Zae st.2.1, .tp [.c (.row 1 0), .c (.bool (Zcp ([]:List Zaw) st.2.1).2)], .c (.row 1 0), .c (.bool (Zcp ([]:List Zaw) st.2.1).2)] (TN 28 (tpn 7 True))))∧pt (Zno st))))))) else (T2 (bif (okN st y0) then (T3 ((True∧pt (true=true))∧(T2 (rB (Zbq ((Zcp ([]:List Zaw) st.2.1).1) st.1) (Zbu st))))) else (T2 (rB false (Zbu st)))))))))))))))))))))) (by kernel_rfl) ?_
  unfold Zno Zk7 T11 T2 T3 T4 T5 T6 T7
  have hz:ZbA ([]:List Zaw):=⟨Nat.zero_le _,fun x hx=>by cases hx⟩
  have hm:List.length st.2.1≤maxLen:=hwf.1.2.1.1
  simp only [Zbd,Zbs,ZaY,Bool.not_true,Bool.not_false,Zdy,eq_self]
  repeat' (first | apply And.intro | intro _)
  all_goals first
    | trivial
    | omega
    | exact hz.1
    | exact ⟨0,Nat.zero_le _,ZFo.symm,rfl⟩
    | (rename_i y hy hlt hok hne; exact ⟨y + 1,Int.ofNat_lt.1 hlt,by omega,(ZDj hok (fun t=>hne t.1)).symm,Zbj (by omega)⟩)
    | (rename_i y hy hlt hok h1; exact ⟨y + 1,Int.ofNat_lt.1 hlt,by omega,ZIq hok h1,Zbj (by omega)⟩)
    | (rename_i y hy hlt hok; exact ⟨y + 1,Int.ofNat_lt.1 hlt,by omega,(ZGR (.inl hok)).symm,Zbj (by omega)⟩)
    | (rename_i y hy hge hok; obtain rfl:y=List.length st.2.1:=(by omega); rw [ZIr (by omega) (by omega) (by assumption),hok]; first | rfl | exact (Bool.true_and _).symm)
    | trivial
    | omega
    | exact hz.1
    | exact ⟨0,⟨Nat.zero_le _,fun j hj=>absurd hj (Nat.not_lt_zero j)⟩,rfl,rfl⟩
    | (rename_i y hy hlt hne
       exact ⟨y + 1,⟨Int.ofNat_lt.1 hlt,ZaD hy.2 ⟨fun t=>hne t.1,fun i hi t=>hne t.1⟩⟩,by omega,Zbj (by omega),(if_neg hne).symm⟩)
    | (rename_i y hy hlt h1 hmem hle
       exact ⟨y + 1,⟨Int.ofNat_lt.1 hlt,ZaD hy.2 ⟨fun t=>hle t.2,fun i hi t=>by
         have h2:=Zj8.2 (Zj9.2 ⟨i,hi,t.2.1,t.2.2.symm⟩)
         rw [hmem] at h2
         cases h2⟩⟩,by omega,Zbj (by omega),(if_pos h1).symm⟩)
    | (rename_i y hy hge
       exact (ZgX.2 ⟨by omega,by assumption,fun i hi k hk=>(hy.2 i (by omega)).2 k hk,by assumption,fun i hi=>(hy.2 i (by omega)).1,Zcl.1 (by assumption)⟩).symm)
    | (cases hq:Zbu st with
       | false=>rfl
       | true =>
         exfalso
         obtain ⟨q1,q2,q3,q4,q5,q6⟩:=ZgX.1 hq
         first
           | omega
           | (rename_i h; rw [q4] at h; cases h)
           | (rename_i h; exact eqT_LBox_false.1 h q6)
           | (rename_i h; unfold madeOk at h; exact of_decide_eq_false h q3)
           | (rename_i y hy hlt h1 hmem
              obtain ⟨j,e1,e2,e3⟩:=Zj9.1 (Zj8.1 hmem)
              exact q3 y (Int.ofNat_lt.1 hlt) j e1 ⟨h1,e2,e3.symm⟩)
           | (rename_i y hy hlt h1 hmem hb; exact q5 y (Int.ofNat_lt.1 hlt) ⟨h1,hb⟩))
def Zyv:Zat Tryz.prog:=⟨31,[.s Zbr],fun x=>True,fun x=>.c (.bool (Zbu x.1)),fun _=>[],fun x hx=>Zyu x.1,Tryz.call31⟩
end Go.Proofs.YtkompmgleojmlaaGreat
