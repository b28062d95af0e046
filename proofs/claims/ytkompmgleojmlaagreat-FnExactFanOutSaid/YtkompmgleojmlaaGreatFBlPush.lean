import Derived.Test.YtkompmgleojmlaaGreatFBlOk
import Derived.Test.YtkompmgleojmlaaGreatFBlDel
set_option linter.unusedSimpArgs false
set_option linter.unusedVariables false
set_option maxRecDepth 100000
set_option maxHeartbeats 4000000
namespace Go.Proofs.YtkompmgleojmlaaGreat
open Go.ChangeShapes Go.WideShapes Go.ChangeAt Go.RowKit Go.Joins Go.Deep
open GoRep (rep bulk)
theorem ZtT {l ys:List Zay} {b:Bool} {k:Nat} (h1:List.length ys=List.length l) (h2:List.take (ZaO l b k).length ys=ZaO l b k) (h3:List.drop k ys=List.drop k l) (h4:(ZaO l b k).length < k) (hk:k < List.length l) (hb:eqI (Zaf l k).1 1=b) :
    List.take (ZaO l b (k + 1)).length (List.set ys (ZaO l b k).length (Zaf ys k))=ZaO l b (k + 1)∧List.drop (k + 1) (List.set ys (ZaO l b k).length (Zaf ys k))=List.drop (k + 1) l∧(ZaO l b (k + 1)).length=(ZaO l b k).length + 1:=by
  have h0:l[k]?=some (Zaf l k):=Zau (t:=Zai) hk
  have h6:ys[k]?=some (Zaf l k):=by
    have:(List.drop k ys)[0]?=(List.drop k l)[0]?:=by rw [h3]
    rw [List.getElem?_drop,List.getElem?_drop] at this
    exact this.trans h0
  have h5:Zaf ys k=Zaf l k:=ZbU (t:=Zai) h6
  have e:ZaO l b (k + 1)=ZaO l b k ++ [Zaf l k]:=if_pos hb
  rw [e,List.length_append,List.length_singleton,h5]
  refine ⟨?_,?_,rfl⟩
  · rw [List.take_add_one,List.getElem?_set_self (by omega),List.take_set_of_le (Nat.le_refl _),h2]
    rfl
  · rw [List.drop_set_of_lt (by omega)]
    exact Zw6
theorem ZtU {l ys:List Zay} {b:Bool} {k:Nat} (h3:List.drop k ys=List.drop k l) (hk:k < List.length l) (hb:¬ eqI (Zaf l k).1 1=b):ZaO l b (k + 1)=ZaO l b k∧List.drop (k + 1) ys=List.drop (k + 1) l:=by
  refine ⟨if_neg hb,?_⟩
  exact Zw6
theorem ZAe {l ys:List Zay} {k:Nat} (h3:List.drop k ys=List.drop k l) (hk:k < List.length l):Zaf ys k=Zaf l k:=by
  have h0:l[k]?=some (Zaf l k):=Zau (t:=Zai) hk
  have:(List.drop k ys)[0]?=(List.drop k l)[0]?:=by rw [h3]
  rw [List.getElem?_drop,List.getElem?_drop] at this
  exact ZbU (t:=Zai) (this.trans h0)
theorem least {q:Nat→Bool}:∀ m:Nat,(∀ j,j < m→q j=false)∨∃ n,n < m∧(∀ j,j < n→q j=false)∧q n=true
  | 0=>.inl fun j hj=>absurd hj (Nat.not_lt_zero j)
  | m + 1=>by
    rcases least (q:=q) m with h | ⟨n,h1,h2,h3⟩
    · cases hq:q m with
      | true=>exact .inr ⟨m,by omega,h,hq⟩
      | false =>
        refine .inl fun j hj=>?_
        by_cases hjm:j=m
        · subst hjm; exact hq
        · exact h j (by omega)
    · exact .inr ⟨n,by omega,h2,h3⟩
theorem idxN_spec (p:Zay→Bool) (l:List Zay):(ZcO p l=-1∧∀ j,j < List.length l→p (Zaf l j)=false)∨∃ n:Nat,n < List.length l∧ZcO p l=(n:Int)∧(∀ j,j < n→p (Zaf l j)=false)∧p (Zaf l n)=true:=by
  rcases least (q:=fun j=>p (Zaf l j)) (List.length l) with h | ⟨n,h1,h2,h3⟩
  · exact .inl ⟨ZbW (t:=Zai) (p:=p) (xs:=l) h,h⟩
  · exact .inr ⟨n,h1,Zd4 (t:=Zai) (p:=p) (xs:=l) h1 h2 h3,h2,h3⟩
theorem ZqC {l:List Zay} {b:Bool} {p:Zay→Bool} (hp:∀ z:Zay,p z=true↔¬ eqI z.1 1=b) (h:¬ ZcO p l=-1):∃ n:Nat,n < List.length l∧ZcO p l=(n:Int)∧ZaO l b (n + 1)=List.take n l:=by
  rcases idxN_spec p l with ⟨h1,_⟩ | ⟨n,h1,h2,h3,h4⟩
  · exact absurd h1 h
  · refine ⟨n,h1,h2,?_⟩
    have e:ZaO l b (n + 1)=ZaO l b n:=if_neg ((hp _).1 h4)
    rw [e,ZlU (by omega) (fun j hj=>Classical.byContradiction fun hc=>by
      have:=h3 j hj
      rw [(hp (Zaf l j)).2 hc] at this
      cases this)]
theorem ZtV {l:List Zay} {b:Bool} {p:Zay→Bool} (hp:∀ z:Zay,p z=true↔¬ eqI z.1 1=b) (h:ZcO p l=-1):ZaO l b (List.length l)=l:=by
  rcases idxN_spec p l with ⟨_,h2⟩ | ⟨n,h1,h2,_⟩
  · rw [ZlU (Nat.le_refl _) (fun j hj=>Classical.byContradiction fun hc=>by
      have:=h2 j hj
      rw [(hp (Zaf l j)).2 hc] at this
      cases this),List.take_length]
  · omega
theorem ZHb (z:Zay):neI z.1 1=true↔¬ eqI z.1 1=true:=by rw [ZdK,ZbA]
theorem ZKj (z:Zay):eqI z.1 1=true↔¬ eqI z.1 1=false:=by cases eqI z.1 1 <;> simp
theorem ZFI {l ys:List Zay} {n:Nat} (h:List.take n ys=l) (hn:n≤List.length ys) (m:Nat) (d:Zay):List.take n (List.take n ys ++ List.replicate m d)=l:=by
  rw [List.take_append_of_le_length (by rw [List.length_take]; omega),List.take_take,Nat.min_self,h]
def Zha (l:List Zay):Nat→List AV→Mem→Zbn
  | 5,tm,M=>⟨Nat × (List Zay),fun y=>(ZcN (ZcV tm [(5, .c (.int .i64 ((List.length (ZaO l true y.1):Nat):Int))),(6, .c (.int .i64 ((y.1:Nat):Int))),(7, .any)]) 16 20,Zjs M [(0, .row Zai y.2 0 0 none)]),fun y=>(y.1≤List.length l∧List.length y.2=List.length l∧List.take (List.length (ZaO l true y.1)) y.2=ZaO l true y.1∧List.drop y.1 y.2=List.drop y.1 l∧List.length (ZaO l true y.1) < y.1),fun y=>(List.length l - y.1)⟩
  | _,_,_=>⟨Unit,fun _=>([],[]),fun _=>False,fun _=>0⟩
def ZyD (y0' : Nat × (List Zay)) (l:List Zay):Prop:=(y0'.1≤List.length l∧List.length y0'.2=List.length l∧List.take (List.length (ZaO l true y0'.1)) y0'.2=ZaO l true y0'.1∧List.drop y0'.1 y0'.2=List.drop y0'.1 l∧List.length (ZaO l true y0'.1) < y0'.1)
theorem Zhb (l:List Zay):Zc0 Tryz.prog 304 (ZcX 0 [(.g false (.list Zai)),(.f 179 [])] (l,(()),())) (Zga 0 [(.g false (.list Zai)),(.f 179 [])] (l,(()),())) (ZdF 0 [(.g false (.list Zai)),(.f 179 [])] ([],(()),()) ++ [.row Zai (ZaO l true (List.length l)) 0 0 none]) (inpM 0 [(.g false (.list Zai)),(.f 179 [])]) (.c (.row 1 0)):=by
  refine Zb1 (T:=⟨[ZfR],[ZcK],[],[],none,fun _=>[],1,[],[38,41]⟩) (L:=(Zha l)) Tryz.func304 rfl rfl rfl (by kernel_rfl) (fun hwf hwm=>?_)
  refine Eq.mpr (β:=(T3 (((∀ z0:Zay,True∧True)∧∀ (_:Zay→Bool) (_:List Zay),true=true)∧(T3 (bif (eqI (ZcO (fun z0:Zay=>neI z0.1 1) l) (-1)) then (T2 (pt (((([]:List Zay)=[])∧True)∧(l=(ZaO l true (List.length l)))))) else (T3 ((∃ q:Nat × (List Zay),(q.1≤List.length l∧List.length q.2=List.length l∧List.take (List.length (ZaO l true q.1)) q.2=ZaO l true q.1∧List.drop q.1 q.2=List.drop q.1 l∧List.length (ZaO l true q.1) < q.1)∧((lxs [.c (.row 0 0), .c (.fn 179 []), .tp [], .tp [], .c (.raw (.slice none 0 0))] (vI (ZcO (fun z0:Zay=>neI z0.1 1) l) (List.length (ZaO l true q.1))∧vI (w64 (ZcO (fun z0:Zay=>neI z0.1 1) l + 1)) q.1∧True∧lxs [.c (.row 0 0), .c (.fn 179 []),ci (ZcO (fun z0:Zay=>neI z0.1 1) l),ci (ZcO (fun z0:Zay=>neI z0.1 1) l), .c (.bool false), .tp [],ci (ZcO (fun z0:Zay=>neI z0.1 1) l),ci (w64 (ZcO (fun z0:Zay=>neI z0.1 1) l + 1))] (TN 20 (tpn 6 True))))∧pt (leB (.row Zai l 0 0 none) (.row Zai q.2 0 0 none)∧True)))∧∀ y0:Nat × (List Zay),(y0.1≤List.length l∧List.length y0.2=List.length l∧List.take (List.length (ZaO l true y0.1)) y0.2=ZaO l true y0.1∧List.drop y0.1 y0.2=List.drop y0.1 l∧List.length (ZaO l true y0.1) < y0.1)→(T4 (bif (ltI y0.1 (List.length y0.2)) then (T2 ((ix 4 y0.1 (List.length y0.2))∧(T5 ((pt True)∧(True∧(bif (!(neI (Zaf y0.2 y0.1).1 1)) then (T3 ((ix 4 (List.length (ZaO l true y0.1)) (List.length y0.2))∧(True∧∀ r1:List Zay,r1=(List.set y0.2 (List.length (ZaO l true y0.1)) (Zaf y0.2 y0.1))→(T6 (∃ y0' : Nat × (List Zay),(ZyD y0' l)∧(List.length l - y0'.1) < (List.length l - y0.1)∧((lxs [.c (.row 0 0), .c (.fn 179 []), .tp [], .tp [], .c (.raw (.slice none 0 0))] (vI (w64 ((List.length (ZaO l true y0.1):Int) + 1)) (List.length (ZaO l true y0'.1))∧vI (w64 ((y0.1:Int) + 1)) y0'.1∧True∧lxs [.c (.row 0 0), .c (.fn 179 []),ci (ZcO (fun z0:Zay=>neI z0.1 1) l),ci (ZcO (fun z0:Zay=>neI z0.1 1) l), .c (.bool false), .tp [],ci (ZcO (fun z0:Zay=>neI z0.1 1) l),ci (w64 (ZcO (fun z0:Zay=>neI z0.1 1) l + 1))] (TN 20 (tpn 6 True))))∧pt (leB (.row Zai r1 0 0 none) (.row Zai y0'.2 0 0 none)∧True))))))) else (T3 (∃ y0' : Nat × (List Zay),(ZyD y0' l)∧(List.length l - y0'.1) < (List.length l - y0.1)∧((lxs [.c (.row 0 0), .c (.fn 179 []), .tp [], .tp [], .c (.raw (.slice none 0 0))] (vI (List.length (ZaO l true y0.1)) (List.length (ZaO l true y0'.1))∧vI (w64 ((y0.1:Int) + 1)) y0'.1∧True∧lxs [.c (.row 0 0), .c (.fn 179 []),ci (ZcO (fun z0:Zay=>neI z0.1 1) l),ci (ZcO (fun z0:Zay=>neI z0.1 1) l), .c (.bool false), .tp [],ci (ZcO (fun z0:Zay=>neI z0.1 1) l),ci (w64 (ZcO (fun z0:Zay=>neI z0.1 1) l + 1))] (TN 20 (tpn 6 True))))∧pt (leB (.row Zai y0.2 0 0 none) (.row Zai y0'.2 0 0 none)∧True)))))))))) else (T2 (((0:Int)≤(List.length (ZaO l true y0.1):Int)∧((List.length (ZaO l true y0.1):Int):Int)≤(List.length y0.2:Int))∧(T3 (((0:Int)≤(List.length (ZaO l true y0.1):Int)∧((List.length (ZaO l true y0.1):Int):Int)≤(List.length (List.take (List.length (ZaO l true y0.1)) y0.2 ++ List.replicate (List.length y0.2 - (List.length (ZaO l true y0.1))) Zio):Int))∧(True∧(pt (((([]:List Zay)=[])∧True)∧((List.take (List.length (ZaO l true y0.1)) (List.take (List.length (ZaO l true y0.1)) y0.2 ++ List.replicate (List.length y0.2 - (List.length (ZaO l true y0.1))) Zio))=(ZaO l true (List.length l))))))))))))))))))) (by kernel_rfl) ?_
  unfold ZyD T2 T3 T4 T5 T6
  have hm:List.length l≤maxLen:=hwm.1.1
  unfold maxLen at hm
  simp only [Zd0,eq_self]
  refine ⟨⟨fun _=>trivial,fun _ _=>trivial⟩,fun h=>(ZtV (b:=true) ZHb h).symm,fun h=>?_⟩
  obtain ⟨n,hn,hi,ho⟩:=ZqC (b:=true) ZHb h
  have hlo:(ZaO l true (n + 1)).length=n:=by rw [ho,List.length_take]; omega
  refine ⟨⟨(n + 1,l),⟨by show n + 1≤_; omega,rfl,by show List.take (ZaO l true (n + 1)).length l=_; rw [hlo,ho],rfl,by show (ZaO l true (n + 1)).length < n + 1; omega⟩,⟨by rw [hi]; show (n:Int)=((ZaO l true (n + 1)).length:Nat); rw [hlo],by rw [hi]; exact ZbN (by unfold maxLen; omega)⟩,rfl⟩,fun y hy=>?_⟩
  obtain ⟨k,ys⟩:=y
  obtain ⟨k1,k2,k3,k4,k5⟩:=hy
  simp only at k1 k2 k3 k4 k5 ⊢
  refine ⟨fun hlt=>?_,fun hge=>?_⟩
  · have hk:k < List.length l:=by omega
    have hnth:=ZAe k4 hk
    refine ⟨by omega,fun hb=>?_,fun hb=>?_⟩
    · obtain ⟨s1,s2,s3⟩:=ZtT k2 k3 k4 k5 hk (by rw [← hnth]; exact ZbA.2 hb)
      refine ⟨by omega,fun r hr=>⟨(k + 1,r),⟨by show k + 1≤_; omega,by show List.length r=_; rw [hr,List.length_set]; exact k2,by show List.take (ZaO l true (k + 1)).length r=ZaO l true (k + 1); rw [hr]; exact s1,by show List.drop (k + 1) r=List.drop (k + 1) l; rw [hr]; exact s2,by show (ZaO l true (k + 1)).length < k + 1; omega⟩,by show List.length l - (k + 1) < _; omega,⟨by show _=(((ZaO l true (k + 1)).length:Nat):Int); rw [s3]; exact ZbN (by unfold maxLen; omega),ZbN (by unfold maxLen; omega)⟩,rfl⟩⟩
    · obtain ⟨s1,s2⟩:=ZtU (b:=true) k4 hk (by rw [← hnth]; exact fun q=>hb (ZbA.1 q))
      exact ⟨(k + 1,ys),⟨by show k + 1≤_; omega,k2,by show List.take (ZaO l true (k + 1)).length ys=ZaO l true (k + 1); rw [s1]; exact k3,s2,by show (ZaO l true (k + 1)).length < k + 1; rw [s1]; omega⟩,by show List.length l - (k + 1) < _; omega,⟨by show _=(((ZaO l true (k + 1)).length:Nat):Int); rw [s1],ZbN (by unfold maxLen; omega)⟩,rfl⟩
  · exact Zwf
def Zhc:Zcd Tryz.prog:=⟨304,[(.g false (.list Zai)),(.f 179 [])],fun x=>True,fun x=>([],(()),()),fun x=>.c (.row 1 0),fun x=>[.row Zai (ZaO x.1 true (List.length x.1)) 0 0 none],fun x hx=>Zhb x.1,Tryz.call304⟩
def Ziq (l:List Zay):Nat→List AV→Mem→Zbn
  | 5,tm,M=>⟨Nat × (List Zay),fun y=>(ZcN (ZcV tm [(5, .c (.int .i64 ((List.length (ZaO l false y.1):Nat):Int))),(6, .c (.int .i64 ((y.1:Nat):Int))),(7, .any)]) 16 20,Zjs M [(0, .row Zai y.2 0 0 none)]),fun y=>(y.1≤List.length l∧List.length y.2=List.length l∧List.take (List.length (ZaO l false y.1)) y.2=ZaO l false y.1∧List.drop y.1 y.2=List.drop y.1 l∧List.length (ZaO l false y.1) < y.1),fun y=>(List.length l - y.1)⟩
  | _,_,_=>⟨Unit,fun _=>([],[]),fun _=>False,fun _=>0⟩
def ZyE (y0' : Nat × (List Zay)) (l:List Zay):Prop:=(y0'.1≤List.length l∧List.length y0'.2=List.length l∧List.take (List.length (ZaO l false y0'.1)) y0'.2=ZaO l false y0'.1∧List.drop y0'.1 y0'.2=List.drop y0'.1 l∧List.length (ZaO l false y0'.1) < y0'.1)
theorem Zir (l:List Zay):Zc0 Tryz.prog 304 (ZcX 0 [(.g false (.list Zai)),(.f 108 [])] (l,(()),())) (Zga 0 [(.g false (.list Zai)),(.f 108 [])] (l,(()),())) (ZdF 0 [(.g false (.list Zai)),(.f 108 [])] ([],(()),()) ++ [.row Zai (ZaO l false (List.length l)) 0 0 none]) (inpM 0 [(.g false (.list Zai)),(.f 108 [])]) (.c (.row 1 0)):=by
  refine Zb1 (T:=⟨[Zfq],[ZcK],[],[],none,fun _=>[],1,[],[38,41]⟩) (L:=(Ziq l)) Tryz.func304 rfl rfl rfl (by kernel_rfl) (fun hwf hwm=>?_)
  refine Eq.mpr (β:=(T3 (((∀ z0:Zay,True∧True)∧∀ (_:Zay→Bool) (_:List Zay),true=true)∧(T3 (bif (eqI (ZcO (fun z0:Zay=>eqI z0.1 1) l) (-1)) then (T2 (pt (((([]:List Zay)=[])∧True)∧(l=(ZaO l false (List.length l)))))) else (T3 ((∃ q:Nat × (List Zay),(q.1≤List.length l∧List.length q.2=List.length l∧List.take (List.length (ZaO l false q.1)) q.2=ZaO l false q.1∧List.drop q.1 q.2=List.drop q.1 l∧List.length (ZaO l false q.1) < q.1)∧((lxs [.c (.row 0 0), .c (.fn 108 []), .tp [], .tp [], .c (.raw (.slice none 0 0))] (vI (ZcO (fun z0:Zay=>eqI z0.1 1) l) (List.length (ZaO l false q.1))∧vI (w64 (ZcO (fun z0:Zay=>eqI z0.1 1) l + 1)) q.1∧True∧lxs [.c (.row 0 0), .c (.fn 108 []),ci (ZcO (fun z0:Zay=>eqI z0.1 1) l),ci (ZcO (fun z0:Zay=>eqI z0.1 1) l), .c (.bool false), .tp [],ci (ZcO (fun z0:Zay=>eqI z0.1 1) l),ci (w64 (ZcO (fun z0:Zay=>eqI z0.1 1) l + 1))] (TN 20 (tpn 6 True))))∧pt (leB (.row Zai l 0 0 none) (.row Zai q.2 0 0 none)∧True)))∧∀ y0:Nat × (List Zay),(y0.1≤List.length l∧List.length y0.2=List.length l∧List.take (List.length (ZaO l false y0.1)) y0.2=ZaO l false y0.1∧List.drop y0.1 y0.2=List.drop y0.1 l∧List.length (ZaO l false y0.1) < y0.1)→(T4 (bif (ltI y0.1 (List.length y0.2)) then (T2 ((ix 4 y0.1 (List.length y0.2))∧(T5 ((pt True)∧(True∧(bif (!(eqI (Zaf y0.2 y0.1).1 1)) then (T3 ((ix 4 (List.length (ZaO l false y0.1)) (List.length y0.2))∧(True∧∀ r1:List Zay,r1=(List.set y0.2 (List.length (ZaO l false y0.1)) (Zaf y0.2 y0.1))→(T6 (∃ y0' : Nat × (List Zay),(ZyE y0' l)∧(List.length l - y0'.1) < (List.length l - y0.1)∧((lxs [.c (.row 0 0), .c (.fn 108 []), .tp [], .tp [], .c (.raw (.slice none 0 0))] (vI (w64 ((List.length (ZaO l false y0.1):Int) + 1)) (List.length (ZaO l false y0'.1))∧vI (w64 ((y0.1:Int) + 1)) y0'.1∧True∧lxs [.c (.row 0 0), .c (.fn 108 []),ci (ZcO (fun z0:Zay=>eqI z0.1 1) l),ci (ZcO (fun z0:Zay=>eqI z0.1 1) l), .c (.bool false), .tp [],ci (ZcO (fun z0:Zay=>eqI z0.1 1) l),ci (w64 (ZcO (fun z0:Zay=>eqI z0.1 1) l + 1))] (TN 20 (tpn 6 True))))∧pt (leB (.row Zai r1 0 0 none) (.row Zai y0'.2 0 0 none)∧True))))))) else (T3 (∃ y0' : Nat × (List Zay),(ZyE y0' l)∧(List.length l - y0'.1) < (List.length l - y0.1)∧((lxs [.c (.row 0 0), .c (.fn 108 []), .tp [], .tp [], .c (.raw (.slice none 0 0))] (vI (List.length (ZaO l false y0.1)) (List.length (ZaO l false y0'.1))∧vI (w64 ((y0.1:Int) + 1)) y0'.1∧True∧lxs [.c (.row 0 0), .c (.fn 108 []),ci (ZcO (fun z0:Zay=>eqI z0.1 1) l),ci (ZcO (fun z0:Zay=>eqI z0.1 1) l), .c (.bool false), .tp [],ci (ZcO (fun z0:Zay=>eqI z0.1 1) l),ci (w64 (ZcO (fun z0:Zay=>eqI z0.1 1) l + 1))] (TN 20 (tpn 6 True))))∧pt (leB (.row Zai y0.2 0 0 none) (.row Zai y0'.2 0 0 none)∧True)))))))))) else (T2 (((0:Int)≤(List.length (ZaO l false y0.1):Int)∧((List.length (ZaO l false y0.1):Int):Int)≤(List.length y0.2:Int))∧(T3 (((0:Int)≤(List.length (ZaO l false y0.1):Int)∧((List.length (ZaO l false y0.1):Int):Int)≤(List.length (List.take (List.length (ZaO l false y0.1)) y0.2 ++ List.replicate (List.length y0.2 - (List.length (ZaO l false y0.1))) Zio):Int))∧(True∧(pt (((([]:List Zay)=[])∧True)∧((List.take (List.length (ZaO l false y0.1)) (List.take (List.length (ZaO l false y0.1)) y0.2 ++ List.replicate (List.length y0.2 - (List.length (ZaO l false y0.1))) Zio))=(ZaO l false (List.length l))))))))))))))))))) (by kernel_rfl) ?_
  unfold ZyE T2 T3 T4 T5 T6
  have hm:List.length l≤maxLen:=hwm.1.1
  unfold maxLen at hm
  simp only [Zd0,eq_self]
  refine ⟨⟨fun _=>trivial,fun _ _=>trivial⟩,fun h=>(ZtV (b:=false) ZKj h).symm,fun h=>?_⟩
  obtain ⟨n,hn,hi,ho⟩:=ZqC (b:=false) ZKj h
  have hlo:(ZaO l false (n + 1)).length=n:=by rw [ho,List.length_take]; omega
  refine ⟨⟨(n + 1,l),⟨by show n + 1≤_; omega,rfl,by show List.take (ZaO l false (n + 1)).length l=_; rw [hlo,ho],rfl,by show (ZaO l false (n + 1)).length < n + 1; omega⟩,⟨by rw [hi]; show (n:Int)=((ZaO l false (n + 1)).length:Nat); rw [hlo],by rw [hi]; exact ZbN (by unfold maxLen; omega)⟩,rfl⟩,fun y hy=>?_⟩
  obtain ⟨k,ys⟩:=y
  obtain ⟨k1,k2,k3,k4,k5⟩:=hy
  simp only at k1 k2 k3 k4 k5 ⊢
  refine ⟨fun hlt=>?_,fun hge=>?_⟩
  · have hk:k < List.length l:=by omega
    have hnth:=ZAe k4 hk
    refine ⟨by omega,fun hb=>?_,fun hb=>?_⟩
    · obtain ⟨s1,s2,s3⟩:=ZtT k2 k3 k4 k5 hk (by rw [← hnth]; exact Zb2.2 hb)
      refine ⟨by omega,fun r hr=>⟨(k + 1,r),⟨by show k + 1≤_; omega,by show List.length r=_; rw [hr,List.length_set]; exact k2,by show List.take (ZaO l false (k + 1)).length r=ZaO l false (k + 1); rw [hr]; exact s1,by show List.drop (k + 1) r=List.drop (k + 1) l; rw [hr]; exact s2,by show (ZaO l false (k + 1)).length < k + 1; omega⟩,by show List.length l - (k + 1) < _; omega,⟨by show _=(((ZaO l false (k + 1)).length:Nat):Int); rw [s3]; exact ZbN (by unfold maxLen; omega),ZbN (by unfold maxLen; omega)⟩,rfl⟩⟩
    · obtain ⟨s1,s2⟩:=ZtU (b:=false) k4 hk (by rw [← hnth]; rw [ZbA.2 hb]; decide)
      exact ⟨(k + 1,ys),⟨by show k + 1≤_; omega,k2,by show List.take (ZaO l false (k + 1)).length ys=ZaO l false (k + 1); rw [s1]; exact k3,s2,by show (ZaO l false (k + 1)).length < k + 1; rw [s1]; omega⟩,by show List.length l - (k + 1) < _; omega,⟨by show _=(((ZaO l false (k + 1)).length:Nat):Int); rw [s1],ZbN (by unfold maxLen; omega)⟩,rfl⟩
  · exact Zwf
def Zis:Zcd Tryz.prog:=⟨304,[(.g false (.list Zai)),(.f 108 [])],fun x=>True,fun x=>([],(()),()),fun x=>.c (.row 1 0),fun x=>[.row Zai (ZaO x.1 false (List.length x.1)) 0 0 none],fun x hx=>Zir x.1,Tryz.call304⟩
def Zfu (q:ZaU) (n:Zay):ZaU :=
  if n.1=1 then
    if q.2.1=true∨n.2.1≤ZeO q.1 (List.length q.1) then q
    else if 0≤((List.length q.1:Nat):Int) - 1∧(Zaf q.1 (Int.toNat (((List.length q.1:Nat):Int) - 1))).1=1∧(Zaf q.1 (Int.toNat (((List.length q.1:Nat):Int) - 1))).2.2.1=n.2.2.1∧¬ n.2.2.1=0 then (List.set q.1 (Int.toNat (((List.length q.1:Nat):Int) - 1)) n,q.2)
    else if ((List.length q.1:Nat):Int)=6 then (ZaO q.1 false (List.length q.1),true,q.2.2)
    else (q.1 ++ [n],q.2)
  else
    if q.2.2=true∨(n.1=2∧ZFq q.1 n=true) then q
    else if ((List.length q.1:Nat):Int)=6 then (ZaO q.1 true (List.length q.1),q.2.1,true)
    else (q.1 ++ [n],q.2)
theorem ZiD (qu:ZaU) (hpre:List.length qu.1≤rowMax):Zc0 Tryz.prog 283 (ZcX 0 [(.m ZbJ),(.f 179 [])] (qu,(()),())) (Zga 0 [(.m ZbJ),(.f 179 [])] (qu,(()),())) (ZdF 0 [(.m ZbJ),(.f 179 [])] ((ZaO qu.1 true (List.length qu.1),qu.2),(()),()) ++ []) (inpM 0 [(.m ZbJ),(.f 179 [])]) (.tp []):=by
  refine Zb1 (T:=⟨[ZbV],[],[],[Zhc],none,fun _=>[],2,[],[]⟩) (L:=L0) Tryz.func283 rfl rfl rfl (by kernel_rfl) (fun hwf hwm=>?_)
  refine Eq.mpr (β:=(T5 ((List.length qu.1≤rowMax∧pt (true=true))∧(True∧((pt (True∧((qu.1=qu.1)∧((True))∧True)))∧∀ r0:List Zay,r0=([]:List Zay)→(T3 (pt ((((((ZaO qu.1 true (List.length qu.1))=(ZaO qu.1 true (List.length qu.1),qu.2).1)∧(cB qu.2.1 (ZaO qu.1 true (List.length qu.1),qu.2).2.1)∧(cB qu.2.2 (ZaO qu.1 true (List.length qu.1),qu.2).2.2)∧True))∧True)∧((True)))))))))) (by kernel_rfl) ?_
  exact Zwo
def ZiE:Zcd Tryz.prog:=⟨283,[(.m ZbJ),(.f 179 [])],fun x=>List.length x.1.1≤rowMax,fun x=>((ZaO x.1.1 true (List.length x.1.1),x.1.2),(()),()),fun x=>.tp [],fun _=>[],fun x hx=>ZiD x.1 hx,Tryz.call283⟩
theorem Zkm (qu:ZaU) (hpre:List.length qu.1≤rowMax):Zc0 Tryz.prog 283 (ZcX 0 [(.m ZbJ),(.f 108 [])] (qu,(()),())) (Zga 0 [(.m ZbJ),(.f 108 [])] (qu,(()),())) (ZdF 0 [(.m ZbJ),(.f 108 [])] ((ZaO qu.1 false (List.length qu.1),qu.2),(()),()) ++ []) (inpM 0 [(.m ZbJ),(.f 108 [])]) (.tp []):=by
  refine Zb1 (T:=⟨[ZbV],[],[],[Zis],none,fun _=>[],2,[],[]⟩) (L:=L0) Tryz.func283 rfl rfl rfl (by kernel_rfl) (fun hwf hwm=>?_)
  refine Eq.mpr (β:=(T5 ((List.length qu.1≤rowMax∧pt (true=true))∧(True∧((pt (True∧((qu.1=qu.1)∧((True))∧True)))∧∀ r0:List Zay,r0=([]:List Zay)→(T3 (pt ((((((ZaO qu.1 false (List.length qu.1))=(ZaO qu.1 false (List.length qu.1),qu.2).1)∧(cB qu.2.1 (ZaO qu.1 false (List.length qu.1),qu.2).2.1)∧(cB qu.2.2 (ZaO qu.1 false (List.length qu.1),qu.2).2.2)∧True))∧True)∧((True)))))))))) (by kernel_rfl) ?_
  exact Zwo
def Zkn:Zcd Tryz.prog:=⟨283,[(.m ZbJ),(.f 108 [])],fun x=>List.length x.1.1≤rowMax,fun x=>((ZaO x.1.1 false (List.length x.1.1),x.1.2),(()),()),fun x=>.tp [],fun _=>[],fun x hx=>Zkm x.1 hx,Tryz.call283⟩
def ZyF (qu:ZaU) (n:Zay):Prop:=((True∧List.length qu.1 + List.length ([n])≤rowMax)∧(T3 (pt ((((((qu.1 ++ [n])=(Zfu qu n).1)∧(cB qu.2.1 (Zfu qu n).2.1)∧(cB qu.2.2 (Zfu qu n).2.2)∧True))∧True)∧((True))))))
def ZyG (qu:ZaU) (n:Zay):Prop:=((pt (true=true))∧(T6 (((List.length qu.1≤rowMax∧pt (true=true))∧(True∧(ZyF qu n)))∧((True∧((List.length qu.1≤rowMax∧pt (true=true))∧(ZyF qu n)))))))
def ZyH (qu:ZaU):Prop:=(pt (List.length qu.1≤rowMax∧((((qu.1=qu.1)∧(cB qu.2.1 qu.2.1)∧(cB qu.2.2 qu.2.2)∧True))∧((True))∧True)))
def Zn4 (qu:ZaU) (n:Zay):Prop:=(T2 (bif (eqI (List.length qu.1) 6) then (True∧((ZyH qu)∧∀ r0:List Zay,r0=(ZaO qu.1 false (List.length qu.1),qu.2).1→(T4 (pt (((((r0=(Zfu qu n).1)∧(cB true (Zfu qu n).2.1)∧(cB (ZaO qu.1 false (List.length qu.1),qu.2).2.2 (Zfu qu n).2.2)∧True))∧True)∧((True))))))) else (ZyG qu n)))
def ZyI (qu:ZaU) (n:Zay):Prop:=(T2 (bif (eqI (List.length qu.1) 6) then (True∧((ZyH qu)∧∀ r0:List Zay,r0=(ZaO qu.1 true (List.length qu.1),qu.2).1→(T4 (pt (((((r0=(Zfu qu n).1)∧(cB (ZaO qu.1 true (List.length qu.1),qu.2).2.1 (Zfu qu n).2.1)∧(cB true (Zfu qu n).2.2)∧True))∧True)∧((True))))))) else (ZyG qu n)))
def Zn5 (qu:ZaU) (n:Zay):Prop:=(pt (((((qu.1=(Zfu qu n).1)∧(cB qu.2.1 (Zfu qu n).2.1)∧(cB qu.2.2 (Zfu qu n).2.2)∧True))∧True)∧((True))))
def Zr9 (qu:ZaU):Prop:=(ix 4 (w64 ((List.length qu.1:Int) - 1)) (List.length qu.1))
theorem Zqd (qu:ZaU) (n:Zay) (hpre:List.length qu.1≤2097152):Zc0 Tryz.prog 255 (ZcX 0 [(.m ZbJ),(.a (.s Zai))] (qu,n,())) (Zga 0 [(.m ZbJ),(.a (.s Zai))] (qu,n,())) (ZdF 0 [(.m ZbJ),(.a (.s Zai))] (Zfu qu n,n,()) ++ []) (inpM 0 [(.m ZbJ),(.a (.s Zai))]) (.tp []):=by
  refine Zb1 (T:=⟨[ZfR,ZcQ,ZbV,Zg9,Zfq],[],[],[ZiE,Zkn],none,fun _=>[],2,[],[]⟩) (L:=L0) Tryz.func255 rfl rfl rfl (by kernel_rfl) (fun hwf hwm=>?_)
  refine Eq.mpr (β:=(T9 ((pt True)∧(bif neI n.1 1 then ((pt (true=true))∧(T5 (bif qu.2.2 then (T2 (Zn5 qu n)) else (T4 (bif (eqI n.1 2) then (T5 ((True∧pt (true=true))∧(T3 (bif ZFq qu.1 n then (Zn5 qu n) else (ZyI qu n))))) else (T3 (ZyI qu n))))))) else (T7 ((pt (true=true))∧(T5 (bif qu.2.1 then (T2 (Zn5 qu n)) else (T5 ((True∧pt (true=true))∧(T3 (bif (leI n.2.1 (ZeO qu.1 (List.length qu.1))) then (Zn5 qu n) else ((pt (true=true))∧(T3 (bif (geI (w64 ((List.length qu.1:Int) - 1)) 0) then (T5 ((Zr9 qu)∧(True∧((pt True)∧(T2 (bif eqI (Zaf qu.1 (Int.toNat (w64 ((List.length qu.1:Int) - 1)))).1 1 then (T5 ((Zr9 qu)∧(T7 (bif (eqI (Zaf qu.1 (Int.toNat (w64 ((List.length qu.1:Int) - 1)))).2.2.1 n.2.2.1) then (T5 (bif (neI n.2.2.1 0) then (T5 ((List.length qu.1≤rowMax∧pt (true=true))∧(T3 ((pt (true=true))∧(T6 ((Zr9 qu)∧(True∧∀ r0:List Zay,r0=(List.set qu.1 (Int.toNat (w64 ((List.length qu.1:Int) - 1))) n)→(pt (((((r0=(Zfu qu n).1)∧(cB qu.2.1 (Zfu qu n).2.1)∧(cB qu.2.2 (Zfu qu n).2.2)∧True))∧True)∧((True))))))))))) else (Zn4 qu n))) else (T2 (Zn4 qu n)))))) else (T4 (Zn4 qu n)))))))) else (T6 (Zn4 qu n))))))))))))))))) (by kernel_rfl) ?_
  unfold Zr9 Zn5 ZyI Zn4 ZyH ZyG ZyF T2 T3 T4 T5 T6 T7 T9
  have hpre:List.length qu.1≤2097152:=hpre
  simp only [Zd0,eq_self]
  have hw:IntKind.wrap .i64 (((List.length qu.1:Nat):Int) - 1)=((List.length qu.1:Nat):Int) - 1:=IntWalk.i64_in _ (by omega)
  have hr:2097152 + 1≤rowMax:=by decide
  clear hwf hwm
  simp only [hw,Zfu]
  generalize hz:((List.length qu.1:Nat):Int) - 1=z
  clear hw
  repeat' (first | apply And.intro | intro _)
  all_goals first
    | omega
    | (rw [List.length_singleton]; omega)
    | (simp only [*,eq_self,if_true,if_false,and_true,true_and,and_self,not_true,not_false,false_and,and_false,or_true,true_or,or_false,false_or,or_self,Bool.false_eq_true,reduceCtorEq,reduceIte,Int.reduceEq,not_false_eq_true,not_true_eq_false,ite_true,ite_false]; done)
def Zqe:Zcd Tryz.prog:=⟨255,[(.m ZbJ),(.a (.s Zai))],fun x=>List.length x.1.1≤2097152,fun x=>(Zfu x.1 x.2.1,x.2.1,()),fun x=>.tp [],fun _=>[],fun x hx=>Zqd x.1 x.2.1 hx,Tryz.call255⟩
def Zba (q:ZaU) (n:Zay):ZaU:=if Zcf q=true∧Zcr n=true then Zfu q n else q
def ZyJ (qu:ZaU) (n:Zay):Prop:=(T2 (pt (((qu.1=(Zba qu n).1)∧(cB qu.2.1 (Zba qu n).2.1)∧(cB qu.2.2 (Zba qu n).2.2)∧True))))
theorem ZtW (qu:ZaU) (n:Zay) (hpre:List.length qu.1≤2097152):Zat Tryz.prog 203 [.ag [.hs .no Zai qu.1, .bool qu.2.1, .bool qu.2.2], .ag (cellsOf Zai n)] (.ag [.row 0 0, .bool (Zba qu n).2.1, .bool (Zba qu n).2.2]) [.row Zai (Zba qu n).1 0 0 none]:=by
  refine bc0 [ZhM,Zyw,Zqw] [] [] [Zqe] L0 Tryz.func203 (fun hwf=>?_)
  refine Eq.mpr (β:=(T4 ((pt (List.length qu.1≤rowMax))∧(T3 ((pt True)∧(True∧(bif Zcf qu then (True∧((pt True)∧(True∧(bif Zcr n then (True∧((pt (List.length qu.1≤2097152∧((((qu.1=qu.1)∧(cB qu.2.1 qu.2.1)∧(cB qu.2.2 qu.2.2)∧True))∧True)))∧∀ r0:List Zay,r0=(Zfu qu n).1→(T2 (pt (((r0=(Zba qu n).1)∧(cB (Zfu qu n).2.1 (Zba qu n).2.1)∧(cB (Zfu qu n).2.2 (Zba qu n).2.2)∧True)))))) else (ZyJ qu n))))) else (True∧(ZyJ qu n))))))))) (by kernel_rfl) ?_
  unfold ZyJ T2 T3 T4
  have hpre:List.length qu.1≤2097152:=hpre
  have hr:2097152 + 1≤rowMax:=by decide
  simp only [Zd0,eq_self]
  repeat' (first | apply And.intro | intro _)
  all_goals first
    | omega
    | (simp only [Zba, *,eq_self,if_true,if_false,and_true,true_and,and_self,not_true,not_false,false_and,and_false,Bool.false_eq_true,reduceCtorEq,reduceIte,not_false_eq_true,not_true_eq_false]; done)
def ZtX:ZaI Tryz.prog:=⟨203,[.s ZbJ, .s Zai],fun x=>List.length x.1.1≤2097152,fun x=>.ag [.row 0 0, .bool (Zba x.1 x.2.1).2.1, .bool (Zba x.1 x.2.1).2.2],fun x=>[.row Zai (Zba x.1 x.2.1).1 0 0 none],fun x hx=>ZtW x.1 x.2.1 hx,Tryz.call203⟩
def ZyK (qu:ZaU) (b:Bool):Nat→List AV→Mem→Zbn
  | 3,tm,M=>⟨Nat,fun y=>(ZcN (ZcV tm [(5, .c (.row 1 0)),(6, .c (.int .i64 ((y:Nat):Int)))]) 7 25,Zjs M [(1, .row Zai (ZaO qu.1 b y) 0 0 none)]),fun y=>(y≤List.length qu.1),fun y=>(List.length qu.1 - y)⟩
  | _,_,_=>⟨Unit,fun _=>([],[]),fun _=>False,fun _=>0⟩
def Zko (qu:ZaU):List AC:=[.hs .no Zai qu.1, .bool qu.2.1, .bool qu.2.2]
theorem ZyL (qu:ZaU) (b:Bool) (hpre:List.length qu.1≤rowMax):Zat Tryz.prog 74 [.ag [.hs .no Zai qu.1, .bool qu.2.1, .bool qu.2.2], .c (.bool b)] (.c (.row 0 0)) [.row Zai (ZaO qu.1 b (List.length qu.1)) 0 0 none]:=by
  refine bc0 [] [] [] [] (ZyK qu b) Tryz.func74 (fun hwf=>?_)
  refine Eq.mpr (β:=(T5 ((∃ q:Nat,(q≤List.length qu.1)∧((lxs [.ag (Zko qu), .c (.bool b), .c (.bp 0 0), .tp [], .c (.raw (.slice none 0 0)), .c (.row 1 0)] (vI 0 q∧TN 25 (lxs [.tp []] True)))∧pt (lb (.box (Zko qu))∧leB (.row Zai ([]:List Zay) 0 0 none) (.row Zai (ZaO qu.1 b q) 0 0 none)∧True)))∧∀ y0:Nat,(y0≤List.length qu.1)→(T5 (bif (ltI y0 (List.length qu.1)) then (T3 ((ix 4 y0 (List.length qu.1))∧(T4 (some TypeDesc.bool=some TypeDesc.bool∧(bif (eqO (eqI (Zaf qu.1 y0).1 1) b) then (T4 ((ix 4 y0 (List.length qu.1))∧(T2 ((True∧List.length (ZaO qu.1 b y0) + List.length ([(Zaf qu.1 y0)])≤rowMax)∧(T4 (∃ y0' : Nat,(y0'≤List.length qu.1)∧(List.length qu.1 - y0') < (List.length qu.1 - y0)∧((lxs [.ag (Zko qu), .c (.bool b), .c (.bp 0 0), .tp [], .c (.raw (.slice none 0 0)), .c (.row 1 0)] (vI (w64 ((y0:Int) + 1)) y0'∧TN 25 (lxs [.tp []] True)))∧pt (lb (.box (Zko qu))∧leB (.row Zai (ZaO qu.1 b y0 ++ [(Zaf qu.1 y0)]) 0 0 none) (.row Zai (ZaO qu.1 b y0') 0 0 none)∧True)))))))) else (T3 (∃ y0' : Nat,(y0'≤List.length qu.1)∧(List.length qu.1 - y0') < (List.length qu.1 - y0)∧((lxs [.ag (Zko qu), .c (.bool b), .c (.bp 0 0), .tp [], .c (.raw (.slice none 0 0)), .c (.row 1 0)] (vI (w64 ((y0:Int) + 1)) y0'∧TN 25 (lxs [.tp []] True)))∧pt (lb (.box (Zko qu))∧leB (.row Zai (ZaO qu.1 b y0) 0 0 none) (.row Zai (ZaO qu.1 b y0') 0 0 none)∧True))))))))) else (T2 (pt ((ZaO qu.1 b y0)=(ZaO qu.1 b (List.length qu.1)))))))))) (by kernel_rfl) ?_
  unfold Zko T2 T3 T4 T5
  have hm:List.length qu.1≤maxLen:=hwf.1.1.1
  unfold maxLen at hm
  have hpre:List.length qu.1≤rowMax:=hpre
  simp only [Zd0,eq_self]
  refine ⟨⟨0,Nat.zero_le _,rfl,rfl⟩,fun k hk=>⟨fun hlt=>?_,fun hge=>?_⟩⟩
  · have hl:=Zn1 (l:=qu.1) (b:=b) k
    repeat' (first | apply And.intro | intro _)
    all_goals as_aux_lemma=>first
      | trivial
      | omega
      | exact ⟨k + 1,by omega,by omega,ZbN (by unfold maxLen; omega),(if_pos (by assumption)).symm⟩
      | exact ⟨k + 1,by omega,by omega,ZbN (by unfold maxLen; omega),(if_neg (by assumption)).symm⟩
      | (simp only [List.length_singleton]; omega)
  · obtain rfl:k=List.length qu.1:=by omega
    rfl
def ZyM:ZaI Tryz.prog:=⟨74,[.s ZbJ, .v Zib],fun x=>List.length x.1.1≤rowMax,fun x=>.c (.row 0 0),fun x=>[.row Zai (ZaO x.1.1 x.2.1 (List.length x.1.1)) 0 0 none],fun x hx=>ZyL x.1 x.2.1 hx,Tryz.call74⟩
theorem ZtY (q:ZaU) (n:Zay):Zba q n=(if Zcf q=true∧Zcr n=true then (if n.1=1 then (if ZfQ q.1 n.2.1=false∨q.2.1=true then q
    else if 0≤((List.length q.1:Nat):Int) - 1∧(Zaf q.1 (Int.toNat (((List.length q.1:Nat):Int) - 1))).1=1∧(Zaf q.1 (Int.toNat (((List.length q.1:Nat):Int) - 1))).2.2.1=n.2.2.1∧¬ n.2.2.1=0 then (List.set q.1 (Int.toNat (((List.length q.1:Nat):Int) - 1)) n,q.2)
    else if ((List.length q.1:Nat):Int)=6 then (ZaO q.1 false (List.length q.1),true,q.2.2)
    else (q.1 ++ [n],q.2))
  else
    if q.2.2=true∨(n.1=2∧ZlR q.1 n.2.2.2=true) then q
    else if ((List.length q.1:Nat):Int)=6 then (ZaO q.1 true (List.length q.1),q.2.1,true)
    else (q.1 ++ [n],q.2)) else q):=by
  unfold Zba
  by_cases h:Zcf q=true∧Zcr n=true
  · rw [if_pos h,if_pos h]
    unfold Zfu
    by_cases h1:n.1=1
    · rw [if_pos h1,if_pos h1]
      have e:(q.2.1=true∨n.2.1≤ZeO q.1 (List.length q.1))=(ZfQ q.1 n.2.1=false∨q.2.1=true):=by
        rw [Zqy (ZqA h.2 h1)]
        refine propext ⟨fun x=>x.elim .inr fun y=>.inl (decide_eq_false (by omega)),fun x=>x.elim (fun y=>.inr ?_) .inl⟩
        have:=of_decide_eq_false y
        omega
      simp only [e]
    · rw [if_neg h1,if_neg h1]
      have e:(n.1=2∧ZFq q.1 n=true)=(n.1=2∧ZlR q.1 n.2.2.2=true):=by
        refine propext ⟨fun x=>⟨x.1,?_⟩,fun x=>⟨x.1,?_⟩⟩
        · rw [← Zr6 (fun j hj=>Zyo ((of_decide_eq_true h.1).1 j hj)) h.2 x.1]; exact x.2
        · rw [Zr6 (fun j hj=>Zyo ((of_decide_eq_true h.1).1 j hj)) h.2 x.1]; exact x.2
      simp only [e]
  · rw [if_neg h,if_neg h]
def ZyN (qu:ZaU) (n:Zay):Prop:=(T4 ((True∧List.length qu.1 + List.length ([n])≤rowMax)∧(T4 (pt ((((qu.1 ++ [n])=(Zba qu n).1)∧(cB qu.2.1 (Zba qu n).2.1)∧(cB qu.2.2 (Zba qu n).2.2)∧True))))))
def Zn6 (qu:ZaU) (n:Zay):Prop:=(T3 (bif (eqI (List.length qu.1) 6) then ((pt (true=true))∧(T3 ((pt (List.length qu.1≤rowMax))∧(T2 (pt ((((ZaO qu.1 false (List.length qu.1))=(Zba qu n).1)∧(cB true (Zba qu n).2.1)∧(cB qu.2.2 (Zba qu n).2.2)∧True))))))) else (ZyN qu n)))
def Zkp (qu:ZaU) (n:Zay):Prop:=(T2 (pt (((qu.1=(Zba qu n).1)∧(cB qu.2.1 (Zba qu n).2.1)∧(cB qu.2.2 (Zba qu n).2.2)∧True))))
def ZyO (qu:ZaU) (n:Zay):Prop:=(T3 (bif (eqI (List.length qu.1) 6) then ((pt (true=true))∧(T3 ((pt (List.length qu.1≤rowMax))∧(T2 (pt ((((ZaO qu.1 true (List.length qu.1))=(Zba qu n).1)∧(cB qu.2.1 (Zba qu n).2.1)∧(cB true (Zba qu n).2.2)∧True))))))) else (ZyN qu n)))
def Zsa (qu:ZaU):Prop:=(ix 4 (w64 ((List.length qu.1:Int) - 1)) (List.length qu.1))
def ZyP (n:Zay) (qu:ZaU):Prop:=(T5 (bif (eqI n.1 1) then (T3 (bif qu.2.1 then (Zkp qu n) else ((pt (true=true))∧(T3 (bif (gtI (List.length qu.1) 0) then (T4 ((Zsa qu)∧(T5 (bif (eqI (Zaf qu.1 (Int.toNat (w64 ((List.length qu.1:Int) - 1)))).1 1) then (T4 ((Zsa qu)∧(T7 (bif (eqI (Zaf qu.1 (Int.toNat (w64 ((List.length qu.1:Int) - 1)))).2.2.1 n.2.2.1) then (T5 (bif (neI n.2.2.1 0) then (T5 ((Zsa qu)∧(True∧∀ r0:List Zay,r0=(List.set qu.1 (Int.toNat (w64 ((List.length qu.1:Int) - 1))) n)→(T2 (pt (((r0=(Zba qu n).1)∧(cB qu.2.1 (Zba qu n).2.1)∧(cB qu.2.2 (Zba qu n).2.2)∧True))))))) else (Zn6 qu n))) else (T2 (Zn6 qu n)))))) else (T4 (Zn6 qu n)))))) else (T6 (Zn6 qu n))))))) else (T3 (bif qu.2.2 then (T2 (Zkp qu n)) else (T4 (bif (eqI n.1 2) then (T3 ((pt True)∧(T3 (bif ZlR qu.1 n.2.2.2 then (Zkp qu n) else (ZyO qu n))))) else (T3 (ZyO qu n))))))))
theorem ZtZ (qu:ZaU) (n:Zay) (hpre:List.length qu.1≤2097152):Zat Tryz.prog 118 [.ag [.hs .no Zai qu.1, .bool qu.2.1, .bool qu.2.2], .ag (cellsOf Zai n)] (.ag [.row 0 0, .bool (Zba qu n).2.1, .bool (Zba qu n).2.2]) [.row Zai (Zba qu n).1 0 0 none]:=by
  refine bc0 [Zkc,ZyC,Zqx,Zmp,ZyM,ZkP] [] [] [] L0 Tryz.func118 (fun hwf=>?_)
  refine Eq.mpr (β:=(T4 ((pt (List.length qu.1≤rowMax))∧(T7 ((pt True)∧(T2 (bif (!(Zcf qu)) then (T3 (Zkp qu n)) else (True∧((pt True)∧(T3 (bif (!(Zcr n)) then (True∧(Zkp qu n)) else (T2 (bif (eqI n.1 1) then (T3 ((pt True)∧(T3 (bif (!(ZfQ qu.1 n.2.1)) then (Zkp qu n) else (ZyP n qu))))) else (T2 (ZyP n qu))))))))))))))) (by kernel_rfl) ?_
  unfold ZyP Zsa ZyO Zkp Zn6 ZyN T2 T3 T4 T5 T6 T7
  have hpre:List.length qu.1≤2097152:=hpre
  have hr:2097152 + 1≤rowMax:=by decide
  simp only [Zd0,eq_self]
  have hw:IntKind.wrap .i64 (((List.length qu.1:Nat):Int) - 1)=((List.length qu.1:Nat):Int) - 1:=IntWalk.i64_in _ (by omega)
  have hp:(0 < ((List.length qu.1:Nat):Int))=(0≤((List.length qu.1:Nat):Int) - 1):=propext ⟨fun _=>by omega,fun _=>by omega⟩
  clear hwf
  simp only [hw,hp,ZtY]
  generalize hz:((List.length qu.1:Nat):Int) - 1=z
  clear hw hp
  repeat' (first | apply And.intro | intro _)
  all_goals first
    | omega
    | (rw [List.length_singleton]; omega)
    | contradiction
    | (simp only [*,eq_self,if_true,if_false,and_true,true_and,and_self,not_true,not_false,false_and,and_false,or_true,true_or,or_false,false_or,or_self,Bool.false_eq_true,reduceCtorEq,reduceIte,Int.reduceEq,not_false_eq_true,not_true_eq_false,ite_true,ite_false]; done)
def Zt0:ZaI Tryz.prog:=⟨118,[.s ZbJ, .s Zai],fun x=>List.length x.1.1≤2097152,fun x=>.ag [.row 0 0, .bool (Zba x.1 x.2.1).2.1, .bool (Zba x.1 x.2.1).2.2],fun x=>[.row Zai (Zba x.1 x.2.1).1 0 0 none],fun x hx=>ZtZ x.1 x.2.1 hx,Tryz.call118⟩
def Za1 (q:ZaU) (l:List Zay):Nat→ZaU
  | 0=>q
  | k + 1=>Zba (Za1 q l k) (Zaf l k)
theorem Zn7 (q:ZaU) (n:Zay):List.length (Zba q n).1≤List.length q.1 + 1:=by
  unfold Zba
  split
  · unfold Zfu
    repeat' split
    all_goals first
      | exact Nat.le_succ _
      | (show (List.set _ _ _).length≤_; rw [List.length_set]; exact Nat.le_succ _)
      | (show (ZaO q.1 _ (List.length q.1)).length≤_; exact Nat.le_trans (Zn1 _) (Nat.le_succ _))
      | (show (q.1 ++ [n]).length≤_; rw [List.length_append]; exact Nat.le_refl _)
  · exact Nat.le_succ _
theorem Zn8 (q:ZaU) (l:List Zay):∀ k,List.length (Za1 q l k).1≤List.length q.1 + k
  | 0=>Nat.le_refl _
  | k + 1=>by
    have h1:=Zn8 q l k
    have h2:=Zn7 (Za1 q l k) (Zaf l k)
    show List.length (Zba (Za1 q l k) (Zaf l k)).1≤_
    omega
open GoMark (mrk cnt mrkI cntI)
theorem ZKk:∀ l:List Zay,cntL l=4 * List.length l
  | []=>rfl
  | x :: xs=>by
    have ih:=ZKk xs
    show 4 + cntL xs=4 * (List.length xs + 1)
    omega
def ZBE (qu:ZaU) (l:List Zay):Nat→List AV→Mem→Zbn
  | 3,tm,M=>⟨Nat,fun y=>(ZcN (ZcV tm [(7, .any),(9, .any),(12, .c (.int .i64 ((y:Nat):Int)))]) 13 7,Zjs M [(2, .row Zai (Za1 qu l y).1 0 0 none),(3, .box [.row 2 0, .bool (Za1 qu l y).2.1, .bool (Za1 qu l y).2.2])]),fun y=>(y≤List.length l),fun y=>(List.length l - y)⟩
  | _,_,_=>⟨Unit,fun _=>([],[]),fun _=>False,fun _=>0⟩
def Zkq (qu:ZaU):List AC:=[.hs .no Zai qu.1, .bool qu.2.1, .bool qu.2.2]
theorem ZBF (qu:ZaU) (l:List Zay) (hpre:(List.length qu.1≤1048576∧List.length l≤1048576)):Zat Tryz.prog 124 [.ag [.hs .no Zai qu.1, .bool qu.2.1, .bool qu.2.2], .c (.hs .no Zai l)] (.ag [.row 0 0, .bool (Za1 qu l (List.length l)).2.1, .bool (Za1 qu l (List.length l)).2.2]) [.row Zai (Za1 qu l (List.length l)).1 0 0 none]:=by
  refine bc0 [ZhM,ZtX] [] [] [] (ZBE qu l) Tryz.func124 (fun hwf=>?_)
  refine Eq.mpr (β:=(T3 ((pt (List.length qu.1≤rowMax))∧(T5 ((∃ q:Nat,(q≤List.length l)∧((lxs [.ag (Zkq qu),hn Zai l, .c (.bp 0 0), .tp [], .c (.bp 1 0), .c (.bp 3 0), .tp []] (True∧lxs [.ag (Zkq qu)] (True∧lxs [hn Zai l,ci (List.length l)] (vI 0 q∧TN 7 (lxs [.tp []] True)))))∧pt (lb (.box (Zkq qu))∧lb (.box [.raw (.slice none 0 0), .bool false, .bool false])∧leB (.row Zai qu.1 0 0 none) (.row Zai (Za1 qu l q).1 0 0 none)∧leB (.box [.row 2 0, .bool qu.2.1, .bool qu.2.2]) (.box [.row 2 0, .bool (Za1 qu l q).2.1, .bool (Za1 qu l q).2.2])∧True)))∧∀ y0:Nat,(y0≤List.length l)→(True∧(bif (ltI y0 (List.length l)) then ((ix 4 y0 (List.length l))∧(T5 ((List.length (Za1 qu l y0).1≤2097152∧pt (true=true))∧(T3 (∃ y0' : Nat,(y0'≤List.length l)∧(List.length l - y0') < (List.length l - y0)∧((lxs [.ag (Zkq qu),hn Zai l, .c (.bp 0 0), .tp [], .c (.bp 1 0), .c (.bp 3 0), .tp []] (True∧lxs [.ag (Zkq qu)] (True∧lxs [hn Zai l,ci (List.length l)] (vI (w64 ((y0:Int) + 1)) y0'∧TN 7 (lxs [.tp []] True)))))∧pt (lb (.box (Zkq qu))∧lb (.box [.raw (.slice none 0 0), .bool false, .bool false])∧leB (.row Zai (Zba (Za1 qu l y0) (Zaf l y0)).1 0 0 none) (.row Zai (Za1 qu l y0').1 0 0 none)∧leB (.box [.row 2 0, .bool (Zba (Za1 qu l y0) (Zaf l y0)).2.1, .bool (Zba (Za1 qu l y0) (Zaf l y0)).2.2]) (.box [.row 2 0, .bool (Za1 qu l y0').2.1, .bool (Za1 qu l y0').2.2])∧True))))))) else (T2 (pt ((((Za1 qu l y0).1=(Za1 qu l (List.length l)).1)∧(cB (Za1 qu l y0).2.1 (Za1 qu l (List.length l)).2.1)∧(cB (Za1 qu l y0).2.2 (Za1 qu l (List.length l)).2.2)∧True))))))))))) (by kernel_rfl) ?_
  unfold Zkq T2 T3 T5
  exact ZvP
def ZBG:ZaI Tryz.prog:=⟨124,[.s ZbJ, .v (.list Zai)],fun x=>(List.length x.1.1≤1048576∧List.length x.2.1≤1048576),fun x=>.ag [.row 0 0, .bool (Za1 x.1 x.2.1 (List.length x.2.1)).2.1, .bool (Za1 x.1 x.2.1 (List.length x.2.1)).2.2],fun x=>[.row Zai (Za1 x.1 x.2.1 (List.length x.2.1)).1 0 0 none],fun x hx=>ZBF x.1 x.2.1 hx,Tryz.call124⟩
def ZBH (qu:ZaU) (l:List Zay):Nat→List AV→Mem→Zbn
  | 3,tm,M=>⟨Nat,fun y=>(ZcN (ZcV tm [(6, .c (.int .i64 ((y:Nat):Int)))]) 8 13,Zjs M [(2, .row Zai (Za1 qu l y).1 0 0 none),(3, .box [.row 2 0, .bool (Za1 qu l y).2.1, .bool (Za1 qu l y).2.2])]),fun y=>(y≤List.length l),fun y=>(List.length l - y)⟩
  | _,_,_=>⟨Unit,fun _=>([],[]),fun _=>False,fun _=>0⟩
def Zkr (qu:ZaU):List AC:=[.hs .no Zai qu.1, .bool qu.2.1, .bool qu.2.2]
theorem ZBI (qu:ZaU) (l:List Zay) (hpre:(List.length qu.1≤1048576∧List.length l≤1048576)):Zat Tryz.prog 47 [.ag [.hs .no Zai qu.1, .bool qu.2.1, .bool qu.2.2], .c (.hs .no Zai l)] (.ag [.row 0 0, .bool (Za1 qu l (List.length l)).2.1, .bool (Za1 qu l (List.length l)).2.2]) [.row Zai (Za1 qu l (List.length l)).1 0 0 none]:=by
  refine bc0 [Zkc,Zt0] [] [] [] (ZBH qu l) Tryz.func47 (fun hwf=>?_)
  refine Eq.mpr (β:=(T3 ((pt (List.length qu.1≤rowMax))∧(T3 ((∃ q:Nat,(q≤List.length l)∧((lxs [.ag (Zkr qu),hn Zai l, .c (.bp 0 0), .tp [], .c (.bp 1 0), .c (.bp 3 0)] (vI 0 q∧lxs [.ag (Zkr qu)] (TN 13 (lxs [.tp []] True))))∧pt (lb (.box (Zkr qu))∧lb (.box [.raw (.slice none 0 0), .bool false, .bool false])∧leB (.row Zai qu.1 0 0 none) (.row Zai (Za1 qu l q).1 0 0 none)∧leB (.box [.row 2 0, .bool qu.2.1, .bool qu.2.2]) (.box [.row 2 0, .bool (Za1 qu l q).2.1, .bool (Za1 qu l q).2.2])∧True)))∧∀ y0:Nat,(y0≤List.length l)→(T4 (bif (ltI y0 (List.length l)) then ((pt (true=true))∧(T3 ((ix 4 y0 (List.length l))∧(True∧((List.length (Za1 qu l y0).1≤2097152∧pt (true=true))∧(T4 (∃ y0' : Nat,(y0'≤List.length l)∧(List.length l - y0') < (List.length l - y0)∧((lxs [.ag (Zkr qu),hn Zai l, .c (.bp 0 0), .tp [], .c (.bp 1 0), .c (.bp 3 0)] (vI (w64 ((y0:Int) + 1)) y0'∧lxs [.ag (Zkr qu)] (TN 13 (lxs [.tp []] True))))∧pt (lb (.box (Zkr qu))∧lb (.box [.raw (.slice none 0 0), .bool false, .bool false])∧leB (.row Zai (Zba (Za1 qu l y0) (Zaf l y0)).1 0 0 none) (.row Zai (Za1 qu l y0').1 0 0 none)∧leB (.box [.row 2 0, .bool (Zba (Za1 qu l y0) (Zaf l y0)).2.1, .bool (Zba (Za1 qu l y0) (Zaf l y0)).2.2]) (.box [.row 2 0, .bool (Za1 qu l y0').2.1, .bool (Za1 qu l y0').2.2])∧True))))))))) else (T2 (pt ((((Za1 qu l y0).1=(Za1 qu l (List.length l)).1)∧(cB (Za1 qu l y0).2.1 (Za1 qu l (List.length l)).2.1)∧(cB (Za1 qu l y0).2.2 (Za1 qu l (List.length l)).2.2)∧True))))))))))) (by kernel_rfl) ?_
  unfold Zkr T2 T3 T4
  exact ZvP
def ZBJ:ZaI Tryz.prog:=⟨47,[.s ZbJ, .v (.list Zai)],fun x=>(List.length x.1.1≤1048576∧List.length x.2.1≤1048576),fun x=>.ag [.row 0 0, .bool (Za1 x.1 x.2.1 (List.length x.2.1)).2.1, .bool (Za1 x.1 x.2.1 (List.length x.2.1)).2.2],fun x=>[.row Zai (Za1 x.1 x.2.1 (List.length x.2.1)).1 0 0 none],fun x hx=>ZBI x.1 x.2.1 hx,Tryz.call47⟩
end Go.Proofs.YtkompmgleojmlaaGreat
