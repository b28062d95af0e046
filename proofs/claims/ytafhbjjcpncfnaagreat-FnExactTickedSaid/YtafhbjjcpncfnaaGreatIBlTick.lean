import Derived.Test.YtafhbjjcpncfnaaGreatIBlWorld
set_option linter.unusedSimpArgs false
set_option linter.unusedVariables false
set_option maxRecDepth 100000
set_option maxHeartbeats 4000000
namespace Go.Proofs.YtafhbjjcpncfnaaGreat
open Go.ChangeShapes Go.WideShapes Go.ChangeAt Go.RowKit Go.Joins Go.Deep
open GoRep (rep bulk)
def ZOL (s:Zad):Bool:=eqS s.2.2.2.2.2.2.2.2.2.2.1.1 (⟨#[]⟩:ByteArray)
def Zou (s:Zad):Bool:=s.1 && !ZOL s
def Zxe (s:Zad):Bool:=Zou s && eqI (s.2.2.2.2.2.2.2.2.2.2.2 + 1) 5
def ZkM (s:Zad):Zad:=if Zxe s=true then Zaz s else if Zou s=true then ZOM s (s.2.2.2.2.2.2.2.2.2.2.2 + 1) else s
def ZdJ (l:List Zad):Nat→List Int
 | 0=>[]
 | k + 1=>if Zxe (Zaa l k)=true then ZdJ l k ++ [((k:Nat):Int)] else ZdJ l k
def Zma (v:ZaT):ZaT:=(v.1,v.2.map ZkM)
def ZId (l:List Zad):Prop:=∀ k,k < l.length→(Zaa l k).1=true→0≤(Zaa l k).2.2.2.2.2.2.2.2.2.2.2∧(Zaa l k).2.2.2.2.2.2.2.2.2.2.2≤4
def ZKd (v:ZaT):Prop:=ZfA v∧ZId v.2
def Za0 (v:ZaT):ZaT:=if Zbf v=true then Zma v else v
def Zcl (v:ZaT):List Int:=if Zbf v=true then ZdJ v.2 v.2.length else []
def ZdY (l:List Zad) (j:Nat):List Zad:=(List.take j l).map ZkM ++ List.drop j l
theorem Zhv (l:List Zad) (j:Nat):(ZdY l j).length=l.length:=by
 unfold ZdY
 rw [List.length_append,List.length_map,List.length_take,List.length_drop]
 omega
theorem ZEt (l:List Zad):ZdY l l.length=l.map ZkM:=by
 unfold ZdY
 rw [List.take_length,List.drop_length,List.append_nil]
theorem Zgn {l:List Zad} {j:Nat} (h:j < l.length):Zaa (ZdY l j) j=Zaa l j:=by
 have h1:(ZdY l j)[j]?=l[j]?:=by
  unfold ZdY
  rw [List.getElem?_append_right (by rw [List.length_map,List.length_take]; omega),List.getElem?_drop,List.length_map,List.length_take]
  congr 1
  omega
 exact Zcb (t:=Zae) (h1.trans (Zat (t:=Zae) h))
theorem ZuZ {l:List Zad} {j:Nat} (h:j < l.length):List.set (ZdY l j) j (ZkM (Zaa l j))=ZdY l (j + 1):=by
 have h0:l[j]?=some (Zaa l j):=Zat (t:=Zae) h
 have h1:l[j]=Zaa l j:=by
  rw [List.getElem?_eq_getElem h] at h0
  exact Option.some.inj h0
 unfold ZdY
 rw [List.set_append_right _ _ (by rw [List.length_map,List.length_take]; omega),List.length_map,List.length_take,Nat.min_eq_left (by omega),Nat.sub_self,List.drop_eq_getElem_cons h,List.set_cons_zero,List.take_add_one,h0,List.map_append,List.append_assoc]
 rfl
theorem Zmb (l:List Zad):∀ k,(ZdJ l k).length≤k
 | 0=>Nat.le_refl _
 | k + 1=>by
  have:=Zmb l k
  unfold ZdJ
  split
  ·rw [List.length_append]
   simp only [List.length_singleton]
   omega
  ·omega
theorem ZKe {l:List Zad} {k:Nat} (hk:k < l.length):List.set (ZdY l k) k (Zaa l k)=ZdY l k:=by
 have h0:(ZdY l k)[k]?=some (Zaa (ZdY l k) k):=Zat (t:=Zae) (Nat.lt_of_lt_of_eq hk (Zhv l k).symm)
 rw [Zgn hk] at h0
 apply List.ext_getElem?
 intro j
 rw [List.getElem?_set]
 split
 ·rename_i e; subst e; rw [if_pos (Nat.lt_of_lt_of_eq hk (Zhv l k).symm)]; exact h0.symm
 ·rfl
theorem Zu0 {l:List Zad} {k:Nat} (hk:k < l.length) (h:Zou (Zaa l k)=false):ZdY l k=ZdY l (k + 1)∧ZdJ l k=ZdJ l (k + 1):=by
 have h1:¬ Zou (Zaa l k)=true:=by rw [h]; decide
 have h2:¬ Zxe (Zaa l k)=true:=by unfold Zxe; rw [h,Bool.false_and]; decide
 have h3:ZkM (Zaa l k)=Zaa l k:=by unfold ZkM; rw [if_neg h2,if_neg h1]
 refine ⟨?_,(if_neg h2).symm⟩
 rw [← ZuZ hk,h3,ZKe hk]
theorem ZEu {l:List Zad} {k:Nat} (hk:k < l.length) (h:Zou (Zaa l k)=true) (g:¬ (Zaa l k).2.2.2.2.2.2.2.2.2.2.2 + 1=5) :
 List.set (ZdY l k) k (ZOM (Zaa l k) ((Zaa l k).2.2.2.2.2.2.2.2.2.2.2 + 1))=ZdY l (k + 1)∧ZdJ l k=ZdJ l (k + 1):=by
 have h2:¬ Zxe (Zaa l k)=true:=by unfold Zxe; rw [h,ZaS.2 g]; decide
 have h3:ZkM (Zaa l k)=ZOM (Zaa l k) ((Zaa l k).2.2.2.2.2.2.2.2.2.2.2 + 1):=by unfold ZkM; rw [if_neg h2,if_pos h]
 refine ⟨?_,(if_neg h2).symm⟩
 rw [← ZuZ hk,h3]
theorem Zxf {l:List Zad} {k:Nat} (hk:k < l.length) (h:Zou (Zaa l k)=true) (g:(Zaa l k).2.2.2.2.2.2.2.2.2.2.2 + 1=5) (y:Zad) :
 List.set (List.set (ZdY l k) k y) k (Zaz (Zaa l k))=ZdY l (k + 1)∧ZdJ l k ++ [((k:Nat):Int)]=ZdJ l (k + 1):=by
 have h2:Zxe (Zaa l k)=true:=by unfold Zxe; rw [h,ZaJ.2 g]; rfl
 have h3:ZkM (Zaa l k)=Zaz (Zaa l k):=by unfold ZkM; rw [if_pos h2]
 refine ⟨?_,(if_pos h2).symm⟩
 rw [← ZuZ hk,h3,List.set_set]
theorem ZsJ {s:Zad} (h:s.1=false):Zou s=false:=by unfold Zou; rw [h]; rfl
theorem Zxg {s:Zad} (h:eqS s.2.2.2.2.2.2.2.2.2.2.1.1 (⟨#[]⟩:ByteArray)=true):Zou s=false:=by unfold Zou ZOL; rw [h]; cases s.1 <;> rfl
theorem Zmc {s:Zad} (h1:s.1=true) (h:eqS s.2.2.2.2.2.2.2.2.2.2.1.1 (⟨#[]⟩:ByteArray)=false):Zou s=true:=by unfold Zou ZOL; rw [h,h1]; rfl
theorem Zp2 {v:ZaT} {y:Nat} (h1:y=0∨Zbf v=true) (h2:y=v.2.length∨Zbf v=false) :
 v.1.1=(Za0 v).1.1∧v.1.2.1=(Za0 v).1.2.1∧v.1.2.2=(Za0 v).1.2.2∧ZdY v.2 y=(Za0 v).2∧ZdJ v.2 y=Zcl v:=by
 cases hs:Zbf v with
 | false =>
  have hn:¬ Zbf v=true:=by rw [hs]; decide
  have E:Za0 v=v:=if_neg hn
  have EN:Zcl v=[]:=if_neg hn
  obtain rfl:=h1.resolve_right hn
  rw [E,EN]
  exact ⟨rfl,rfl,rfl,rfl,rfl⟩
 | true =>
  have E:Za0 v=Zma v:=if_pos hs
  have EN:Zcl v=ZdJ v.2 v.2.length:=if_pos hs
  obtain rfl:=h2.resolve_right (by rw [hs]; decide)
  rw [E,EN]
  exact ⟨rfl,rfl,rfl,ZEt _,rfl⟩
theorem Zu1 {v:ZaT} (h:Zbf v=true):ZId v.2:=by
 intro k hk hl
 unfold Zbf at h
 rw [Bool.and_eq_true,Bool.and_eq_true,Bool.not_eq_true'] at h
 have h1:=List.any_eq_false.1 h.2.2 _ (List.mem_of_getElem? (Zat (t:=Zae) hk))
 have h2:sesOk v (Zaa v.2 k)=true:=by
  cases e:sesOk v (Zaa v.2 k) with
  | true=>rfl
  | false =>
   have e' : (!sesOk v (Zaa v.2 k))=true:=by rw [e]; rfl
   exact absurd e' h1
 unfold sesOk at h2
 rw [Bool.and_eq_true] at h2
 have h3:=h2.1
 unfold Za4 at h3
 rw [if_pos hl,Bool.and_eq_true,Bool.and_eq_true,Bool.and_eq_true] at h3
 have h4:=h3.2.2.1
 unfold endI at h4
 simp only [Bool.and_eq_true,Zbu] at h4
 exact h4.2.2.2.1
theorem Zxh (s:Zad):Zao Tryz.prog 50 [.ag (Zk0 Zae s)] (.ag [.bool (Zaz s).1, .int .i64 (Zaz s).2.1, .int .i64 (Zaz s).2.2.1, .int .i64 (Zaz s).2.2.2.1, .row 0 0, .bool (Zaz s).2.2.2.2.2.1.1, .row 1 0, .str (Zaz s).2.2.2.2.2.2.1, .str (Zaz s).2.2.2.2.2.2.2.1, .row 2 0, .bool (Zaz s).2.2.2.2.2.2.2.2.1.2.1, .bool (Zaz s).2.2.2.2.2.2.2.2.1.2.2, .str (Zaz s).2.2.2.2.2.2.2.2.2.1.1, .bool (Zaz s).2.2.2.2.2.2.2.2.2.1.2, .str (Zaz s).2.2.2.2.2.2.2.2.2.2.1.1, .str (Zaz s).2.2.2.2.2.2.2.2.2.2.1.2, .int .i64 (Zaz s).2.2.2.2.2.2.2.2.2.2.2]) [.row Zay (Zaz s).2.2.2.2.1 0 0 none, .row Zak (Zaz s).2.2.2.2.2.1.2 0 0 none, .row Zal (Zaz s).2.2.2.2.2.2.2.2.1.1 0 0 none]:=by
 exact ZAI
def Zxi:ZaE Tryz.prog:=⟨50,[.q Zae],fun x=>True,fun x=>.ag [.bool (Zaz x.1).1, .int .i64 (Zaz x.1).2.1, .int .i64 (Zaz x.1).2.2.1, .int .i64 (Zaz x.1).2.2.2.1, .row 0 0, .bool (Zaz x.1).2.2.2.2.2.1.1, .row 1 0, .str (Zaz x.1).2.2.2.2.2.2.1, .str (Zaz x.1).2.2.2.2.2.2.2.1, .row 2 0, .bool (Zaz x.1).2.2.2.2.2.2.2.2.1.2.1, .bool (Zaz x.1).2.2.2.2.2.2.2.2.1.2.2, .str (Zaz x.1).2.2.2.2.2.2.2.2.2.1.1, .bool (Zaz x.1).2.2.2.2.2.2.2.2.2.1.2, .str (Zaz x.1).2.2.2.2.2.2.2.2.2.2.1.1, .str (Zaz x.1).2.2.2.2.2.2.2.2.2.2.1.2, .int .i64 (Zaz x.1).2.2.2.2.2.2.2.2.2.2.2],fun x=>[.row Zay (Zaz x.1).2.2.2.2.1 0 0 none, .row Zak (Zaz x.1).2.2.2.2.2.1.2 0 0 none, .row Zal (Zaz x.1).2.2.2.2.2.2.2.2.1.1 0 0 none],fun x hx=>Zxh x.1,Tryz.call50⟩
def Zp3 (v:ZaT):Nat→List AV→Mem→Zbd
 | 3,tm,M=>⟨Nat,fun y=>(Zcf (Zcf (Zct tm [(3, .c (.row 4 0)),(12, .c (.int .i64 ((y:Nat):Int)))]) 4 3) 13 41,Zky M [(3, .row Zae (ZdY v.2 y) 0 0 none),(4, .row Zax (ZdJ v.2 y) 0 0 none)]),fun y=>(y≤List.length v.2),fun y=>(List.length v.2 - y)⟩
 | _,_,_=>⟨Unit,fun _=>([],[]),fun _=>False,fun _=>0⟩
def Zu2 (y0:Nat) (y0' : Nat):Prop:=vI (w64 ((y0:Int) + 1)) y0'∧TN 41 (lxs [.tp []] True)
def ZC7 (v:ZaT) (y0:Nat):Prop:=T2 (∃ y0' : Nat,(y0'≤v.2.length)∧(v.2.length - y0') < (v.2.length - y0)∧lxs [.c (.bp 0 0), .tp [], .c (.raw (.slice none 0 0)), .c (.row 4 0)] (TN 3 (lxs [.c (.bp 0 0), .c (.bp 0 0), .c (.bp 0 3), .c (.row 3 0),ci v.2.length] (Zu2 y0 y0')))∧pt (lb (.box [.row 1 0, .row 2 0, .int .i64 v.1.2.2, .row 3 0])∧lb (.row Zaj v.1.1 0 0 none)∧lb (.row Zag v.1.2.1 0 0 none)∧leB (.row Zae (ZdY v.2 y0) 0 0 none) (.row Zae (ZdY v.2 y0') 0 0 none)∧leB (.row Zax (ZdJ v.2 y0) 0 0 none) (.row Zax (ZdJ v.2 y0') 0 0 none)∧True))
def Zu3 (y0:Nat) (v:ZaT):Prop:=ix 17 y0 (List.length (ZdY v.2 y0))
theorem Zp4 (v:ZaT) (hpre:ZKd v):Zep Tryz.prog 23 (Zd7 0 [(.m Zbm)] (v,())) (Zh3 0 [(.m Zbm)] (v,())) (Zfj 0 [(.m Zbm)] (Zma v,()) ++ [.row Zax (ZdJ v.2 (List.length v.2)) 0 0 none]) (inpM 0 [(.m Zbm)]) (.c (.row 4 0)):=by
 refine Zdu (T:=⟨[Zxi],[],[],[],none,fun _=>[],4,[],[]⟩) (L:=(Zp3 v)) Tryz.func23 rfl rfl rfl (by kernel_rfl) (fun hwf hwm=>?_)
 refine Eq.mpr (β:=T9 ((∃ q:Nat,(q≤v.2.length)∧lxs [.c (.bp 0 0), .tp [], .c (.raw (.slice none 0 0)), .c (.row 4 0)] (TN 3 (lxs [.c (.bp 0 0), .c (.bp 0 0), .c (.bp 0 3), .c (.row 3 0),ci v.2.length] (vI 0 q∧TN 41 (lxs [.tp []] True))))∧pt (lb (.box [.row 1 0, .row 2 0, .int .i64 v.1.2.2, .row 3 0])∧lb (.row Zaj v.1.1 0 0 none)∧lb (.row Zag v.1.2.1 0 0 none)∧leB (.row Zae v.2 0 0 none) (.row Zae (ZdY v.2 q) 0 0 none)∧leB (.row Zax ([]:List Int) 0 0 none) (.row Zax (ZdJ v.2 q) 0 0 none)∧True))∧∀ y0:Nat,(y0≤v.2.length)→True∧bif ltI y0 v.2.length then True∧Zu3 y0 v∧T8 (bif !(Zaa (ZdY v.2 y0) y0).1 then True∧ZC7 v y0 else T5 (bif eqS (Zaa (ZdY v.2 y0) y0).2.2.2.2.2.2.2.2.2.2.1.1 (⟨#[]⟩:ByteArray) then ZC7 v y0 else T5 (Zu3 y0 v∧T3 (Zu3 y0 v∧T2 (∀ r1:List Zad,r1=List.set (ZdY v.2 y0) y0 ((Zaa (ZdY v.2 y0) y0).1,(Zaa (ZdY v.2 y0) y0).2.1,(Zaa (ZdY v.2 y0) y0).2.2.1,(Zaa (ZdY v.2 y0) y0).2.2.2.1,(Zaa (ZdY v.2 y0) y0).2.2.2.2.1,(Zaa (ZdY v.2 y0) y0).2.2.2.2.2.1,(Zaa (ZdY v.2 y0) y0).2.2.2.2.2.2.1,(Zaa (ZdY v.2 y0) y0).2.2.2.2.2.2.2.1,(Zaa (ZdY v.2 y0) y0).2.2.2.2.2.2.2.2.1,(Zaa (ZdY v.2 y0) y0).2.2.2.2.2.2.2.2.2.1,(Zaa (ZdY v.2 y0) y0).2.2.2.2.2.2.2.2.2.2.1,(w64 ((Zaa (ZdY v.2 y0) y0).2.2.2.2.2.2.2.2.2.2.2 + 1)))→T4 (bif geI (w64 ((Zaa (ZdY v.2 y0) y0).2.2.2.2.2.2.2.2.2.2.2 + 1)) 5 then pt (true=true)∧T6 ((True∧pt (true=true))∧ix 17 y0 r1.length∧True∧∀ r2:List Zad,r2=List.set r1 y0 (Zaz ((Zaa (ZdY v.2 y0) y0).1,(Zaa (ZdY v.2 y0) y0).2.1,(Zaa (ZdY v.2 y0) y0).2.2.1,(Zaa (ZdY v.2 y0) y0).2.2.2.1,([]:List ZbT),((Zaa (ZdY v.2 y0) y0).2.2.2.2.2.1.1,([]:List ZaW)),(Zaa (ZdY v.2 y0) y0).2.2.2.2.2.2.1,(Zaa (ZdY v.2 y0) y0).2.2.2.2.2.2.2.1,(([]:List ZaM),(Zaa (ZdY v.2 y0) y0).2.2.2.2.2.2.2.2.1.2),(Zaa (ZdY v.2 y0) y0).2.2.2.2.2.2.2.2.2))→T3 ((True∧List.length (ZdJ v.2 y0) + List.length ([(y0:Int)])≤rowMax)∧T3 (∃ y0' : Nat,(y0'≤v.2.length)∧(v.2.length - y0') < (v.2.length - y0)∧lxs [.c (.bp 0 0), .tp [], .c (.raw (.slice none 0 0)), .c (.row 4 0)] (TN 3 (lxs [.c (.bp 0 0), .c (.bp 0 0), .c (.bp 0 3), .c (.row 3 0),ci v.2.length] (Zu2 y0 y0')))∧pt (lb (.box [.row 1 0, .row 2 0, .int .i64 v.1.2.2, .row 3 0])∧lb (.row Zaj v.1.1 0 0 none)∧lb (.row Zag v.1.2.1 0 0 none)∧leB (.row Zae r2 0 0 none) (.row Zae (ZdY v.2 y0') 0 0 none)∧leB (.row Zax ((ZdJ v.2 y0) ++ [(y0:Int)]) 0 0 none) (.row Zax (ZdJ v.2 y0') 0 0 none)∧True)))) else T2 (∃ y0' : Nat,(y0'≤v.2.length)∧(v.2.length - y0') < (v.2.length - y0)∧lxs [.c (.bp 0 0), .tp [], .c (.raw (.slice none 0 0)), .c (.row 4 0)] (TN 3 (lxs [.c (.bp 0 0), .c (.bp 0 0), .c (.bp 0 3), .c (.row 3 0),ci v.2.length] (Zu2 y0 y0')))∧pt (lb (.box [.row 1 0, .row 2 0, .int .i64 v.1.2.2, .row 3 0])∧lb (.row Zaj v.1.1 0 0 none)∧lb (.row Zag v.1.2.1 0 0 none)∧leB (.row Zae r1 0 0 none) (.row Zae (ZdY v.2 y0') 0 0 none)∧leB (.row Zax (ZdJ v.2 y0) 0 0 none) (.row Zax (ZdJ v.2 y0') 0 0 none)∧True)))))))) else T2 (pt (((v.1.1=(Zma v).1.1∧v.1.2.1=(Zma v).1.2.1∧cI v.1.2.2 (Zma v).1.2.2∧(ZdY v.2 y0)=(Zma v).2∧True)∧True)∧(ZdJ v.2 y0)=ZdJ v.2 v.2.length)))) (by kernel_rfl) ?_
 unfold Zu3 ZC7 Zu2 T2 T3 T4 T5 T6 T8 T9
 obtain ⟨hp,hs⟩:ZKd v:=hpre
 have hm:=hp.2.1
 simp only [Zbu,ZbS,Zbn,Bool.not_true,Bool.not_false,Zeg,eq_self]
 repeat' (with_reducible first | exact trivial | apply And.intro | intro _)
 all_goals first
  | (with_reducible assumption)
  | exact Int.natCast_nonneg _
  | (rename_i y hy hlt hl
     have hk:=Int.ofNat_lt.1 hlt
     have hn:=Zgn hk
     rw [hn] at hl
     exact ⟨y + 1,hk,by omega,Zbs (by unfold maxLen; omega),Zu0 hk (ZsJ hl)⟩)
  | (rename_i y hy hlt hl ho
     have hk:=Int.ofNat_lt.1 hlt
     have hn:=Zgn hk
     rw [hn] at ho
     exact ⟨y + 1,hk,by omega,Zbs (by unfold maxLen; omega),Zu0 hk (Zxg (Zbp.2 ho))⟩)
  | (rw [Zhv]; assumption)
  | (rename_i y hy hlt hl ho r1 h1
     rw [h1,List.length_set,Zhv]; exact hlt)
  | (rename_i y hy hlt hl ho r1 h1 h5
     rw [h1,List.length_set,Zhv]; exact hlt)
  | (rename_i y hy hlt hl ho r1 h1 h5 r2 h2
     have:=Zmb v.2 y
     have:=Int.ofNat_lt.1 hlt
     show _ + 1≤rowMax; unfold rowMax; omega)
  | (rename_i y hy hlt hl ho r1 h1 h5 r2 h2
     have hk:=Int.ofNat_lt.1 hlt
     have hn:=Zgn hk
     rw [hn] at hl ho h5
     have q:=hs y hk hl
     rw [wA (by omega) (by omega)] at h5
     have g:=fun z=>Zxf hk (Zmc hl (Zbo.2 ho)) (by omega) z
     subst h1; subst h2
     exact ⟨y + 1,hk,by omega,Zbs (by unfold maxLen; omega),by rw [hn]; exact (g _).1,(g (Zaa v.2 y)).2⟩)
  | (rename_i y hy hlt hl ho r1 h1 h5
     have hk:=Int.ofNat_lt.1 hlt
     have hn:=Zgn hk
     rw [hn] at hl ho h5
     have q:=hs y hk hl
     rw [wA (by omega) (by omega)] at h5
     have g:=ZEu hk (Zmc hl (Zbo.2 ho)) (by omega)
     exact ⟨y + 1,hk,by omega,Zbs (by unfold maxLen; omega),h1.trans (by rw [hn,wA (by omega) (by omega)]; exact g.1),g.2⟩)
  | exact ⟨0,Nat.zero_le _,rfl,rfl,rfl⟩
  | (rename_i y hy hge
     obtain rfl:y=List.length v.2:=by omega
     first | exact ZEt _ | rfl)
def Zp5:Zdb Tryz.prog:=⟨23,[(.m Zbm)],fun x=>ZKd x.1,fun x=>(Zma x.1,()),fun x=>.c (.row 4 0),fun x=>[.row Zax (ZdJ x.1.2 (List.length x.1.2)) 0 0 none],fun x hx=>Zp4 x.1 hx,Tryz.call23⟩
theorem ZF1 (v:ZaT) (hpre:ZfA v):Zao Tryz.prog 7 [.ag (cellsOf Zbm v)] (.tp [.ag [.row 0 0, .row 1 0, .int .i64 (Za0 v).1.2.2, .row 2 0], .c (.row 3 0)]) [.row Zaj (Za0 v).1.1 0 0 none, .row Zag (Za0 v).1.2.1 0 0 none, .row Zae (Za0 v).2 0 0 none, .row Zax (Zcl v) 0 0 none]:=by
 refine bc0 [ZrX,ZwL] [] [] [Zp5] L0 Tryz.func7 (fun hwf=>?_)
 refine Eq.mpr (β:=T4 (pt (ZfA v)∧T3 (pt (ZnL v)∧True∧bif !(Zbf v) then T3 (pt (((v.1.1=(Za0 v).1.1∧v.1.2.1=(Za0 v).1.2.1∧cI v.1.2.2 (Za0 v).1.2.2∧v.2=(Za0 v).2∧True)∧Zcl v=[]∧True))) else pt (ZKd v∧(v.1.1=v.1.1∧v.1.2.1=v.1.2.1∧cI v.1.2.2 v.1.2.2∧v.2=v.2∧True)∧True)∧∀ r0:List ZaO,r0=(Zma v).1.1→∀ r1:List ZaA,r1=(Zma v).1.2.1→∀ r2:List Zad,r2=(Zma v).2→T5 (pt (((r0=(Za0 v).1.1∧r1=(Za0 v).1.2.1∧cI (Zma v).1.2.2 (Za0 v).1.2.2∧r2=(Za0 v).2∧True)∧(ZdJ v.2 v.2.length)=Zcl v∧True)))))) (by kernel_rfl) ?_
 unfold T3 T4 T5
 have hw:=Zxw hpre
 cases h:Zbf v with
 | false =>
  have hf:¬ Zbf v=true:=by rw [h]; decide
  have E:Za0 v=v:=if_neg hf
  have EN:Zcl v=[]:=if_neg hf
  rw [E,EN]
  simp only [h,forall_eq,Bool.true_eq_false,Bool.false_eq_true,false_implies,true_implies,not_true_eq_false,not_false_eq_true,Bool.not_true,Bool.not_false,Bool.and_true,Bool.and_false,Bool.true_and,Bool.false_and,List.length_set,List.set_set,and_true,true_and,and_self,Zbu,ZbS,Zeg,eq_self]
  repeat' (with_reducible first | exact trivial | apply And.intro | intro _)
  all_goals first | omega | (with_reducible rfl) | (with_reducible assumption) | exact hpre | exact hw | (with_reducible exact ⟨by omega,by omega⟩) | (exfalso; omega) | (exfalso; contradiction)
 | true =>
  have E:Za0 v=Zma v:=if_pos h
  have EN:Zcl v=ZdJ v.2 v.2.length:=if_pos h
  rw [E,EN]
  simp only [h,forall_eq,Bool.true_eq_false,Bool.false_eq_true,false_implies,true_implies,not_true_eq_false,not_false_eq_true,Bool.not_true,Bool.not_false,Bool.and_true,Bool.and_false,Bool.true_and,Bool.false_and,List.length_set,List.set_set,and_true,true_and,and_self,Zbu,ZbS,Zeg,eq_self]
  repeat' (with_reducible first | exact trivial | apply And.intro | intro _)
  all_goals first | omega | (with_reducible rfl) | (with_reducible assumption) | exact hpre | exact hw | exact ⟨hpre,Zu1 h⟩ | (with_reducible exact ⟨by omega,by omega⟩) | (exfalso; omega) | (exfalso; contradiction)
def ZF2:ZaE Tryz.prog:=⟨7,[.s Zbm],fun x=>ZfA x.1,fun x=>.tp [.ag [.row 0 0, .row 1 0, .int .i64 (Za0 x.1).1.2.2, .row 2 0], .c (.row 3 0)],fun x=>[.row Zaj (Za0 x.1).1.1 0 0 none, .row Zag (Za0 x.1).1.2.1 0 0 none, .row Zae (Za0 x.1).2 0 0 none, .row Zax (Zcl x.1) 0 0 none],fun x hx=>ZF1 x.1 hx,Tryz.call7⟩
def ZF3 (v:ZaT):Nat→List AV→Mem→Zbd
 | 4,tm,M=>⟨Nat,fun y=>(Zcf (Zct tm [(5, .c (.row 6 0)),(6, .c (.int .i64 ((y:Nat):Int))),(7, .any)]) 9 49,Zky M [(4, .row Zae (ZdY v.2 y) 0 0 none),(6, .row Zax (ZdJ v.2 y) 0 0 none)]),fun y=>(y≤List.length v.2∧(y=0∨Zbf v=true)),fun y=>(List.length v.2 - y)⟩
 | _,_,_=>⟨Unit,fun _=>([],[]),fun _=>False,fun _=>0⟩
def ZgP (v:ZaT):List AC:=[.hs .no Zaj v.1.1, .hs .no Zag v.1.2.1, .int .i64 v.1.2.2, .hs .no Zae v.2]
def Zu4 (y0:Nat) (y0' : Nat) (v:ZaT):Prop:=vI (w64 ((y0:Int) + 1)) y0'∧True∧lxs [.ag (ZgP v)] (TN 49 (lxs [.tp [], .tp []] True))
def Zp6:List AC:=[.raw (.slice none 0 0), .raw (.slice none 0 0), .int .i64 0, .raw (.slice none 0 0)]
def ZC8 (v:ZaT) (y0:Nat):Prop:=T3 (∃ y0' : Nat,(y0'≤v.2.length∧(y0'=0∨Zbf v=true))∧(v.2.length - y0') < (v.2.length - y0)∧lxs [.ag (ZgP v), .c (.bp 0 0), .c (.bp 1 0), .c (.raw (.slice none 0 0)), .c (.bp 5 0), .c (.row 6 0)] (Zu4 y0 y0' v)∧pt (lb (.box (ZgP v))∧lb (.box Zp6)∧lb (.row Zaj v.1.1 0 0 none)∧lb (.row Zag v.1.2.1 0 0 none)∧leB (.row Zae (ZdY v.2 y0) 0 0 none) (.row Zae (ZdY v.2 y0') 0 0 none)∧lb (.box [.row 2 0, .row 3 0, .int .i64 v.1.2.2, .row 4 0])∧leB (.row Zax (ZdJ v.2 y0) 0 0 none) (.row Zax (ZdJ v.2 y0') 0 0 none)∧True))
def ZC9 (v:ZaT) (y0:Nat):Prop:=T4 (pt (((v.1.1=(Za0 v).1.1∧v.1.2.1=(Za0 v).1.2.1∧cI v.1.2.2 (Za0 v).1.2.2∧(ZdY v.2 y0)=(Za0 v).2∧True)∧(ZdJ v.2 y0)=Zcl v∧True)))
theorem ZF4 (v:ZaT) (hpre:ZfA v):Zao Tryz.prog 5 [.ag (cellsOf Zbm v)] (.tp [.ag [.row 0 0, .row 1 0, .int .i64 (Za0 v).1.2.2, .row 2 0], .c (.row 3 0)]) [.row Zaj (Za0 v).1.1 0 0 none, .row Zag (Za0 v).1.2.1 0 0 none, .row Zae (Za0 v).2 0 0 none, .row Zax (Zcl v) 0 0 none]:=by
 refine bc0 [ZBI,ZwO,ZsH] [] [] [] (ZF3 v) Tryz.func5 (fun hwf=>?_)
 refine Eq.mpr (β:=T4 (pt (ZfA v)∧T5 ((∃ q:Nat,(q≤v.2.length∧(q=0∨Zbf v=true))∧lxs [.ag (ZgP v), .c (.bp 0 0), .c (.bp 1 0), .c (.raw (.slice none 0 0)), .c (.bp 5 0), .c (.row 6 0)] (vI 0 q∧True∧lxs [.ag (ZgP v)] (TN 49 (lxs [.tp [], .tp []] True)))∧pt (lb (.box (ZgP v))∧lb (.box Zp6)∧lb (.row Zaj v.1.1 0 0 none)∧lb (.row Zag v.1.2.1 0 0 none)∧leB (.row Zae v.2 0 0 none) (.row Zae (ZdY v.2 q) 0 0 none)∧lb (.box [.row 2 0, .row 3 0, .int .i64 v.1.2.2, .row 4 0])∧leB (.row Zax ([]:List Int) 0 0 none) (.row Zax (ZdJ v.2 q) 0 0 none)∧True))∧∀ y0:Nat,(y0≤v.2.length∧(y0=0∨Zbf v=true))→T6 (bif ltI y0 v.2.length then True∧pt (ZnL v)∧True∧bif Zbf v then T3 (ix 17 y0 v.2.length∧T7 (bif !(Zaa v.2 y0).1 then True∧ZC8 v y0 else T5 (bif eqS (Zaa v.2 y0).2.2.2.2.2.2.2.2.2.2.1.1 (⟨#[]⟩:ByteArray) then ZC8 v y0 else T6 (ix 17 y0 (List.length (ZdY v.2 y0))∧T2 (∀ r1:List Zad,r1=List.set (ZdY v.2 y0) y0 ((Zaa (ZdY v.2 y0) y0).1,(Zaa (ZdY v.2 y0) y0).2.1,(Zaa (ZdY v.2 y0) y0).2.2.1,(Zaa (ZdY v.2 y0) y0).2.2.2.1,(Zaa (ZdY v.2 y0) y0).2.2.2.2.1,(Zaa (ZdY v.2 y0) y0).2.2.2.2.2.1,(Zaa (ZdY v.2 y0) y0).2.2.2.2.2.2.1,(Zaa (ZdY v.2 y0) y0).2.2.2.2.2.2.2.1,(Zaa (ZdY v.2 y0) y0).2.2.2.2.2.2.2.2.1,(Zaa (ZdY v.2 y0) y0).2.2.2.2.2.2.2.2.2.1,(Zaa (ZdY v.2 y0) y0).2.2.2.2.2.2.2.2.2.2.1,(w64 ((Zaa v.2 y0).2.2.2.2.2.2.2.2.2.2.2 + 1)))→T4 (bif eqI (w64 ((Zaa v.2 y0).2.2.2.2.2.2.2.2.2.2.2 + 1)) 5 then pt (true=true)∧T4 (pt True∧ix 17 y0 r1.length∧True∧∀ r2:List Zad,r2=List.set r1 y0 (Zaz (Zaa v.2 y0))→T3 ((True∧List.length (ZdJ v.2 y0) + List.length ([(y0:Int)])≤rowMax)∧T4 (∃ y0' : Nat,(y0'≤v.2.length∧(y0'=0∨Zbf v=true))∧(v.2.length - y0') < (v.2.length - y0)∧lxs [.ag (ZgP v), .c (.bp 0 0), .c (.bp 1 0), .c (.raw (.slice none 0 0)), .c (.bp 5 0), .c (.row 6 0)] (Zu4 y0 y0' v)∧pt (lb (.box (ZgP v))∧lb (.box Zp6)∧lb (.row Zaj v.1.1 0 0 none)∧lb (.row Zag v.1.2.1 0 0 none)∧leB (.row Zae r2 0 0 none) (.row Zae (ZdY v.2 y0') 0 0 none)∧lb (.box [.row 2 0, .row 3 0, .int .i64 v.1.2.2, .row 4 0])∧leB (.row Zax ((ZdJ v.2 y0) ++ [(y0:Int)]) 0 0 none) (.row Zax (ZdJ v.2 y0') 0 0 none)∧True)))) else T3 (∃ y0' : Nat,(y0'≤v.2.length∧(y0'=0∨Zbf v=true))∧(v.2.length - y0') < (v.2.length - y0)∧lxs [.ag (ZgP v), .c (.bp 0 0), .c (.bp 1 0), .c (.raw (.slice none 0 0)), .c (.bp 5 0), .c (.row 6 0)] (Zu4 y0 y0' v)∧pt (lb (.box (ZgP v))∧lb (.box Zp6)∧lb (.row Zaj v.1.1 0 0 none)∧lb (.row Zag v.1.2.1 0 0 none)∧leB (.row Zae r1 0 0 none) (.row Zae (ZdY v.2 y0') 0 0 none)∧lb (.box [.row 2 0, .row 3 0, .int .i64 v.1.2.2, .row 4 0])∧leB (.row Zax (ZdJ v.2 y0) 0 0 none) (.row Zax (ZdJ v.2 y0') 0 0 none)∧True)))))))) else ZC9 v y0 else True∧ZC9 v y0)))) (by kernel_rfl) ?_
 unfold ZC9 ZC8 Zp6 Zu4 ZgP T2 T3 T4 T5 T6 T7
 have hm:=hpre.2.1
 simp only [Zbu,ZbS,Zbn,Bool.not_true,Bool.not_false,Zeg,eq_self]
 repeat' (with_reducible first | exact trivial | apply And.intro | intro _)
 all_goals first
  | (with_reducible assumption)
  | exact Int.natCast_nonneg _
  | (rename_i y hy hlt hso hl
     have hk:=Int.ofNat_lt.1 hlt
     have hn:=Zgn hk
     exact ⟨y + 1,⟨hk, .inr hso⟩,by omega,Zbs (by unfold maxLen; omega),Zu0 hk (ZsJ hl)⟩)
  | (rename_i y hy hlt hso hl ho
     have hk:=Int.ofNat_lt.1 hlt
     have hn:=Zgn hk
     exact ⟨y + 1,⟨hk, .inr hso⟩,by omega,Zbs (by unfold maxLen; omega),Zu0 hk (Zxg (Zbp.2 ho))⟩)
  | (rw [Zhv]; assumption)
  | (rename_i y hy hlt hso hl ho r1 h1
     rw [h1,List.length_set,Zhv]; exact hlt)
  | (rename_i y hy hlt hso hl ho r1 h1 h5
     rw [h1,List.length_set,Zhv]; exact hlt)
  | (rename_i y hy hlt hso hl ho r1 h1 h5 r2 h2
     have:=Zmb v.2 y
     have:=Int.ofNat_lt.1 hlt
     show _ + 1≤rowMax; unfold rowMax; omega)
  | (rename_i y hy hlt hso hl ho r1 h1 h5 r2 h2
     have hk:=Int.ofNat_lt.1 hlt
     have hn:=Zgn hk
     have q:=Zu1 hso y hk hl
     rw [wA (by omega) (by omega)] at h5
     have g:=fun z=>Zxf hk (Zmc hl (Zbo.2 ho)) (by omega) z
     subst h1; subst h2
     exact ⟨y + 1,⟨hk, .inr hso⟩,by omega,Zbs (by unfold maxLen; omega),by rw [hn]; exact (g _).1,(g (Zaa v.2 y)).2⟩)
  | (rename_i y hy hlt hso hl ho r1 h1 h5
     have hk:=Int.ofNat_lt.1 hlt
     have hn:=Zgn hk
     have q:=Zu1 hso y hk hl
     rw [wA (by omega) (by omega)] at h5
     have g:=ZEu hk (Zmc hl (Zbo.2 ho)) (by omega)
     exact ⟨y + 1,⟨hk, .inr hso⟩,by omega,Zbs (by unfold maxLen; omega),h1.trans (by rw [hn,wA (by omega) (by omega)]; exact g.1),g.2⟩)
  | exact ⟨0,⟨Nat.zero_le _, .inl rfl⟩,rfl,rfl,rfl⟩
  | exact Zxw hpre
  | (rename_i y hy hge
     have q:=Zp2 hy.2 (.inl (by omega))
     first | exact q.1 | exact q.2.1 | exact q.2.2.1 | exact q.2.2.2.1 | exact q.2.2.2.2)
  | (rename_i y hy hlt hso
     have q:=Zp2 hy.2 (.inr hso)
     first | exact q.1 | exact q.2.1 | exact q.2.2.1 | exact q.2.2.2.1 | exact q.2.2.2.2)
def ZF5:ZaE Tryz.prog:=⟨5,[.s Zbm],fun x=>ZfA x.1,fun x=>.tp [.ag [.row 0 0, .row 1 0, .int .i64 (Za0 x.1).1.2.2, .row 2 0], .c (.row 3 0)],fun x=>[.row Zaj (Za0 x.1).1.1 0 0 none, .row Zag (Za0 x.1).1.2.1 0 0 none, .row Zae (Za0 x.1).2 0 0 none, .row Zax (Zcl x.1) 0 0 none],fun x hx=>ZF4 x.1 hx,Tryz.call5⟩
end Go.Proofs.YtafhbjjcpncfnaaGreat
