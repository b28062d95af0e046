import Derived.Test.YtkompmgleojmlaaGreatHBlWorld
set_option linter.unusedSimpArgs false
set_option linter.unusedVariables false
set_option maxRecDepth 100000
set_option maxHeartbeats 4000000
namespace Go.Proofs.YtkompmgleojmlaaGreat
open Go.ChangeShapes Go.WideShapes Go.ChangeAt Go.RowKit Go.Joins Go.Deep
open GoRep (rep bulk)
theorem ZPy {x:Int} (h:(Lit.int .i64 x).wf=true) : -9223372036854775808≤x∧x≤9223372036854775807:=by
 rw [ZnU] at h
 exact Zz4
theorem ZIw {v:ZaE} {i:Int} {n:Int} (hk:Int.toNat i < v.2.length) (h:(Zaa v.2 (Int.toNat i)).1=false):tkV v i n=v∧Zmh (Zaa v.2 (Int.toNat i)) n=0:=by
 have hn:¬ (Zaa v.2 (Int.toNat i)).1=true:=by rw [h]; decide
 unfold tkV ZGF Zmh
 rw [if_neg hn,if_neg hn,ZII hk]
 exact ⟨rfl,rfl⟩
theorem ZIx {v:ZaE} {i:Int} {n:Int} (h:(Zaa v.2 (Int.toNat i)).1=true):Zmh (Zaa v.2 (Int.toNat i)) n=drC (Zaa v.2 (Int.toNat i)).2.2.2.2.2.2.2.2.2.2.1 n ∧
 tkV v i n=(v.1,List.set v.2 (Int.toNat i) (Zvk (Zv7 (Zaa v.2 (Int.toNat i)) (drO (Zaa v.2 (Int.toNat i)).2.2.2.2.2.2.2.2.2.2.1 n)) (drC (Zaa v.2 (Int.toNat i)).2.2.2.2.2.2.2.2.2.2.1 n))):=by
 unfold tkV ZGF Zmh
 rw [if_pos h,if_pos h]
 exact ⟨rfl,rfl⟩
def ZOx (v:ZaE) (i:Int):Prop:=0≤i∧i < (List.length v.2:Int)
def ZDg (o:Zl0) (n:Int):Prop:=T3 (pt (((cS o.1 (drO o n).1∧cS o.2 (drO o n).2∧True)∧cI 0 (drC o n)∧True)))
theorem ZDh (o:Zl0) (n:Int):Zam Tryz.prog 139 [.ag [.str o.1, .str o.2], .c (.int .i64 n)] (.tp [.ag [.str (drO o n).1, .str (drO o n).2], .c (.int .i64 (drC o n))]) []:=by
 refine bc0 [ZwZ] [] [] [] L0 Tryz.func139 (fun hwf=>?_)
 refine Eq.mpr (β:=T4 (pt True∧T2 (bif !(outOk o) then True∧ZDg o n else T3 (bif ltI n 0 then ZDg o n else T8 ((IntKind.i64=IntKind.i64∧IntKind.i64=IntKind.i64)∧True∧pt (true=true)∧T3 (((0:Int)≤(if ((w64 (20000 - (o.2.size:Int))):Int) < (if (o.1.size:Int) < n then (o.1.size:Int) else n) then w64 (20000 - (o.2.size:Int)) else if (o.1.size:Int) < n then (o.1.size:Int) else n)∧((if ((w64 (20000 - (o.2.size:Int))):Int) < (if (o.1.size:Int) < n then (o.1.size:Int) else n) then w64 (20000 - (o.2.size:Int)) else if (o.1.size:Int) < n then (o.1.size:Int) else n):Int)≤(o.1.size:Int)∧(o.1.size:Int)≤(o.1.size:Int))∧T5 (((0:Int)≤0∧(0:Int)≤(if ((w64 (20000 - (o.2.size:Int))):Int) < (if (o.1.size:Int) < n then (o.1.size:Int) else n) then w64 (20000 - (o.2.size:Int)) else if (o.1.size:Int) < n then (o.1.size:Int) else n)∧((if ((w64 (20000 - (o.2.size:Int))):Int) < (if (o.1.size:Int) < n then (o.1.size:Int) else n) then w64 (20000 - (o.2.size:Int)) else if (o.1.size:Int) < n then (o.1.size:Int) else n):Int)≤(o.1.size:Int))∧o.2.size + ByteArray.size (ByteArray.extract o.1 (Int.toNat 0) (Int.toNat (if ((w64 (20000 - (o.2.size:Int))):Int) < (if (o.1.size:Int) < n then (o.1.size:Int) else n) then w64 (20000 - (o.2.size:Int)) else if (o.1.size:Int) < n then (o.1.size:Int) else n)))≤maxLen∧T4 (pt (((cS (ByteArray.extract o.1 (Int.toNat (if ((w64 (20000 - (o.2.size:Int))):Int) < (if (o.1.size:Int) < n then (o.1.size:Int) else n) then w64 (20000 - (o.2.size:Int)) else if (o.1.size:Int) < n then (o.1.size:Int) else n)) o.1.size) (drO o n).1∧cS (o.2 ++ (ByteArray.extract o.1 (Int.toNat 0) (Int.toNat (if ((w64 (20000 - (o.2.size:Int))):Int) < (if (o.1.size:Int) < n then (o.1.size:Int) else n) then w64 (20000 - (o.2.size:Int)) else if (o.1.size:Int) < n then (o.1.size:Int) else n)))) (drO o n).2∧True)∧cI (if ((w64 (20000 - (o.2.size:Int))):Int) < (if (o.1.size:Int) < n then (o.1.size:Int) else n) then w64 (20000 - (o.2.size:Int)) else if (o.1.size:Int) < n then (o.1.size:Int) else n) (drC o n)∧True)))))))))) (by kernel_rfl) ?_
 unfold ZDg T2 T3 T4 T5 T8
 try simp only [Zdq]
 have h1:ByteArray.size o.1≤maxLen:=hwf.1.1
 have h2:ByteArray.size o.2≤maxLen:=hwf.1.2.1
 have hn : -9223372036854775808≤n∧n≤9223372036854775807:=ZPy hwf.2.1
 unfold maxLen at h1 h2
 cases ho:outOk o with
 | false =>
  exact ZAM
 | true =>
  exact ZyO
def ZDi:ZaC Tryz.prog:=⟨139,[.s ZkP, .v Zaz],fun x=>True,fun x=>.tp [.ag [.str (drO x.1 x.2.1).1, .str (drO x.1 x.2.1).2], .c (.int .i64 (drC x.1 x.2.1))],fun _=>[],fun x hx=>ZDh x.1 x.2.1,Tryz.call139⟩
theorem ZDj (o:Zl0) (n:Int):Zam Tryz.prog 61 [.ag [.str o.1, .str o.2], .c (.int .i64 n)] (.tp [.ag [.str (drO o n).1, .str (drO o n).2], .c (.int .i64 (drC o n))]) []:=by
 refine bc0 [ZeO,ZpC,ZpD] [] [] [] L0 Tryz.func61 (fun hwf=>?_)
 refine Eq.mpr (β:=T4 (pt True∧True∧bif !(outOk o) then T3 (pt (((cS o.1 (drO o n).1∧cS o.2 (drO o n).2∧True)∧cI 0 (drC o n)∧True))) else T8 (pt True∧pt True∧pt True∧True∧pt (true=true)∧T3 (((0:Int)≤max 0 (min n (min (o.1.size:Int) (w64 (20000 - (o.2.size:Int)))))∧(max 0 (min n (min (o.1.size:Int) (w64 (20000 - (o.2.size:Int))))):Int)≤(o.1.size:Int)∧(o.1.size:Int)≤(o.1.size:Int))∧T5 (((0:Int)≤0∧(0:Int)≤max 0 (min n (min (o.1.size:Int) (w64 (20000 - (o.2.size:Int)))))∧(max 0 (min n (min (o.1.size:Int) (w64 (20000 - (o.2.size:Int))))):Int)≤(o.1.size:Int))∧o.2.size + ByteArray.size (ByteArray.extract o.1 (Int.toNat 0) (Int.toNat (max 0 (min n (min (o.1.size:Int) (w64 (20000 - (o.2.size:Int))))))))≤maxLen∧T4 (pt (((cS (ByteArray.extract o.1 (Int.toNat (max 0 (min n (min (o.1.size:Int) (w64 (20000 - (o.2.size:Int))))))) o.1.size) (drO o n).1∧cS (o.2 ++ (ByteArray.extract o.1 (Int.toNat 0) (Int.toNat (max 0 (min n (min (o.1.size:Int) (w64 (20000 - (o.2.size:Int))))))))) (drO o n).2∧True)∧cI (max 0 (min n (min (o.1.size:Int) (w64 (20000 - (o.2.size:Int)))))) (drC o n)∧True)))))))) (by kernel_rfl) ?_
 unfold T3 T4 T5 T8
 try simp only [Zdq]
 have h1:ByteArray.size o.1≤maxLen:=hwf.1.1
 have h2:ByteArray.size o.2≤maxLen:=hwf.1.2.1
 have hn : -9223372036854775808≤n∧n≤9223372036854775807:=ZPy hwf.2.1
 unfold maxLen at h1 h2
 cases ho:outOk o with
 | false =>
  exact ZAM
 | true =>
  exact ZyO
def ZDk:ZaC Tryz.prog:=⟨61,[.s ZkP, .v Zaz],fun x=>True,fun x=>.tp [.ag [.str (drO x.1 x.2.1).1, .str (drO x.1 x.2.1).2], .c (.int .i64 (drC x.1 x.2.1))],fun _=>[],fun x hx=>ZDj x.1 x.2.1,Tryz.call61⟩
def ZDl (r0:List Zad) (i:Int) (v:ZaE) (n:Int):Prop:=T4 (∀ r1:List Zad,r1=List.set r0 i.toNat ((Zaa r0 i.toNat).1,(Zaa r0 i.toNat).2.1,(Zaa r0 i.toNat).2.2.1,(Zaa r0 i.toNat).2.2.2.1,(Zaa r0 i.toNat).2.2.2.2.1,(Zaa r0 i.toNat).2.2.2.2.2.1,(Zaa r0 i.toNat).2.2.2.2.2.2.1,(Zaa r0 i.toNat).2.2.2.2.2.2.2.1,(Zaa r0 i.toNat).2.2.2.2.2.2.2.2.1,(Zaa r0 i.toNat).2.2.2.2.2.2.2.2.2.1,(Zaa r0 i.toNat).2.2.2.2.2.2.2.2.2.2.1,0)→T2 (pt (((v.1.1=(tkV v i n).1.1∧v.1.2.1=(tkV v i n).1.2.1∧cI v.1.2.2 (tkV v i n).1.2.2∧r1=(tkV v i n).2∧True)∧True)∧cI (drC (Zaa v.2 i.toNat).2.2.2.2.2.2.2.2.2.2.1 n) (Zmh (Zaa v.2 i.toNat) n))))
theorem Zow (v:ZaE) (i:Int) (n:Int) (hpre:ZOx v i):Zet Tryz.prog 62 (Zea 0 [(.m ZaV),(.a (.v Zaz)),(.a (.v Zaz))] (v,i,n,())) (Zh2 0 [(.m ZaV),(.a (.v Zaz)),(.a (.v Zaz))] (v,i,n,())) (Zfm 0 [(.m ZaV),(.a (.v Zaz)),(.a (.v Zaz))] (tkV v i n,i,n,()) ++ []) (inpM 0 [(.m ZaV),(.a (.v Zaz)),(.a (.v Zaz))]) (.c (.int .i64 (Zmh (Zaa v.2 (Int.toNat i)) n))):=by
 refine Zdy (T:=⟨[ZDi],[],[],[],none,fun _=>[],4,[],[]⟩) (L:=L0) Tryz.func62 rfl rfl rfl (by kernel_rfl) (fun hwf hwm=>?_)
 refine Eq.mpr (β:=T6 (ix 17 i v.2.length∧T6 (bif !(Zaa v.2 i.toNat).1 then True∧pt (((v.1.1=(tkV v i n).1.1∧v.1.2.1=(tkV v i n).1.2.1∧cI v.1.2.2 (tkV v i n).1.2.2∧v.2=(tkV v i n).2∧True)∧True)∧cI 0 (Zmh (Zaa v.2 i.toNat) n)) else T5 (pt True∧T11 (∀ r0:List Zad,r0=List.set v.2 i.toNat ((Zaa v.2 i.toNat).1,(Zaa v.2 i.toNat).2.1,(Zaa v.2 i.toNat).2.2.1,(Zaa v.2 i.toNat).2.2.2.1,(Zaa v.2 i.toNat).2.2.2.2.1,(Zaa v.2 i.toNat).2.2.2.2.2.1,(Zaa v.2 i.toNat).2.2.2.2.2.2.1,(Zaa v.2 i.toNat).2.2.2.2.2.2.2.1,(Zaa v.2 i.toNat).2.2.2.2.2.2.2.2.1,(Zaa v.2 i.toNat).2.2.2.2.2.2.2.2.2.1,(drO (Zaa v.2 i.toNat).2.2.2.2.2.2.2.2.2.2.1 n),(Zaa v.2 i.toNat).2.2.2.2.2.2.2.2.2.2.2)→T3 (bif neI (drC (Zaa v.2 i.toNat).2.2.2.2.2.2.2.2.2.2.1 n) 0 then True∧ZDl r0 i v n else T4 (bif eqS (drO (Zaa v.2 i.toNat).2.2.2.2.2.2.2.2.2.2.1 n).1 (⟨#[]⟩:ByteArray) then ZDl r0 i v n else T2 (pt (((v.1.1=(tkV v i n).1.1∧v.1.2.1=(tkV v i n).1.2.1∧cI v.1.2.2 (tkV v i n).1.2.2∧r0=(tkV v i n).2∧True)∧True)∧cI (drC (Zaa v.2 i.toNat).2.2.2.2.2.2.2.2.2.2.1 n) (Zmh (Zaa v.2 i.toNat) n)))))))))) (by kernel_rfl) ?_
 unfold ZDl T11 T2 T3 T4 T5 T6
 obtain ⟨hi,hi2⟩:0≤i∧i < (List.length v.2:Int):=hpre
 have hk:Int.toNat i < List.length v.2:=by omega
 have hw:True:=trivial
 have hN:=fun y=>ZEO (y:=y) hk
 have hge:=ZMf (Zaa v.2 (Int.toNat i)).2.2.2.2.2.2.2.2.2.2.1 n
 cases hl:(Zaa v.2 (Int.toNat i)).1 with
 | false =>
  obtain ⟨E,EN⟩:=ZIw (n:=n) hk hl
  exact ZAK
 | true =>
  obtain ⟨EN,E⟩:=ZIx (v:=v) (i:=i) (n:=n) hl
  rw [E,EN]
  by_cases hc:drC (Zaa v.2 (Int.toNat i)).2.2.2.2.2.2.2.2.2.2.1 n=0
  ·have c1:neI (drC (Zaa v.2 (Int.toNat i)).2.2.2.2.2.2.2.2.2.2.1 n) 0=false:=Zbs.2 hc
   have c2:gtI (drC (Zaa v.2 (Int.toNat i)).2.2.2.2.2.2.2.2.2.2.1 n) 0=false:=Zeq.2 (by omega)
   by_cases he:(drO (Zaa v.2 (Int.toNat i)).2.2.2.2.2.2.2.2.2.2.1 n).1=(⟨#[]⟩:ByteArray)
   ·have c3:eqS (drO (Zaa v.2 (Int.toNat i)).2.2.2.2.2.2.2.2.2.2.1 n).1 (⟨#[]⟩:ByteArray)=true:=Zbp.2 he
    have c4:Zvk (Zv7 (Zaa v.2 (Int.toNat i)) (drO (Zaa v.2 (Int.toNat i)).2.2.2.2.2.2.2.2.2.2.1 n)) (drC (Zaa v.2 (Int.toNat i)).2.2.2.2.2.2.2.2.2.2.1 n)=ZKK (Zv7 (Zaa v.2 (Int.toNat i)) (drO (Zaa v.2 (Int.toNat i)).2.2.2.2.2.2.2.2.2.2.1 n)) 0:=if_pos (.inr he)
    exact ZAI
   ·have c3:eqS (drO (Zaa v.2 (Int.toNat i)).2.2.2.2.2.2.2.2.2.2.1 n).1 (⟨#[]⟩:ByteArray)=false:=Zbv.2 he
    have c4:Zvk (Zv7 (Zaa v.2 (Int.toNat i)) (drO (Zaa v.2 (Int.toNat i)).2.2.2.2.2.2.2.2.2.2.1 n)) (drC (Zaa v.2 (Int.toNat i)).2.2.2.2.2.2.2.2.2.2.1 n)=Zv7 (Zaa v.2 (Int.toNat i)) (drO (Zaa v.2 (Int.toNat i)).2.2.2.2.2.2.2.2.2.2.1 n):=if_neg (fun q=>q.elim (fun q=>q hc) he)
    exact ZAI
  ·have c1:neI (drC (Zaa v.2 (Int.toNat i)).2.2.2.2.2.2.2.2.2.2.1 n) 0=true:=ZbT.2 hc
   have c2:gtI (drC (Zaa v.2 (Int.toNat i)).2.2.2.2.2.2.2.2.2.2.1 n) 0=true:=gtI_true.2 (by omega)
   have c4:Zvk (Zv7 (Zaa v.2 (Int.toNat i)) (drO (Zaa v.2 (Int.toNat i)).2.2.2.2.2.2.2.2.2.2.1 n)) (drC (Zaa v.2 (Int.toNat i)).2.2.2.2.2.2.2.2.2.2.1 n)=ZKK (Zv7 (Zaa v.2 (Int.toNat i)) (drO (Zaa v.2 (Int.toNat i)).2.2.2.2.2.2.2.2.2.2.1 n)) 0:=if_pos (.inl hc)
   rw [c4]
   simp only [hl,c1,c2,hN,ZKK,Zv7,forall_eq,Bool.true_eq_false,Bool.false_eq_true,false_implies,true_implies,not_true_eq_false,not_false_eq_true,Bool.not_true,Bool.not_false,Bool.and_true,Bool.and_false,Bool.true_and,Bool.false_and,List.length_set,List.set_set,and_true,true_and,and_self,Zbe,Zbl,Zdq,eq_self]
   exact Zec
def Zox:Zdj Tryz.prog:=⟨62,[(.m ZaV),(.a (.v Zaz)),(.a (.v Zaz))],fun x=>ZOx x.1 x.2.1,fun x=>(tkV x.1 x.2.1 x.2.2.1,x.2.1,x.2.2.1,()),fun x=>.c (.int .i64 (Zmh (Zaa x.1.2 (Int.toNat x.2.1)) x.2.2.1)),fun _=>[],fun x hx=>Zow x.1 x.2.1 x.2.2.1 hx,Tryz.call62⟩
theorem ZIy (v:ZaE) (i:Int) (n:Int) (hpre:ZcD v):Zam Tryz.prog 23 [.ag (cellsOf ZaV v), .c (.int .i64 i), .c (.int .i64 n)] (.tp [.ag [.row 0 0, .row 1 0, .int .i64 (Zbn v i n).1.2.2, .row 2 0], .c (.int .i64 (Ze7 v i n))]) [.row Zaj (Zbn v i n).1.1 0 0 none, .row Zag (Zbn v i n).1.2.1 0 0 none, .row Zae (Zbn v i n).2 0 0 none]:=by
 refine bc0 [ZhN,ZhW] [] [] [Zox] L0 Tryz.func23 (fun hwf=>?_)
 refine Eq.mpr (β:=T4 (pt (ZcD v)∧T4 (pt (Ze6 v)∧True∧bif !(ZlZ v i) then T3 (pt (((v.1.1=(Zbn v i n).1.1∧v.1.2.1=(Zbn v i n).1.2.1∧cI v.1.2.2 (Zbn v i n).1.2.2∧v.2=(Zbn v i n).2∧True)∧cI 0 (Ze7 v i n)∧True))) else T2 (pt (ZOx v i∧(v.1.1=v.1.1∧v.1.2.1=v.1.2.1∧cI v.1.2.2 v.1.2.2∧v.2=v.2∧True)∧True)∧∀ r0:List ZaM,r0=(tkV v i n).1.1→∀ r1:List Zax,r1=(tkV v i n).1.2.1→∀ r2:List Zad,r2=(tkV v i n).2→T5 (pt (((r0=(Zbn v i n).1.1∧r1=(Zbn v i n).1.2.1∧cI (tkV v i n).1.2.2 (Zbn v i n).1.2.2∧r2=(Zbn v i n).2∧True)∧cI (Zmh (Zaa v.2 i.toNat) n) (Ze7 v i n)∧True))))))) (by kernel_rfl) ?_
 unfold T2 T3 T4 T5
 have hw:=Zh5 hpre
 cases h:ZlZ v i with
 | false =>
  exact ZAR
 | true =>
  have hq:=Zmi.1 h
  have hk:Int.toNat i < List.length v.2:=by omega
  have E:Zbn v i n=tkV v i n:=if_pos h
  have EN:Ze7 v i n=Zmh (Zaa v.2 (Int.toNat i)) n:=if_pos h
  rw [E,EN]
  simp only [h,forall_eq,Bool.true_eq_false,Bool.false_eq_true,false_implies,true_implies,not_true_eq_false,not_false_eq_true,Bool.not_true,Bool.not_false,Bool.and_true,Bool.and_false,Bool.true_and,Bool.false_and,List.length_set,List.set_set,and_true,true_and,and_self,Zbe,Zbl,Zdq,eq_self]
  repeat' (with_reducible first | exact trivial | apply And.intro | intro _)
  all_goals first | omega | (with_reducible rfl) | (with_reducible assumption) | exact hpre | exact hw | (show ZOx _ _; exact ⟨by omega,by omega⟩) | (with_reducible exact ⟨by omega,by omega⟩) | (exfalso; omega) | (exfalso; contradiction)
def ZIz:ZaC Tryz.prog:=⟨23,[.s ZaV, .v Zaz, .v Zaz],fun x=>ZcD x.1,fun x=>.tp [.ag [.row 0 0, .row 1 0, .int .i64 (Zbn x.1 x.2.1 x.2.2.1).1.2.2, .row 2 0], .c (.int .i64 (Ze7 x.1 x.2.1 x.2.2.1))],fun x=>[.row Zaj (Zbn x.1 x.2.1 x.2.2.1).1.1 0 0 none, .row Zag (Zbn x.1 x.2.1 x.2.2.1).1.2.1 0 0 none, .row Zae (Zbn x.1 x.2.1 x.2.2.1).2 0 0 none],fun x hx=>ZIy x.1 x.2.1 x.2.2.1 hx,Tryz.call23⟩
def ZDm (i:Int) (r0:List Zad) (v:ZaE) (n:Int):Prop:=T3 (ix 17 i r0.length∧T2 (∀ r1:List Zad,r1=List.set r0 i.toNat ((Zaa r0 i.toNat).1,(Zaa r0 i.toNat).2.1,(Zaa r0 i.toNat).2.2.1,(Zaa r0 i.toNat).2.2.2.1,(Zaa r0 i.toNat).2.2.2.2.1,(Zaa r0 i.toNat).2.2.2.2.2.1,(Zaa r0 i.toNat).2.2.2.2.2.2.1,(Zaa r0 i.toNat).2.2.2.2.2.2.2.1,(Zaa r0 i.toNat).2.2.2.2.2.2.2.2.1,(Zaa r0 i.toNat).2.2.2.2.2.2.2.2.2.1,(Zaa r0 i.toNat).2.2.2.2.2.2.2.2.2.2.1,0)→T4 (pt (((v.1.1=(Zbn v i n).1.1∧v.1.2.1=(Zbn v i n).1.2.1∧cI v.1.2.2 (Zbn v i n).1.2.2∧r1=(Zbn v i n).2∧True)∧cI (drC (Zaa v.2 i.toNat).2.2.2.2.2.2.2.2.2.2.1 n) (Ze7 v i n)∧True)))))
def ZDn (v:ZaE) (i:Int) (n:Int):Prop:=T3 (pt (((v.1.1=(Zbn v i n).1.1∧v.1.2.1=(Zbn v i n).1.2.1∧cI v.1.2.2 (Zbn v i n).1.2.2∧v.2=(Zbn v i n).2∧True)∧cI 0 (Ze7 v i n)∧True)))
theorem ZIA (v:ZaE) (i:Int) (n:Int) (hpre:ZcD v):Zam Tryz.prog 22 [.ag (cellsOf ZaV v), .c (.int .i64 i), .c (.int .i64 n)] (.tp [.ag [.row 0 0, .row 1 0, .int .i64 (Zbn v i n).1.2.2, .row 2 0], .c (.int .i64 (Ze7 v i n))]) [.row Zaj (Zbn v i n).1.1 0 0 none, .row Zag (Zbn v i n).1.2.1 0 0 none, .row Zae (Zbn v i n).2 0 0 none]:=by
 refine bc0 [Zlo,Zqe,ZDk] [] [] [] L0 Tryz.func22 (fun hwf=>?_)
 refine Eq.mpr (β:=T4 (pt (ZcD v)∧T4 (pt (Ze6 v)∧T2 (bif !(ZlZ v i) then True∧ZDn v i n else T3 (ix 17 i v.2.length∧T4 (bif !(Zaa v.2 i.toNat).1 then ZDn v i n else T3 (ix 17 i v.2.length∧T3 (pt True∧T10 (ix 17 i v.2.length∧T2 (∀ r0:List Zad,r0=List.set v.2 i.toNat ((Zaa v.2 i.toNat).1,(Zaa v.2 i.toNat).2.1,(Zaa v.2 i.toNat).2.2.1,(Zaa v.2 i.toNat).2.2.2.1,(Zaa v.2 i.toNat).2.2.2.2.1,(Zaa v.2 i.toNat).2.2.2.2.2.1,(Zaa v.2 i.toNat).2.2.2.2.2.2.1,(Zaa v.2 i.toNat).2.2.2.2.2.2.2.1,(Zaa v.2 i.toNat).2.2.2.2.2.2.2.2.1,(Zaa v.2 i.toNat).2.2.2.2.2.2.2.2.2.1,(drO (Zaa v.2 i.toNat).2.2.2.2.2.2.2.2.2.2.1 n),(Zaa v.2 i.toNat).2.2.2.2.2.2.2.2.2.2.2)→T3 (bif gtI (drC (Zaa v.2 i.toNat).2.2.2.2.2.2.2.2.2.2.1 n) 0 then True∧ZDm i r0 v n else T4 (bif eqS (drO (Zaa v.2 i.toNat).2.2.2.2.2.2.2.2.2.2.1 n).1 (⟨#[]⟩:ByteArray) then ZDm i r0 v n else T4 (pt (((v.1.1=(Zbn v i n).1.1∧v.1.2.1=(Zbn v i n).1.2.1∧cI v.1.2.2 (Zbn v i n).1.2.2∧r0=(Zbn v i n).2∧True)∧cI (drC (Zaa v.2 i.toNat).2.2.2.2.2.2.2.2.2.2.1 n) (Ze7 v i n)∧True))))))))))))))) (by kernel_rfl) ?_
 unfold ZDn ZDm T10 T2 T3 T4
 have hw:=Zh5 hpre
 cases h:ZlZ v i with
 | false =>
  exact ZAR
 | true =>
  have hq:=Zmi.1 h
  have hk:Int.toNat i < List.length v.2:=by omega
  have E0:Zbn v i n=tkV v i n:=if_pos h
  have EN0:Ze7 v i n=Zmh (Zaa v.2 (Int.toNat i)) n:=if_pos h
  rw [E0,EN0]
  have hN:=fun y=>ZEO (y:=y) hk
  have hge:=ZMf (Zaa v.2 (Int.toNat i)).2.2.2.2.2.2.2.2.2.2.1 n
  cases hl:(Zaa v.2 (Int.toNat i)).1 with
  | false =>
   obtain ⟨E,EN⟩:=ZIw (n:=n) hk hl
   exact ZAJ
  | true =>
   obtain ⟨EN,E⟩:=ZIx (v:=v) (i:=i) (n:=n) hl
   rw [E,EN]
   by_cases hc:drC (Zaa v.2 (Int.toNat i)).2.2.2.2.2.2.2.2.2.2.1 n=0
   ·have c1:neI (drC (Zaa v.2 (Int.toNat i)).2.2.2.2.2.2.2.2.2.2.1 n) 0=false:=Zbs.2 hc
    have c2:gtI (drC (Zaa v.2 (Int.toNat i)).2.2.2.2.2.2.2.2.2.2.1 n) 0=false:=Zeq.2 (by omega)
    by_cases he:(drO (Zaa v.2 (Int.toNat i)).2.2.2.2.2.2.2.2.2.2.1 n).1=(⟨#[]⟩:ByteArray)
    ·have c3:eqS (drO (Zaa v.2 (Int.toNat i)).2.2.2.2.2.2.2.2.2.2.1 n).1 (⟨#[]⟩:ByteArray)=true:=Zbp.2 he
     have c4:Zvk (Zv7 (Zaa v.2 (Int.toNat i)) (drO (Zaa v.2 (Int.toNat i)).2.2.2.2.2.2.2.2.2.2.1 n)) (drC (Zaa v.2 (Int.toNat i)).2.2.2.2.2.2.2.2.2.2.1 n)=ZKK (Zv7 (Zaa v.2 (Int.toNat i)) (drO (Zaa v.2 (Int.toNat i)).2.2.2.2.2.2.2.2.2.2.1 n)) 0:=if_pos (.inr he)
     exact ZAH
    ·have c3:eqS (drO (Zaa v.2 (Int.toNat i)).2.2.2.2.2.2.2.2.2.2.1 n).1 (⟨#[]⟩:ByteArray)=false:=Zbv.2 he
     have c4:Zvk (Zv7 (Zaa v.2 (Int.toNat i)) (drO (Zaa v.2 (Int.toNat i)).2.2.2.2.2.2.2.2.2.2.1 n)) (drC (Zaa v.2 (Int.toNat i)).2.2.2.2.2.2.2.2.2.2.1 n)=Zv7 (Zaa v.2 (Int.toNat i)) (drO (Zaa v.2 (Int.toNat i)).2.2.2.2.2.2.2.2.2.2.1 n):=if_neg (fun q=>q.elim (fun q=>q hc) he)
     exact ZAH
   ·have c1:neI (drC (Zaa v.2 (Int.toNat i)).2.2.2.2.2.2.2.2.2.2.1 n) 0=true:=ZbT.2 hc
    have c2:gtI (drC (Zaa v.2 (Int.toNat i)).2.2.2.2.2.2.2.2.2.2.1 n) 0=true:=gtI_true.2 (by omega)
    have c4:Zvk (Zv7 (Zaa v.2 (Int.toNat i)) (drO (Zaa v.2 (Int.toNat i)).2.2.2.2.2.2.2.2.2.2.1 n)) (drC (Zaa v.2 (Int.toNat i)).2.2.2.2.2.2.2.2.2.2.1 n)=ZKK (Zv7 (Zaa v.2 (Int.toNat i)) (drO (Zaa v.2 (Int.toNat i)).2.2.2.2.2.2.2.2.2.2.1 n)) 0:=if_pos (.inl hc)
    rw [c4]
    simp only [hl,c1,c2,hN,ZKK,Zv7,h,forall_eq,Bool.true_eq_false,Bool.false_eq_true,false_implies,true_implies,not_true_eq_false,not_false_eq_true,Bool.not_true,Bool.not_false,Bool.and_true,Bool.and_false,Bool.true_and,Bool.false_and,List.length_set,List.set_set,and_true,true_and,and_self,Zbe,Zbl,Zdq,eq_self]
    exact Zec
def ZIB:ZaC Tryz.prog:=⟨22,[.s ZaV, .v Zaz, .v Zaz],fun x=>ZcD x.1,fun x=>.tp [.ag [.row 0 0, .row 1 0, .int .i64 (Zbn x.1 x.2.1 x.2.2.1).1.2.2, .row 2 0], .c (.int .i64 (Ze7 x.1 x.2.1 x.2.2.1))],fun x=>[.row Zaj (Zbn x.1 x.2.1 x.2.2.1).1.1 0 0 none, .row Zag (Zbn x.1 x.2.1 x.2.2.1).1.2.1 0 0 none, .row Zae (Zbn x.1 x.2.1 x.2.2.1).2 0 0 none],fun x hx=>ZIA x.1 x.2.1 x.2.2.1 hx,Tryz.call22⟩
end Go.Proofs.YtkompmgleojmlaaGreat
