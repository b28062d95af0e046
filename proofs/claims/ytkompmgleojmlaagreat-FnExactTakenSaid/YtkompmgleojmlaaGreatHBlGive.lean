import Derived.Test.YtkompmgleojmlaaGreatHBlWorld
set_option linter.unusedSimpArgs false
set_option linter.unusedVariables false
set_option maxRecDepth 100000
set_option maxHeartbeats 4000000
namespace Go.Proofs.YtkompmgleojmlaaGreat
open Go.ChangeShapes Go.WideShapes Go.ChangeAt Go.RowKit Go.Joins Go.Deep
open GoRep (rep bulk)
theorem Zws (x:GIn) (t:ByteArray):Zam Tryz.prog 138 [.ag [.str x.1, .bool x.2], .c (.str t)] (.tp [.ag [.str (ZrV x t).1, .bool (ZrV x t).2], .c (.int .i64 (ZsV x t))]) []:=by
 refine bc0 [ZEK] [] [] [] L0 Tryz.func138 (fun hwf=>?_)
 refine Eq.mpr (β:=T4 (pt True∧True∧bif !(ZsQ x) then T3 (pt (((cS x.1 (ZrV x t).1∧cB x.2 (ZrV x t).2∧True)∧cI 0 (ZsV x t)∧True))) else T6 (IntKind.i64=IntKind.i64∧True∧pt (true=true)∧T4 (((0:Int)≤0∧(0:Int)≤(if ((w64 (600 - (x.1.size:Int))):Int) < (t.size:Int) then w64 (600 - (x.1.size:Int)) else (t.size:Int))∧((if ((w64 (600 - (x.1.size:Int))):Int) < (t.size:Int) then w64 (600 - (x.1.size:Int)) else (t.size:Int)):Int)≤(t.size:Int))∧x.1.size + ByteArray.size (ByteArray.extract t (Int.toNat 0) (Int.toNat (if ((w64 (600 - (x.1.size:Int))):Int) < (t.size:Int) then w64 (600 - (x.1.size:Int)) else (t.size:Int))))≤maxLen∧T6 (pt (((cS (x.1 ++ (ByteArray.extract t (Int.toNat 0) (Int.toNat (if ((w64 (600 - (x.1.size:Int))):Int) < (t.size:Int) then w64 (600 - (x.1.size:Int)) else (t.size:Int))))) (ZrV x t).1∧cB x.2 (ZrV x t).2∧True)∧cI (if ((w64 (600 - (x.1.size:Int))):Int) < (t.size:Int) then w64 (600 - (x.1.size:Int)) else (t.size:Int)) (ZsV x t)∧True))))))) (by kernel_rfl) ?_
 exact ZyP
def Zwt:ZaC Tryz.prog:=⟨138,[.s ZAY, .v ZaW],fun x=>True,fun x=>.tp [.ag [.str (ZrV x.1 x.2.1).1, .bool (ZrV x.1 x.2.1).2], .c (.int .i64 (ZsV x.1 x.2.1))],fun _=>[],fun x hx=>Zws x.1 x.2.1,Tryz.call138⟩
theorem Zwu (x:GIn) (t:ByteArray):Zam Tryz.prog 59 [.ag [.str x.1, .bool x.2], .c (.str t)] (.tp [.ag [.str (ZrV x t).1, .bool (ZrV x t).2], .c (.int .i64 (ZsV x t))]) []:=by
 refine bc0 [Zhr,ZpC] [] [] [] L0 Tryz.func59 (fun hwf=>?_)
 refine Eq.mpr (β:=T4 (pt True∧True∧bif !(ZsQ x) then T3 (pt (((cS x.1 (ZrV x t).1∧cB x.2 (ZrV x t).2∧True)∧cI 0 (ZsV x t)∧True))) else T6 (pt True∧True∧pt (true=true)∧T4 (((0:Int)≤0∧(0:Int)≤min (t.size:Int) (w64 (600 - (x.1.size:Int)))∧(min (t.size:Int) (w64 (600 - (x.1.size:Int))):Int)≤(t.size:Int))∧x.1.size + ByteArray.size (ByteArray.extract t (Int.toNat 0) (Int.toNat (min (t.size:Int) (w64 (600 - (x.1.size:Int))))))≤maxLen∧T6 (pt (((cS (x.1 ++ (ByteArray.extract t (Int.toNat 0) (Int.toNat (min (t.size:Int) (w64 (600 - (x.1.size:Int))))))) (ZrV x t).1∧cB x.2 (ZrV x t).2∧True)∧cI (min (t.size:Int) (w64 (600 - (x.1.size:Int)))) (ZsV x t)∧True))))))) (by kernel_rfl) ?_
 exact ZyP
def Zwv:ZaC Tryz.prog:=⟨59,[.s ZAY, .v ZaW],fun x=>True,fun x=>.tp [.ag [.str (ZrV x.1 x.2.1).1, .bool (ZrV x.1 x.2.1).2], .c (.int .i64 (ZsV x.1 x.2.1))],fun _=>[],fun x hx=>Zwu x.1 x.2.1,Tryz.call59⟩
theorem ZEF {v:ZaE} {i:Int} {t:ByteArray} (hk:Int.toNat i < v.2.length) (h:¬ ((Zaa v.2 (Int.toNat i)).1=true∧¬ (Zaa v.2 (Int.toNat i)).2.1=4)):Zsz v i t=v:=by
 unfold Zsz ZGE
 rw [if_neg h,ZII hk]
theorem Zuh {v:ZaE} {i:Int} {t:ByteArray} (h:¬ ((Zaa v.2 (Int.toNat i)).1=true∧¬ (Zaa v.2 (Int.toNat i)).2.1=4)):Zsy (Zaa v.2 (Int.toNat i)) t=0:=if_neg h
theorem ZHV {v:ZaE} {i:Int} {t:ByteArray} (h:(Zaa v.2 (Int.toNat i)).1=true∧¬ (Zaa v.2 (Int.toNat i)).2.1=4):Zsz v i t=(v.1,List.set v.2 (Int.toNat i) (ZOy (Zaa v.2 (Int.toNat i)) (ZrV (Zaa v.2 (Int.toNat i)).2.2.2.2.2.2.2.2.2.1 t))):=by
 unfold Zsz ZGE
 rw [if_pos h]
theorem ZEG {v:ZaE} {i:Int} {t:ByteArray} (h:(Zaa v.2 (Int.toNat i)).1=true∧¬ (Zaa v.2 (Int.toNat i)).2.1=4):Zsy (Zaa v.2 (Int.toNat i)) t=ZsV (Zaa v.2 (Int.toNat i)).2.2.2.2.2.2.2.2.2.1 t:=if_pos h
def inS (v:ZaE) (i:Int):Prop:=0≤i∧i < (List.length v.2:Int)
def ZBY (v:ZaE) (i:Int) (t:ByteArray):Prop:=True∧pt (((v.1.1=(Zsz v i t).1.1∧v.1.2.1=(Zsz v i t).1.2.1∧cI v.1.2.2 (Zsz v i t).1.2.2∧v.2=(Zsz v i t).2∧True)∧True)∧cI 0 (Zsy (Zaa v.2 i.toNat) t))
theorem Zpj (v:ZaE) (i:Int) (t:ByteArray) (hpre:inS v i):Zet Tryz.prog 60 (Zea 0 [(.m ZaV),(.a (.v Zaz)),(.a (.v ZaW))] (v,i,t,())) (Zh2 0 [(.m ZaV),(.a (.v Zaz)),(.a (.v ZaW))] (v,i,t,())) (Zfm 0 [(.m ZaV),(.a (.v Zaz)),(.a (.v ZaW))] (Zsz v i t,i,t,()) ++ []) (inpM 0 [(.m ZaV),(.a (.v Zaz)),(.a (.v ZaW))]) (.c (.int .i64 (Zsy (Zaa v.2 (Int.toNat i)) t))):=by
 refine Zdy (T:=⟨[Zwt],[],[],[],none,fun _=>[],4,[],[]⟩) (L:=L0) Tryz.func60 rfl rfl rfl (by kernel_rfl) (fun hwf hwm=>?_)
 refine Eq.mpr (β:=T6 (ix 17 i v.2.length∧T7 (bif !(Zaa v.2 i.toNat).1 then True∧ZBY v i t else T6 (bif eqI (Zaa v.2 i.toNat).2.1 4 then ZBY v i t else T5 (pt True∧T11 (∀ r0:List Zad,r0=List.set v.2 i.toNat ((Zaa v.2 i.toNat).1,(Zaa v.2 i.toNat).2.1,(Zaa v.2 i.toNat).2.2.1,(Zaa v.2 i.toNat).2.2.2.1,(Zaa v.2 i.toNat).2.2.2.2.1,(Zaa v.2 i.toNat).2.2.2.2.2.1,(Zaa v.2 i.toNat).2.2.2.2.2.2.1,(Zaa v.2 i.toNat).2.2.2.2.2.2.2.1,(Zaa v.2 i.toNat).2.2.2.2.2.2.2.2.1,(ZrV (Zaa v.2 i.toNat).2.2.2.2.2.2.2.2.2.1 t),(Zaa v.2 i.toNat).2.2.2.2.2.2.2.2.2.2)→T2 (pt (((v.1.1=(Zsz v i t).1.1∧v.1.2.1=(Zsz v i t).1.2.1∧cI v.1.2.2 (Zsz v i t).1.2.2∧r0=(Zsz v i t).2∧True)∧True)∧cI (ZsV (Zaa v.2 i.toNat).2.2.2.2.2.2.2.2.2.1 t) (Zsy (Zaa v.2 i.toNat) t))))))))) (by kernel_rfl) ?_
 unfold ZBY T11 T2 T5 T6 T7
 obtain ⟨hi,hi2⟩:0≤i∧i < (List.length v.2:Int):=hpre
 have hk:Int.toNat i < List.length v.2:=by omega
 have hw:True:=trivial
 cases hl:(Zaa v.2 (Int.toNat i)).1 with
 | false =>
  have E:=ZEF (t:=t) hk (fun q=>by rw [hl] at q; cases q.1)
  have EN:=Zuh (t:=t) (fun q=>by rw [hl] at q; cases q.1)
  exact ZAK
 | true =>
  by_cases h4:(Zaa v.2 (Int.toNat i)).2.1=4
  ·have h4' : eqI (Zaa v.2 (Int.toNat i)).2.1 4=true:=ZaJ.2 h4
   have E:=ZEF (t:=t) hk (fun q=>q.2 h4)
   have EN:=Zuh (t:=t) (fun q=>q.2 h4)
   rw [E,EN]
   simp only [hl,h4',forall_eq,Bool.true_eq_false,Bool.false_eq_true,false_implies,true_implies,not_true_eq_false,not_false_eq_true,Bool.not_true,Bool.not_false,Bool.and_true,Bool.and_false,Bool.true_and,Bool.false_and,List.length_set,List.set_set,and_true,true_and,and_self,Zbe,Zbl,Zdq,eq_self]
   exact Zec
  ·have h4' : eqI (Zaa v.2 (Int.toNat i)).2.1 4=false:=ZaT.2 h4
   have E:=ZHV (t:=t) ⟨hl,h4⟩
   have EN:=ZEG (t:=t) ⟨hl,h4⟩
   rw [E,EN]
   simp only [hl,h4',ZOy,forall_eq,Bool.true_eq_false,Bool.false_eq_true,false_implies,true_implies,not_true_eq_false,not_false_eq_true,Bool.not_true,Bool.not_false,Bool.and_true,Bool.and_false,Bool.true_and,Bool.false_and,List.length_set,List.set_set,and_true,true_and,and_self,Zbe,Zbl,Zdq,eq_self]
   exact Zec
def Zpk:Zdj Tryz.prog:=⟨60,[(.m ZaV),(.a (.v Zaz)),(.a (.v ZaW))],fun x=>inS x.1 x.2.1,fun x=>(Zsz x.1 x.2.1 x.2.2.1,x.2.1,x.2.2.1,()),fun x=>.c (.int .i64 (Zsy (Zaa x.1.2 (Int.toNat x.2.1)) x.2.2.1)),fun _=>[],fun x hx=>Zpj x.1 x.2.1 x.2.2.1 hx,Tryz.call60⟩
theorem ZHW (v:ZaE) (i:Int) (t:ByteArray) (hpre:ZcD v):Zam Tryz.prog 21 [.ag (cellsOf ZaV v), .c (.int .i64 i), .c (.str t)] (.tp [.ag [.row 0 0, .row 1 0, .int .i64 (Zbq v i t).1.2.2, .row 2 0], .c (.int .i64 (ZfD v i t))]) [.row Zaj (Zbq v i t).1.1 0 0 none, .row Zag (Zbq v i t).1.2.1 0 0 none, .row Zae (Zbq v i t).2 0 0 none]:=by
 refine bc0 [ZhN,ZhW] [] [] [Zpk] L0 Tryz.func21 (fun hwf=>?_)
 refine Eq.mpr (β:=T4 (pt (ZcD v)∧T4 (pt (Ze6 v)∧True∧bif !(ZlZ v i) then T3 (pt (((v.1.1=(Zbq v i t).1.1∧v.1.2.1=(Zbq v i t).1.2.1∧cI v.1.2.2 (Zbq v i t).1.2.2∧v.2=(Zbq v i t).2∧True)∧cI 0 (ZfD v i t)∧True))) else T2 (pt (inS v i∧(v.1.1=v.1.1∧v.1.2.1=v.1.2.1∧cI v.1.2.2 v.1.2.2∧v.2=v.2∧True)∧True)∧∀ r0:List ZaM,r0=(Zsz v i t).1.1→∀ r1:List Zax,r1=(Zsz v i t).1.2.1→∀ r2:List Zad,r2=(Zsz v i t).2→T5 (pt (((r0=(Zbq v i t).1.1∧r1=(Zbq v i t).1.2.1∧cI (Zsz v i t).1.2.2 (Zbq v i t).1.2.2∧r2=(Zbq v i t).2∧True)∧cI (Zsy (Zaa v.2 i.toNat) t) (ZfD v i t)∧True))))))) (by kernel_rfl) ?_
 unfold T2 T3 T4 T5
 have hw:=Zh5 hpre
 cases h:ZlZ v i with
 | false =>
  exact ZAQ
 | true =>
  have hq:=Zmi.1 h
  have hk:Int.toNat i < List.length v.2:=by omega
  have E:Zbq v i t=Zsz v i t:=if_pos h
  have EN:ZfD v i t=Zsy (Zaa v.2 (Int.toNat i)) t:=if_pos h
  rw [E,EN]
  simp only [h,forall_eq,Bool.true_eq_false,Bool.false_eq_true,false_implies,true_implies,not_true_eq_false,not_false_eq_true,Bool.not_true,Bool.not_false,Bool.and_true,Bool.and_false,Bool.true_and,Bool.false_and,List.length_set,List.set_set,and_true,true_and,and_self,Zbe,Zbl,Zdq,eq_self]
  repeat' (with_reducible first | exact trivial | apply And.intro | intro _)
  all_goals first | omega | (with_reducible rfl) | (with_reducible assumption) | exact hpre | exact hw | (show inS _ _; exact ⟨by omega,by omega⟩) | (with_reducible exact ⟨by omega,by omega⟩) | (exfalso; omega) | (exfalso; contradiction)
def ZHX:ZaC Tryz.prog:=⟨21,[.s ZaV, .v Zaz, .v ZaW],fun x=>ZcD x.1,fun x=>.tp [.ag [.row 0 0, .row 1 0, .int .i64 (Zbq x.1 x.2.1 x.2.2.1).1.2.2, .row 2 0], .c (.int .i64 (ZfD x.1 x.2.1 x.2.2.1))],fun x=>[.row Zaj (Zbq x.1 x.2.1 x.2.2.1).1.1 0 0 none, .row Zag (Zbq x.1 x.2.1 x.2.2.1).1.2.1 0 0 none, .row Zae (Zbq x.1 x.2.1 x.2.2.1).2 0 0 none],fun x hx=>ZHW x.1 x.2.1 x.2.2.1 hx,Tryz.call21⟩
def Zui (v:ZaE) (i:Int) (t:ByteArray):Prop:=T3 (pt (((v.1.1=(Zbq v i t).1.1∧v.1.2.1=(Zbq v i t).1.2.1∧cI v.1.2.2 (Zbq v i t).1.2.2∧v.2=(Zbq v i t).2∧True)∧cI 0 (ZfD v i t)∧True)))
def Zpl (i:Int) (v:ZaE):Prop:=ix 17 i v.2.length
theorem ZHY (v:ZaE) (i:Int) (t:ByteArray) (hpre:ZcD v):Zam Tryz.prog 20 [.ag (cellsOf ZaV v), .c (.int .i64 i), .c (.str t)] (.tp [.ag [.row 0 0, .row 1 0, .int .i64 (Zbq v i t).1.2.2, .row 2 0], .c (.int .i64 (ZfD v i t))]) [.row Zaj (Zbq v i t).1.1 0 0 none, .row Zag (Zbq v i t).1.2.1 0 0 none, .row Zae (Zbq v i t).2 0 0 none]:=by
 refine bc0 [Zlo,Zqe,Zwv] [] [] [] L0 Tryz.func20 (fun hwf=>?_)
 refine Eq.mpr (β:=T4 (pt (ZcD v)∧T4 (pt (Ze6 v)∧T2 (bif !(ZlZ v i) then T3 (Zui v i t) else T3 (Zpl i v∧T5 (bif !(Zaa v.2 i.toNat).1 then True∧Zui v i t else T3 (Zpl i v∧T4 (bif eqI (Zaa v.2 i.toNat).2.1 4 then Zui v i t else T3 (Zpl i v∧T3 (pt True∧T10 (Zpl i v∧T2 (∀ r0:List Zad,r0=List.set v.2 i.toNat ((Zaa v.2 i.toNat).1,(Zaa v.2 i.toNat).2.1,(Zaa v.2 i.toNat).2.2.1,(Zaa v.2 i.toNat).2.2.2.1,(Zaa v.2 i.toNat).2.2.2.2.1,(Zaa v.2 i.toNat).2.2.2.2.2.1,(Zaa v.2 i.toNat).2.2.2.2.2.2.1,(Zaa v.2 i.toNat).2.2.2.2.2.2.2.1,(Zaa v.2 i.toNat).2.2.2.2.2.2.2.2.1,(ZrV (Zaa v.2 i.toNat).2.2.2.2.2.2.2.2.2.1 t),(Zaa v.2 i.toNat).2.2.2.2.2.2.2.2.2.2)→T4 (pt (((v.1.1=(Zbq v i t).1.1∧v.1.2.1=(Zbq v i t).1.2.1∧cI v.1.2.2 (Zbq v i t).1.2.2∧r0=(Zbq v i t).2∧True)∧cI (ZsV (Zaa v.2 i.toNat).2.2.2.2.2.2.2.2.2.1 t) (ZfD v i t)∧True))))))))))))))) (by kernel_rfl) ?_
 unfold Zpl Zui T10 T2 T3 T4 T5
 have hw:=Zh5 hpre
 cases h:ZlZ v i with
 | false =>
  exact ZAQ
 | true =>
  have hq:=Zmi.1 h
  have hk:Int.toNat i < List.length v.2:=by omega
  have E0:Zbq v i t=Zsz v i t:=if_pos h
  have EN0:ZfD v i t=Zsy (Zaa v.2 (Int.toNat i)) t:=if_pos h
  rw [E0,EN0]
  cases hl:(Zaa v.2 (Int.toNat i)).1 with
  | false =>
   have E:=ZEF (t:=t) hk (fun q=>by rw [hl] at q; cases q.1)
   have EN:=Zuh (t:=t) (fun q=>by rw [hl] at q; cases q.1)
   exact ZAJ
  | true =>
   by_cases h4:(Zaa v.2 (Int.toNat i)).2.1=4
   ·have h4' : eqI (Zaa v.2 (Int.toNat i)).2.1 4=true:=ZaJ.2 h4
    have E:=ZEF (t:=t) hk (fun q=>q.2 h4)
    have EN:=Zuh (t:=t) (fun q=>q.2 h4)
    rw [E,EN]
    simp only [hl,h4',h,forall_eq,Bool.true_eq_false,Bool.false_eq_true,false_implies,true_implies,not_true_eq_false,not_false_eq_true,Bool.not_true,Bool.not_false,Bool.and_true,Bool.and_false,Bool.true_and,Bool.false_and,List.length_set,List.set_set,and_true,true_and,and_self,Zbe,Zbl,Zdq,eq_self]
    exact Zec
   ·have h4' : eqI (Zaa v.2 (Int.toNat i)).2.1 4=false:=ZaT.2 h4
    have E:=ZHV (t:=t) ⟨hl,h4⟩
    have EN:=ZEG (t:=t) ⟨hl,h4⟩
    rw [E,EN]
    simp only [hl,h4',h,ZOy,forall_eq,Bool.true_eq_false,Bool.false_eq_true,false_implies,true_implies,not_true_eq_false,not_false_eq_true,Bool.not_true,Bool.not_false,Bool.and_true,Bool.and_false,Bool.true_and,Bool.false_and,List.length_set,List.set_set,and_true,true_and,and_self,Zbe,Zbl,Zdq,eq_self]
    exact Zec
def ZHZ:ZaC Tryz.prog:=⟨20,[.s ZaV, .v Zaz, .v ZaW],fun x=>ZcD x.1,fun x=>.tp [.ag [.row 0 0, .row 1 0, .int .i64 (Zbq x.1 x.2.1 x.2.2.1).1.2.2, .row 2 0], .c (.int .i64 (ZfD x.1 x.2.1 x.2.2.1))],fun x=>[.row Zaj (Zbq x.1 x.2.1 x.2.2.1).1.1 0 0 none, .row Zag (Zbq x.1 x.2.1 x.2.2.1).1.2.1 0 0 none, .row Zae (Zbq x.1 x.2.1 x.2.2.1).2 0 0 none],fun x hx=>ZHY x.1 x.2.1 x.2.2.1 hx,Tryz.call20⟩
end Go.Proofs.YtkompmgleojmlaaGreat
