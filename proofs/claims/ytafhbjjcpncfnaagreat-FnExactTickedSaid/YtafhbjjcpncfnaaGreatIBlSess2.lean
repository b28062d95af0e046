import Derived.Test.YtafhbjjcpncfnaaGreatIBlSess
import Derived.Test.YtafhbjjcpncfnaaGreatIBlSm
set_option linter.unusedSimpArgs false
set_option linter.unusedVariables false
set_option maxRecDepth 100000
set_option maxHeartbeats 4000000
namespace Go.Proofs.YtafhbjjcpncfnaaGreat
open Go.ChangeShapes Go.WideShapes Go.ChangeAt Go.RowKit Go.Joins Go.Deep
open GoRep (rep bulk)
def Zaz (s:Zad):Zad:=(false,0,0,0,[],(false,[]),ByteArray.empty,ByteArray.empty,([],false,false),(ByteArray.empty,false),(ByteArray.empty,s.2.2.2.2.2.2.2.2.2.2.1.2),0)
theorem ZFM (s:Zad):Zao Tryz.prog 50 [.ag (cellsOf Zae s)] (.ag [.bool (Zaz s).1, .int .i64 (Zaz s).2.1, .int .i64 (Zaz s).2.2.1, .int .i64 (Zaz s).2.2.2.1, .row 0 0, .bool (Zaz s).2.2.2.2.2.1.1, .row 1 0, .str (Zaz s).2.2.2.2.2.2.1, .str (Zaz s).2.2.2.2.2.2.2.1, .row 2 0, .bool (Zaz s).2.2.2.2.2.2.2.2.1.2.1, .bool (Zaz s).2.2.2.2.2.2.2.2.1.2.2, .str (Zaz s).2.2.2.2.2.2.2.2.2.1.1, .bool (Zaz s).2.2.2.2.2.2.2.2.2.1.2, .str (Zaz s).2.2.2.2.2.2.2.2.2.2.1.1, .str (Zaz s).2.2.2.2.2.2.2.2.2.2.1.2, .int .i64 (Zaz s).2.2.2.2.2.2.2.2.2.2.2]) [.row Zay (Zaz s).2.2.2.2.1 0 0 none, .row Zak (Zaz s).2.2.2.2.2.1.2 0 0 none, .row Zal (Zaz s).2.2.2.2.2.2.2.2.1.1 0 0 none]:=by
 exact ZAI
def ZFN:ZaE Tryz.prog:=⟨50,[.s Zae],fun x=>True,fun x=>.ag [.bool (Zaz x.1).1, .int .i64 (Zaz x.1).2.1, .int .i64 (Zaz x.1).2.2.1, .int .i64 (Zaz x.1).2.2.2.1, .row 0 0, .bool (Zaz x.1).2.2.2.2.2.1.1, .row 1 0, .str (Zaz x.1).2.2.2.2.2.2.1, .str (Zaz x.1).2.2.2.2.2.2.2.1, .row 2 0, .bool (Zaz x.1).2.2.2.2.2.2.2.2.1.2.1, .bool (Zaz x.1).2.2.2.2.2.2.2.2.1.2.2, .str (Zaz x.1).2.2.2.2.2.2.2.2.2.1.1, .bool (Zaz x.1).2.2.2.2.2.2.2.2.2.1.2, .str (Zaz x.1).2.2.2.2.2.2.2.2.2.2.1.1, .str (Zaz x.1).2.2.2.2.2.2.2.2.2.2.1.2, .int .i64 (Zaz x.1).2.2.2.2.2.2.2.2.2.2.2],fun x=>[.row Zay (Zaz x.1).2.2.2.2.1 0 0 none, .row Zak (Zaz x.1).2.2.2.2.2.1.2 0 0 none, .row Zal (Zaz x.1).2.2.2.2.2.2.2.2.1.1 0 0 none],fun x hx=>ZFM x.1,Tryz.call50⟩
theorem ZFO (s:Zad):Zao Tryz.prog 18 [.ag (cellsOf Zae s)] (.ag [.bool (Zaz s).1, .int .i64 (Zaz s).2.1, .int .i64 (Zaz s).2.2.1, .int .i64 (Zaz s).2.2.2.1, .row 0 0, .bool (Zaz s).2.2.2.2.2.1.1, .row 1 0, .str (Zaz s).2.2.2.2.2.2.1, .str (Zaz s).2.2.2.2.2.2.2.1, .row 2 0, .bool (Zaz s).2.2.2.2.2.2.2.2.1.2.1, .bool (Zaz s).2.2.2.2.2.2.2.2.1.2.2, .str (Zaz s).2.2.2.2.2.2.2.2.2.1.1, .bool (Zaz s).2.2.2.2.2.2.2.2.2.1.2, .str (Zaz s).2.2.2.2.2.2.2.2.2.2.1.1, .str (Zaz s).2.2.2.2.2.2.2.2.2.2.1.2, .int .i64 (Zaz s).2.2.2.2.2.2.2.2.2.2.2]) [.row Zay (Zaz s).2.2.2.2.1 0 0 none, .row Zak (Zaz s).2.2.2.2.2.1.2 0 0 none, .row Zal (Zaz s).2.2.2.2.2.2.2.2.1.1 0 0 none]:=by
 refine bc0 [] [] [] [] L0 Tryz.func18 (fun hwf=>?_)
 exact ZyR
def ZsH:ZaE Tryz.prog:=⟨18,[.s Zae],fun x=>True,fun x=>.ag [.bool (Zaz x.1).1, .int .i64 (Zaz x.1).2.1, .int .i64 (Zaz x.1).2.2.1, .int .i64 (Zaz x.1).2.2.2.1, .row 0 0, .bool (Zaz x.1).2.2.2.2.2.1.1, .row 1 0, .str (Zaz x.1).2.2.2.2.2.2.1, .str (Zaz x.1).2.2.2.2.2.2.2.1, .row 2 0, .bool (Zaz x.1).2.2.2.2.2.2.2.2.1.2.1, .bool (Zaz x.1).2.2.2.2.2.2.2.2.1.2.2, .str (Zaz x.1).2.2.2.2.2.2.2.2.2.1.1, .bool (Zaz x.1).2.2.2.2.2.2.2.2.2.1.2, .str (Zaz x.1).2.2.2.2.2.2.2.2.2.2.1.1, .str (Zaz x.1).2.2.2.2.2.2.2.2.2.2.1.2, .int .i64 (Zaz x.1).2.2.2.2.2.2.2.2.2.2.2],fun x=>[.row Zay (Zaz x.1).2.2.2.2.1 0 0 none, .row Zak (Zaz x.1).2.2.2.2.2.1.2 0 0 none, .row Zal (Zaz x.1).2.2.2.2.2.2.2.2.1.1 0 0 none],fun x hx=>ZFO x.1,Tryz.call18⟩
def noB (s:Zad):Bool:=eqI s.2.2.1 0 && (eqI s.2.2.2.1 0 && (eqI (List.length s.2.2.2.2.1:Int) 0 && (eqS s.2.2.2.2.2.2.1 (⟨#[]⟩:ByteArray) && (!s.2.2.2.2.2.2.2.2.1.2.1 && !List.any s.2.2.2.2.2.2.2.2.1.1 (fun z0:ZaM=>eqI z0.1 1)))))
theorem ZEr {s:Zad} (h1:s.2.2.1=0) (h2:s.2.2.2.1=0) (h3:(List.length s.2.2.2.2.1:Int)=0) (h4:s.2.2.2.2.2.2.1=(⟨#[]⟩:ByteArray)) (h5:s.2.2.2.2.2.2.2.2.1.2.1=false):noB s=!List.any s.2.2.2.2.2.2.2.2.1.1 (fun z0:ZaM=>eqI z0.1 1):=by
 unfold noB
 rw [ZaJ.2 h1,ZaJ.2 h2,ZaJ.2 h3,Zbp.2 h4,h5]
 rfl
def noW (s:Zad):Bool:=noB s && (ZbK s.2.2.2.2.2.1 (false,[]) && ZbV s.2.2.2.2.2.2.2.2.1 ([],false,false))
def stI (s:Zad):Bool:=if s.2.1=1 then noW s else if s.2.1=2 then noB s else if s.2.1=3 then btw s.2.2.1 1 999999999 else if s.2.1=4 then noW s && eqS s.2.2.2.2.2.2.2.1 (⟨#[]⟩:ByteArray) else false
def midI (s:Zad):Bool:=btw s.2.2.2.1 0 300 && (ZdI s.2.2.2.2.1 && (Zcm s.2.2.2.2.2.1 && (Zcg s.2.2.2.2.2.2.2.2.1 && ZAN s.2.2.2.2.2.2.2.2.2.1)))
def endI (s:Zad):Bool:=Zcy s.2.2.2.2.2.2.1 && (Zcy s.2.2.2.2.2.2.2.1 && ((eqS s.2.2.2.2.2.2.1 (⟨#[]⟩:ByteArray) || eqS s.2.2.2.2.2.2.2.1 (⟨#[]⟩:ByteArray)) && (btw s.2.2.2.2.2.2.2.2.2.2.2 0 4 && (eqI s.2.2.2.2.2.2.2.2.2.2.2 0 || !eqS s.2.2.2.2.2.2.2.2.2.2.1.1 (⟨#[]⟩:ByteArray)))))
def Za4 (s:Zad):Bool:=outOk s.2.2.2.2.2.2.2.2.2.2.1 && (if s.1=true then midI s && (endI s && stI s) else Zbi s (Zaz s))
theorem ZkL (s:Zad):Zao Tryz.prog 119 [.ag (cellsOf Zae s)] (.c (.bool (noB s))) []:=by
 refine bc0 [Zgj] [ZeA] [] [] L0 Tryz.func119 (fun hwf=>?_)
 refine Eq.mpr (β:=T6 (bif eqI s.2.2.1 0 then T5 (bif eqI s.2.2.2.1 0 then T7 (bif eqI s.2.2.2.2.1.length 0 then T5 (bif eqS s.2.2.2.2.2.2.1 (⟨#[]⟩:ByteArray) then T6 (bif !s.2.2.2.2.2.2.2.2.1.2.1 then T3 (((∀ z0:ZaM,True∧True)∧∀ (_:ZaM→Bool) (_:List ZaM),true=true)∧T3 (rB (!(List.any s.2.2.2.2.2.2.2.2.1.1 (fun z0:ZaM=>eqI z0.1 1))) (noB s))) else T2 (rB false (noB s))) else T4 (rB false (noB s))) else T6 (rB false (noB s))) else T8 (rB false (noB s))) else T10 (rB false (noB s)))) (by kernel_rfl) ?_
 unfold T10 T2 T3 T4 T5 T6 T7 T8
 simp only [Zeg,eq_self]
 repeat' (first | apply And.intro | intro _)
 all_goals as_aux_lemma=>first
  | trivial
  | omega
  | exact (ZEr (by assumption) (by assumption) (by assumption) (by assumption) (by assumption)).symm
  | (simp_all [noB,ZaJ,ZaS,Zbp,Zbo]; done)
def Zf1:ZaE Tryz.prog:=⟨119,[.s Zae],fun x=>True,fun x=>.c (.bool (noB x.1)),fun _=>[],fun x hx=>ZkL x.1,Tryz.call119⟩
theorem ZiI (s:Zad):Zao Tryz.prog 118 [.ag (cellsOf Zae s)] (.c (.bool (noW s))) []:=by
 refine bc0 [Zf1,ZkX,Zl6] [] [] [] L0 Tryz.func118 (fun hwf=>?_)
 refine Eq.mpr (β:=T3 (pt True∧True∧bif noB s then T3 (pt True∧T2 (bif ZbK s.2.2.2.2.2.1 (false,([]:List ZaW)) then T3 (pt True∧T2 (rB (ZbV s.2.2.2.2.2.2.2.2.1 (([]:List ZaM),false,false)) (noW s))) else T2 (rB false (noW s)))) else T4 (rB false (noW s)))) (by kernel_rfl) ?_
 simp only [Zeg,eq_self]
 repeat' (first | apply And.intro | intro _)
 all_goals as_aux_lemma=>first
  | trivial
  | omega
  | (simp_all [noW]; done)
def ZiJ:ZaE Tryz.prog:=⟨118,[.s Zae],fun x=>True,fun x=>.c (.bool (noW x.1)),fun _=>[],fun x hx=>ZiI x.1,Tryz.call118⟩
def ZCl (s:Zad):Prop:=T4 (bif eqI s.2.1 1 then True∧pt True∧True∧rB (noW s) (Za4 s) else T2 (bif eqI s.2.1 2 then True∧pt True∧True∧rB (noB s) (Za4 s) else T2 (bif eqI s.2.1 3 then T2 (pt True∧True∧rB (btw s.2.2.1 1 999999999) (Za4 s)) else T2 (bif eqI s.2.1 4 then True∧pt True∧True∧bif noW s then T5 (rB (eqS s.2.2.2.2.2.2.2.1 (⟨#[]⟩:ByteArray)) (Za4 s)) else T2 (rB false (Za4 s)) else True∧rB false (Za4 s)))))
def ZCm (s:Zad):Prop:=T2 (pt True∧T3 (bif !(btw s.2.2.2.2.2.2.2.2.2.2.2 0 4) then T2 (rB false (Za4 s)) else T5 (bif eqS s.2.2.2.2.2.2.2.2.2.2.1.1 (⟨#[]⟩:ByteArray) then T5 (bif neI s.2.2.2.2.2.2.2.2.2.2.2 0 then True∧rB false (Za4 s) else ZCl s) else T2 (ZCl s))))
def Zlw (s:Zad):Prop:=T4 (rB false (Za4 s))
theorem Zuw (s:Zad):Zao Tryz.prog 47 [.ag (cellsOf Zae s)] (.c (.bool (Za4 s))) []:=by
 refine bc0 [ZH3,ZFN,ZpV,ZcO,ZFI,ZwS,ZB2,ZJ5,ZpB,ZiJ,Zf1,ZtE] [] [] [] L0 Tryz.func47 (fun hwf=>?_)
 refine Eq.mpr (β:=T4 (pt True∧True∧bif !(outOk s.2.2.2.2.2.2.2.2.2.2.1) then True∧rB false (Za4 s) else T3 (bif !s.1 then pt (true=true)∧T2 (pt True∧(True∧pt (true=true))∧True∧rB (Zbi s (Zaz s)) (Za4 s)) else T2 (pt True∧T2 (bif !(btw s.2.2.2.1 0 300) then T4 (Zlw s) else T2 (pt True∧T3 (bif !(ZdI s.2.2.2.2.1) then T2 (Zlw s) else T2 (pt True∧T3 (bif !(Zcm s.2.2.2.2.2.1) then Zlw s else T2 (pt True∧T3 (bif !(Zcg s.2.2.2.2.2.2.2.2.1) then T2 (rB false (Za4 s)) else T2 (pt True∧T2 (bif !(ZAN s.2.2.2.2.2.2.2.2.2.1) then True∧rB false (Za4 s) else T2 (pt True∧T2 (bif !(Zcy s.2.2.2.2.2.2.1) then T4 (Zlw s) else T2 (pt True∧T3 (bif !(Zcy s.2.2.2.2.2.2.2.1) then T2 (Zlw s) else T4 (bif !eqS s.2.2.2.2.2.2.1 (⟨#[]⟩:ByteArray) then T6 (bif !eqS s.2.2.2.2.2.2.2.1 (⟨#[]⟩:ByteArray) then Zlw s else ZCm s) else T3 (ZCm s))))))))))))))))))) (by kernel_rfl) ?_
 unfold Zlw ZCm ZCl T2 T3 T4 T5 T6
 simp only [Zeg,eq_self]
 repeat' (first | apply And.intro | intro _)
 all_goals as_aux_lemma=>first
  | trivial
  | omega
  | (simp_all [Za4,midI,endI,stI,ZaJ,ZaS,ZbW,Zby,Zbp,Zbo]; done)
def Zux:ZaE Tryz.prog:=⟨47,[.s Zae],fun x=>True,fun x=>.c (.bool (Za4 x.1)),fun _=>[],fun x hx=>Zuw x.1,Tryz.call47⟩
theorem ZJ7 {α:Type} {l:List α}:(List.length l:Int)=0↔l=[]:=by
 constructor
 ·intro h
  exact List.eq_nil_of_length_eq_zero (by omega)
 ·intro h
  rw [h]
  rfl
theorem ZCn {s:Zad}:noW s=true↔s.2.2.1=0∧s.2.2.2.1=0∧s.2.2.2.2.1=[]∧s.2.2.2.2.2.1=(false,[])∧s.2.2.2.2.2.2.1=(⟨#[]⟩:ByteArray)∧s.2.2.2.2.2.2.2.2.1=([],false,false):=by
 unfold noW noB
 simp only [Bool.and_eq_true,ZaJ,Zbp,Bool.not_eq_true',ZJ7,ZeQ,Zfz]
 constructor
 ·rintro ⟨⟨h1,h2,h3,h4,_,_⟩,h7,h8⟩
  exact ⟨h1,h2,h3,h7,h4,h8⟩
 ·rintro ⟨h1,h2,h3,h4,h5,h6⟩
  exact ⟨⟨h1,h2,h3,h5,by rw [h6],by rw [h6]; rfl⟩,h4,h6⟩
theorem ZNi {s:Zad} (h:noW s=true):noB s=true:=by
 unfold noW at h
 exact (Bool.and_eq_true_iff.1 h).1
theorem ZOI {s:Zad} (hl:s.1=true) (h1:s.2.1=1):Zbi s (true,s.2.1,0,0,[],(false,[]),(⟨#[]⟩:ByteArray),s.2.2.2.2.2.2.2.1,([],false,false),s.2.2.2.2.2.2.2.2.2.1,s.2.2.2.2.2.2.2.2.2.2.1,s.2.2.2.2.2.2.2.2.2.2.2)=noW s:=by
 rw [Bool.eq_iff_iff,ZdL,ZCn]
 constructor
 ·intro h
  exact ⟨congrArg (fun z:Zad=>z.2.2.1) h,congrArg (fun z:Zad=>z.2.2.2.1) h,congrArg (fun z:Zad=>z.2.2.2.2.1) h,congrArg (fun z:Zad=>z.2.2.2.2.2.1) h,congrArg (fun z:Zad=>z.2.2.2.2.2.2.1) h,congrArg (fun z:Zad=>z.2.2.2.2.2.2.2.2.1) h⟩
 ·rintro ⟨a1,a2,a3,a4,a5,a6⟩
  refine Prod.ext hl (Prod.ext rfl (Prod.ext a1 (Prod.ext a2 (Prod.ext a3 (Prod.ext a4 (Prod.ext a5 (Prod.ext rfl (Prod.ext a6 rfl))))))))
theorem ZOJ {s:Zad} (hl:s.1=true) (h1:s.2.1=4):Zbi s (true,s.2.1,0,0,[],(false,[]),(⟨#[]⟩:ByteArray),(⟨#[]⟩:ByteArray),([],false,false),s.2.2.2.2.2.2.2.2.2.1,s.2.2.2.2.2.2.2.2.2.2.1,s.2.2.2.2.2.2.2.2.2.2.2)=(noW s && eqS s.2.2.2.2.2.2.2.1 (⟨#[]⟩:ByteArray)):=by
 rw [Bool.eq_iff_iff,ZdL,Bool.and_eq_true,ZCn,Zbp]
 constructor
 ·intro h
  exact ⟨⟨congrArg (fun z:Zad=>z.2.2.1) h,congrArg (fun z:Zad=>z.2.2.2.1) h,congrArg (fun z:Zad=>z.2.2.2.2.1) h,congrArg (fun z:Zad=>z.2.2.2.2.2.1) h,congrArg (fun z:Zad=>z.2.2.2.2.2.2.1) h,congrArg (fun z:Zad=>z.2.2.2.2.2.2.2.2.1) h⟩,congrArg (fun z:Zad=>z.2.2.2.2.2.2.2.1) h⟩
 ·rintro ⟨⟨a1,a2,a3,a4,a5,a6⟩,a7⟩
  refine Prod.ext hl (Prod.ext rfl (Prod.ext a1 (Prod.ext a2 (Prod.ext a3 (Prod.ext a4 (Prod.ext a5 (Prod.ext a7 (Prod.ext a6 rfl))))))))
theorem Zfr (l:List ZaM):(List.length (ZaY l true (List.length l)):Int)=0↔List.any l (fun z0:ZaM=>eqI z0.1 1)=false:=by
 have key:∀ k,k≤List.length l→(List.length (ZaY l true k)=0↔∀ j,j < k→eqI (Zaf l j).1 1=false):=fun k=>by
  induction k with
  | zero=>intro _; exact ⟨fun _ j hj=>absurd hj (Nat.not_lt_zero j),fun _=>rfl⟩
  | succ k ih =>
   intro hk
   have ih:=ih (by omega)
   unfold ZaY
   by_cases h:(Zaf l k).1=1
   ·rw [if_pos (ZaJ.2 h)]
    constructor
    ·intro q; rw [List.length_append,List.length_singleton] at q; omega
    ·intro q; have:=q k (by omega); rw [ZaJ.2 h] at this; cases this
   ·rw [if_neg (by rw [ZaS.2 h]; decide),ih]
    constructor
    ·intro q j hj
     by_cases hjk:j=k
     ·subst hjk; exact ZaS.2 h
     ·exact q j (by omega)
    ·intro q j hj; exact q j (by omega)
 have h1:=key (List.length l) (Nat.le_refl _)
 constructor
 ·intro h
  exact Zie (t:=Zal) (xs:=l) (p:=fun z0:ZaM=>eqI z0.1 1) (fun j hj=>(h1.1 (by omega)) j hj)
 ·intro h
  have:List.length (ZaY l true (List.length l))=0:=h1.2 (fun j hj=>by
   cases he:eqI (Zaf l j).1 1 with
   | false=>rfl
   | true =>
    have h2:List.any l (fun z0:ZaM=>eqI z0.1 1)=true:=ZkA (t:=Zal) (xs:=l) (p:=fun z0:ZaM=>eqI z0.1 1) hj he
    rw [h2] at h
    cases h)
  omega
def ZCo (qu:ZbH) (b:Bool):Nat→List AV→Mem→Zbd
 | 3,tm,M=>⟨Nat,fun y=>(Zcf (Zct tm [(5, .c (.row 1 0)),(6, .c (.int .i64 ((y:Nat):Int)))]) 7 25,Zky M [(1, .row Zal (ZaY qu.1 b y) 0 0 none)]),fun y=>(y≤List.length qu.1),fun y=>(List.length qu.1 - y)⟩
 | _,_,_=>⟨Unit,fun _=>([],[]),fun _=>False,fun _=>0⟩
def Zlx (qu:ZbH):List AC:=[.hs .no Zal qu.1, .bool qu.2.1, .bool qu.2.2]
theorem ZCp (qu:ZbH) (b:Bool) (hpre:List.length qu.1≤rowMax):Zao Tryz.prog 83 [.ag [.hs .no Zal qu.1, .bool qu.2.1, .bool qu.2.2], .c (.bool b)] (.c (.row 0 0)) [.row Zal (ZaY qu.1 b (List.length qu.1)) 0 0 none]:=by
 refine bc0 [] [] [] [] (ZCo qu b) Tryz.func83 (fun hwf=>?_)
 refine Eq.mpr (β:=T5 ((∃ q:Nat,(q≤qu.1.length)∧lxs [.ag (Zlx qu), .c (.bool b), .c (.bp 0 0), .tp [], .c (.raw (.slice none 0 0)), .c (.row 1 0)] (vI 0 q∧TN 25 (lxs [.tp []] True))∧pt (lb (.box (Zlx qu))∧leB (.row Zal ([]:List ZaM) 0 0 none) (.row Zal (ZaY qu.1 b q) 0 0 none)∧True))∧∀ y0:Nat,(y0≤qu.1.length)→T5 (bif ltI y0 qu.1.length then T3 (ix 4 y0 qu.1.length∧T4 (some TypeDesc.bool=some TypeDesc.bool∧bif eqO (eqI (Zaf qu.1 y0).1 1) b then T4 (ix 4 y0 qu.1.length∧T2 ((True∧List.length (ZaY qu.1 b y0) + List.length ([(Zaf qu.1 y0)])≤rowMax)∧T4 (∃ y0' : Nat,(y0'≤qu.1.length)∧(qu.1.length - y0') < (qu.1.length - y0)∧lxs [.ag (Zlx qu), .c (.bool b), .c (.bp 0 0), .tp [], .c (.raw (.slice none 0 0)), .c (.row 1 0)] (vI (w64 ((y0:Int) + 1)) y0'∧TN 25 (lxs [.tp []] True))∧pt (lb (.box (Zlx qu))∧leB (.row Zal (ZaY qu.1 b y0 ++ [(Zaf qu.1 y0)]) 0 0 none) (.row Zal (ZaY qu.1 b y0') 0 0 none)∧True)))) else T3 (∃ y0' : Nat,(y0'≤qu.1.length)∧(qu.1.length - y0') < (qu.1.length - y0)∧lxs [.ag (Zlx qu), .c (.bool b), .c (.bp 0 0), .tp [], .c (.raw (.slice none 0 0)), .c (.row 1 0)] (vI (w64 ((y0:Int) + 1)) y0'∧TN 25 (lxs [.tp []] True))∧pt (lb (.box (Zlx qu))∧leB (.row Zal (ZaY qu.1 b y0) 0 0 none) (.row Zal (ZaY qu.1 b y0') 0 0 none)∧True)))) else T2 (pt ((ZaY qu.1 b y0)=ZaY qu.1 b qu.1.length))))) (by kernel_rfl) ?_
 unfold Zlx T2 T3 T4 T5
 have hm:List.length qu.1≤maxLen:=hwf.1.1.1
 unfold maxLen at hm
 have hpre:List.length qu.1≤rowMax:=hpre
 simp only [Zeg,eq_self]
 refine ⟨⟨0,Nat.zero_le _,rfl,rfl⟩,fun k hk=>⟨fun hlt=>?_,fun hge=>?_⟩⟩
 ·have hl:=Zpw (l:=qu.1) (b:=b) k
  repeat' (first | apply And.intro | intro _)
  all_goals as_aux_lemma=>first
   | trivial
   | omega
   | exact ⟨k + 1,by omega,by omega,Zbs (by unfold maxLen; omega),(if_pos (by assumption)).symm⟩
   | exact ⟨k + 1,by omega,by omega,Zbs (by unfold maxLen; omega),(if_neg (by assumption)).symm⟩
   | (simp only [List.length_singleton]; omega)
 ·obtain rfl:k=List.length qu.1:=by omega
  rfl
def ZeC:ZaE Tryz.prog:=⟨83,[.s Zdv, .v Zi7],fun x=>List.length x.1.1≤rowMax,fun x=>.c (.row 0 0),fun x=>[.row Zal (ZaY x.1.1 x.2.1 (List.length x.1.1)) 0 0 none],fun x hx=>ZCp x.1 x.2.1 hx,Tryz.call83⟩
end Go.Proofs.YtafhbjjcpncfnaaGreat
