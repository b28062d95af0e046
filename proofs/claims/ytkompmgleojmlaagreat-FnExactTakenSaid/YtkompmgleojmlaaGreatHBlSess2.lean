import Derived.Test.YtkompmgleojmlaaGreatHBlSess
import Derived.Test.YtkompmgleojmlaaGreatHBlSm
set_option linter.unusedSimpArgs false
set_option linter.unusedVariables false
set_option maxRecDepth 100000
set_option maxHeartbeats 4000000
namespace Go.Proofs.YtkompmgleojmlaaGreat
open Go.ChangeShapes Go.WideShapes Go.ChangeAt Go.RowKit Go.Joins Go.Deep
open GoRep (rep bulk)
def ZaN (s:Zad):Zad:=(false,0,0,0,[],(false,[]),ByteArray.empty,ByteArray.empty,([],false,false),(ByteArray.empty,false),(ByteArray.empty,s.2.2.2.2.2.2.2.2.2.2.1.2),0)
theorem ZF7 (s:Zad):Zam Tryz.prog 58 [.ag (cellsOf Zae s)] (.ag [.bool (ZaN s).1, .int .i64 (ZaN s).2.1, .int .i64 (ZaN s).2.2.1, .int .i64 (ZaN s).2.2.2.1, .row 0 0, .bool (ZaN s).2.2.2.2.2.1.1, .row 1 0, .str (ZaN s).2.2.2.2.2.2.1, .str (ZaN s).2.2.2.2.2.2.2.1, .row 2 0, .bool (ZaN s).2.2.2.2.2.2.2.2.1.2.1, .bool (ZaN s).2.2.2.2.2.2.2.2.1.2.2, .str (ZaN s).2.2.2.2.2.2.2.2.2.1.1, .bool (ZaN s).2.2.2.2.2.2.2.2.2.1.2, .str (ZaN s).2.2.2.2.2.2.2.2.2.2.1.1, .str (ZaN s).2.2.2.2.2.2.2.2.2.2.1.2, .int .i64 (ZaN s).2.2.2.2.2.2.2.2.2.2.2]) [.row Zay (ZaN s).2.2.2.2.1 0 0 none, .row Zak (ZaN s).2.2.2.2.2.1.2 0 0 none, .row Zal (ZaN s).2.2.2.2.2.2.2.2.1.1 0 0 none]:=by
 refine bc0 [] [] [] [] L0 Tryz.func58 (fun hwf=>?_)
 exact Zy1
def ZsR:ZaC Tryz.prog:=⟨58,[.s Zae],fun x=>True,fun x=>.ag [.bool (ZaN x.1).1, .int .i64 (ZaN x.1).2.1, .int .i64 (ZaN x.1).2.2.1, .int .i64 (ZaN x.1).2.2.2.1, .row 0 0, .bool (ZaN x.1).2.2.2.2.2.1.1, .row 1 0, .str (ZaN x.1).2.2.2.2.2.2.1, .str (ZaN x.1).2.2.2.2.2.2.2.1, .row 2 0, .bool (ZaN x.1).2.2.2.2.2.2.2.2.1.2.1, .bool (ZaN x.1).2.2.2.2.2.2.2.2.1.2.2, .str (ZaN x.1).2.2.2.2.2.2.2.2.2.1.1, .bool (ZaN x.1).2.2.2.2.2.2.2.2.2.1.2, .str (ZaN x.1).2.2.2.2.2.2.2.2.2.2.1.1, .str (ZaN x.1).2.2.2.2.2.2.2.2.2.2.1.2, .int .i64 (ZaN x.1).2.2.2.2.2.2.2.2.2.2.2],fun x=>[.row Zay (ZaN x.1).2.2.2.2.1 0 0 none, .row Zak (ZaN x.1).2.2.2.2.2.1.2 0 0 none, .row Zal (ZaN x.1).2.2.2.2.2.2.2.2.1.1 0 0 none],fun x hx=>ZF7 x.1,Tryz.call58⟩
theorem ZF8 (s:Zad):Zam Tryz.prog 56 [.ag (cellsOf Zae s)] (.ag [.bool (ZaN s).1, .int .i64 (ZaN s).2.1, .int .i64 (ZaN s).2.2.1, .int .i64 (ZaN s).2.2.2.1, .row 0 0, .bool (ZaN s).2.2.2.2.2.1.1, .row 1 0, .str (ZaN s).2.2.2.2.2.2.1, .str (ZaN s).2.2.2.2.2.2.2.1, .row 2 0, .bool (ZaN s).2.2.2.2.2.2.2.2.1.2.1, .bool (ZaN s).2.2.2.2.2.2.2.2.1.2.2, .str (ZaN s).2.2.2.2.2.2.2.2.2.1.1, .bool (ZaN s).2.2.2.2.2.2.2.2.2.1.2, .str (ZaN s).2.2.2.2.2.2.2.2.2.2.1.1, .str (ZaN s).2.2.2.2.2.2.2.2.2.2.1.2, .int .i64 (ZaN s).2.2.2.2.2.2.2.2.2.2.2]) [.row Zay (ZaN s).2.2.2.2.1 0 0 none, .row Zak (ZaN s).2.2.2.2.2.1.2 0 0 none, .row Zal (ZaN s).2.2.2.2.2.2.2.2.1.1 0 0 none]:=by
 refine bc0 [] [] [] [] L0 Tryz.func56 (fun hwf=>?_)
 exact Zy1
def ZsS:ZaC Tryz.prog:=⟨56,[.s Zae],fun x=>True,fun x=>.ag [.bool (ZaN x.1).1, .int .i64 (ZaN x.1).2.1, .int .i64 (ZaN x.1).2.2.1, .int .i64 (ZaN x.1).2.2.2.1, .row 0 0, .bool (ZaN x.1).2.2.2.2.2.1.1, .row 1 0, .str (ZaN x.1).2.2.2.2.2.2.1, .str (ZaN x.1).2.2.2.2.2.2.2.1, .row 2 0, .bool (ZaN x.1).2.2.2.2.2.2.2.2.1.2.1, .bool (ZaN x.1).2.2.2.2.2.2.2.2.1.2.2, .str (ZaN x.1).2.2.2.2.2.2.2.2.2.1.1, .bool (ZaN x.1).2.2.2.2.2.2.2.2.2.1.2, .str (ZaN x.1).2.2.2.2.2.2.2.2.2.2.1.1, .str (ZaN x.1).2.2.2.2.2.2.2.2.2.2.1.2, .int .i64 (ZaN x.1).2.2.2.2.2.2.2.2.2.2.2],fun x=>[.row Zay (ZaN x.1).2.2.2.2.1 0 0 none, .row Zak (ZaN x.1).2.2.2.2.2.1.2 0 0 none, .row Zal (ZaN x.1).2.2.2.2.2.2.2.2.1.1 0 0 none],fun x hx=>ZF8 x.1,Tryz.call56⟩
def noB (s:Zad):Bool:=eqI s.2.2.1 0 && (eqI s.2.2.2.1 0 && (eqI (List.length s.2.2.2.2.1:Int) 0 && (eqS s.2.2.2.2.2.2.1 (⟨#[]⟩:ByteArray) && (!s.2.2.2.2.2.2.2.2.1.2.1 && !List.any s.2.2.2.2.2.2.2.2.1.1 (fun z0:ZaO=>eqI z0.1 1)))))
theorem ZEL {s:Zad} (h1:s.2.2.1=0) (h2:s.2.2.2.1=0) (h3:(List.length s.2.2.2.2.1:Int)=0) (h4:s.2.2.2.2.2.2.1=(⟨#[]⟩:ByteArray)) (h5:s.2.2.2.2.2.2.2.2.1.2.1=false):noB s=!List.any s.2.2.2.2.2.2.2.2.1.1 (fun z0:ZaO=>eqI z0.1 1):=by
 unfold noB
 rw [ZaJ.2 h1,ZaJ.2 h2,ZaJ.2 h3,Zbp.2 h4,h5]
 rfl
def noW (s:Zad):Bool:=noB s && (ZbK s.2.2.2.2.2.1 (false,[]) && ZbY s.2.2.2.2.2.2.2.2.1 ([],false,false))
def stI (s:Zad):Bool:=if s.2.1=1 then noW s else if s.2.1=2 then noB s else if s.2.1=3 then btw s.2.2.1 1 999999999 else if s.2.1=4 then noW s && eqS s.2.2.2.2.2.2.2.1 (⟨#[]⟩:ByteArray) else false
def midI (s:Zad):Bool:=btw s.2.2.2.1 0 300 && (ZdM s.2.2.2.2.1 && (Zcp s.2.2.2.2.2.1 && (Zch s.2.2.2.2.2.2.2.2.1 && ZsQ s.2.2.2.2.2.2.2.2.2.1)))
def endI (s:Zad):Bool:=Zcz s.2.2.2.2.2.2.1 && (Zcz s.2.2.2.2.2.2.2.1 && ((eqS s.2.2.2.2.2.2.1 (⟨#[]⟩:ByteArray) || eqS s.2.2.2.2.2.2.2.1 (⟨#[]⟩:ByteArray)) && (btw s.2.2.2.2.2.2.2.2.2.2.2 0 4 && (eqI s.2.2.2.2.2.2.2.2.2.2.2 0 || !eqS s.2.2.2.2.2.2.2.2.2.2.1.1 (⟨#[]⟩:ByteArray)))))
def Za6 (s:Zad):Bool:=outOk s.2.2.2.2.2.2.2.2.2.2.1 && (if s.1=true then midI s && (endI s && stI s) else Zbk s (ZaN s))
theorem ZkN (s:Zad):Zam Tryz.prog 101 [.ag (cellsOf Zae s)] (.c (.bool (noB s))) []:=by
 refine bc0 [Zgl] [ZeA] [] [] L0 Tryz.func101 (fun hwf=>?_)
 refine Eq.mpr (β:=T6 (bif eqI s.2.2.1 0 then T5 (bif eqI s.2.2.2.1 0 then T7 (bif eqI s.2.2.2.2.1.length 0 then T5 (bif eqS s.2.2.2.2.2.2.1 (⟨#[]⟩:ByteArray) then T6 (bif !s.2.2.2.2.2.2.2.2.1.2.1 then T3 (((∀ z0:ZaO,True∧True)∧∀ (_:ZaO→Bool) (_:List ZaO),true=true)∧T3 (rB (!(List.any s.2.2.2.2.2.2.2.2.1.1 (fun z0:ZaO=>eqI z0.1 1))) (noB s))) else T2 (rB false (noB s))) else T4 (rB false (noB s))) else T6 (rB false (noB s))) else T8 (rB false (noB s))) else T10 (rB false (noB s)))) (by kernel_rfl) ?_
 unfold T10 T2 T3 T4 T5 T6 T7 T8
 simp only [Zdq,eq_self]
 repeat' (first | apply And.intro | intro _)
 all_goals as_aux_lemma=>first
  | trivial
  | omega
  | exact (ZEL (by assumption) (by assumption) (by assumption) (by assumption) (by assumption)).symm
  | (simp_all [noB,ZaJ,ZaT,Zbp,Zbv]; done)
def Zf3:ZaC Tryz.prog:=⟨101,[.s Zae],fun x=>True,fun x=>.c (.bool (noB x.1)),fun _=>[],fun x hx=>ZkN x.1,Tryz.call101⟩
theorem ZiG (s:Zad):Zam Tryz.prog 100 [.ag (cellsOf Zae s)] (.c (.bool (noW s))) []:=by
 refine bc0 [Zf3,ZkZ,Zmd] [] [] [] L0 Tryz.func100 (fun hwf=>?_)
 refine Eq.mpr (β:=T3 (pt True∧True∧bif noB s then T3 (pt True∧T2 (bif ZbK s.2.2.2.2.2.1 (false,([]:List ZaZ)) then T3 (pt True∧T2 (rB (ZbY s.2.2.2.2.2.2.2.2.1 (([]:List ZaO),false,false)) (noW s))) else T2 (rB false (noW s)))) else T4 (rB false (noW s)))) (by kernel_rfl) ?_
 simp only [Zdq,eq_self]
 repeat' (first | apply And.intro | intro _)
 all_goals as_aux_lemma=>first
  | trivial
  | omega
  | (simp_all [noW]; done)
def ZiH:ZaC Tryz.prog:=⟨100,[.s Zae],fun x=>True,fun x=>.c (.bool (noW x.1)),fun _=>[],fun x hx=>ZiG x.1,Tryz.call100⟩
def ZCv (s:Zad):Prop:=T4 (bif eqI s.2.1 1 then True∧pt True∧True∧rB (noW s) (Za6 s) else T2 (bif eqI s.2.1 2 then True∧pt True∧True∧rB (noB s) (Za6 s) else T2 (bif eqI s.2.1 3 then T2 (pt True∧True∧rB (btw s.2.2.1 1 999999999) (Za6 s)) else T2 (bif eqI s.2.1 4 then True∧pt True∧True∧bif noW s then T5 (rB (eqS s.2.2.2.2.2.2.2.1 (⟨#[]⟩:ByteArray)) (Za6 s)) else T2 (rB false (Za6 s)) else True∧rB false (Za6 s)))))
def ZCw (s:Zad):Prop:=T2 (pt True∧T3 (bif !(btw s.2.2.2.2.2.2.2.2.2.2.2 0 4) then T2 (rB false (Za6 s)) else T5 (bif eqS s.2.2.2.2.2.2.2.2.2.2.1.1 (⟨#[]⟩:ByteArray) then T5 (bif neI s.2.2.2.2.2.2.2.2.2.2.2 0 then True∧rB false (Za6 s) else ZCv s) else T2 (ZCv s))))
def Zlx (s:Zad):Prop:=T4 (rB false (Za6 s))
theorem ZuI (s:Zad):Zam Tryz.prog 40 [.ag (cellsOf Zae s)] (.c (.bool (Za6 s))) []:=by
 refine bc0 [ZwZ,ZsR,Zp5,ZcE,ZF3,ZwW,ZCc,ZEK,ZpL,ZiH,Zf3,ZtO] [] [] [] L0 Tryz.func40 (fun hwf=>?_)
 refine Eq.mpr (β:=T4 (pt True∧True∧bif !(outOk s.2.2.2.2.2.2.2.2.2.2.1) then True∧rB false (Za6 s) else T3 (bif !s.1 then pt (true=true)∧T2 (pt True∧(True∧pt (true=true))∧True∧rB (Zbk s (ZaN s)) (Za6 s)) else T2 (pt True∧T2 (bif !(btw s.2.2.2.1 0 300) then T4 (Zlx s) else T2 (pt True∧T3 (bif !(ZdM s.2.2.2.2.1) then T2 (Zlx s) else T2 (pt True∧T3 (bif !(Zcp s.2.2.2.2.2.1) then Zlx s else T2 (pt True∧T3 (bif !(Zch s.2.2.2.2.2.2.2.2.1) then T2 (rB false (Za6 s)) else T2 (pt True∧T2 (bif !(ZsQ s.2.2.2.2.2.2.2.2.2.1) then True∧rB false (Za6 s) else T2 (pt True∧T2 (bif !(Zcz s.2.2.2.2.2.2.1) then T4 (Zlx s) else T2 (pt True∧T3 (bif !(Zcz s.2.2.2.2.2.2.2.1) then T2 (Zlx s) else T4 (bif !eqS s.2.2.2.2.2.2.1 (⟨#[]⟩:ByteArray) then T6 (bif !eqS s.2.2.2.2.2.2.2.1 (⟨#[]⟩:ByteArray) then Zlx s else ZCw s) else T3 (ZCw s))))))))))))))))))) (by kernel_rfl) ?_
 unfold Zlx ZCw ZCv T2 T3 T4 T5 T6
 simp only [Zdq,eq_self]
 repeat' (first | apply And.intro | intro _)
 all_goals as_aux_lemma=>first
  | trivial
  | omega
  | (simp_all [Za6,midI,endI,stI,ZaJ,ZaT,ZbT,Zbs,Zbp,Zbv]; done)
def ZuJ:ZaC Tryz.prog:=⟨40,[.s Zae],fun x=>True,fun x=>.c (.bool (Za6 x.1)),fun _=>[],fun x hx=>ZuI x.1,Tryz.call40⟩
theorem ZKA {α:Type} {l:List α}:(List.length l:Int)=0↔l=[]:=by
 constructor
 ·intro h
  exact List.eq_nil_of_length_eq_zero (by omega)
 ·intro h
  rw [h]
  rfl
theorem ZCx {s:Zad}:noW s=true↔s.2.2.1=0∧s.2.2.2.1=0∧s.2.2.2.2.1=[]∧s.2.2.2.2.2.1=(false,[])∧s.2.2.2.2.2.2.1=(⟨#[]⟩:ByteArray)∧s.2.2.2.2.2.2.2.2.1=([],false,false):=by
 unfold noW noB
 simp only [Bool.and_eq_true,ZaJ,Zbp,Bool.not_eq_true',ZKA,ZeQ,Zfx]
 constructor
 ·rintro ⟨⟨h1,h2,h3,h4,_,_⟩,h7,h8⟩
  exact ⟨h1,h2,h3,h7,h4,h8⟩
 ·rintro ⟨h1,h2,h3,h4,h5,h6⟩
  exact ⟨⟨h1,h2,h3,h5,by rw [h6],by rw [h6]; rfl⟩,h4,h6⟩
theorem ZNL {s:Zad} (h:noW s=true):noB s=true:=by
 unfold noW at h
 exact (Bool.and_eq_true_iff.1 h).1
theorem ZPe {s:Zad} (hl:s.1=true) (h1:s.2.1=1):Zbk s (true,s.2.1,0,0,[],(false,[]),(⟨#[]⟩:ByteArray),s.2.2.2.2.2.2.2.1,([],false,false),s.2.2.2.2.2.2.2.2.2.1,s.2.2.2.2.2.2.2.2.2.2.1,s.2.2.2.2.2.2.2.2.2.2.2)=noW s:=by
 rw [Bool.eq_iff_iff,ZdO,ZCx]
 constructor
 ·intro h
  exact ⟨congrArg (fun z:Zad=>z.2.2.1) h,congrArg (fun z:Zad=>z.2.2.2.1) h,congrArg (fun z:Zad=>z.2.2.2.2.1) h,congrArg (fun z:Zad=>z.2.2.2.2.2.1) h,congrArg (fun z:Zad=>z.2.2.2.2.2.2.1) h,congrArg (fun z:Zad=>z.2.2.2.2.2.2.2.2.1) h⟩
 ·rintro ⟨a1,a2,a3,a4,a5,a6⟩
  refine Prod.ext hl (Prod.ext rfl (Prod.ext a1 (Prod.ext a2 (Prod.ext a3 (Prod.ext a4 (Prod.ext a5 (Prod.ext rfl (Prod.ext a6 rfl))))))))
theorem ZPf {s:Zad} (hl:s.1=true) (h1:s.2.1=4):Zbk s (true,s.2.1,0,0,[],(false,[]),(⟨#[]⟩:ByteArray),(⟨#[]⟩:ByteArray),([],false,false),s.2.2.2.2.2.2.2.2.2.1,s.2.2.2.2.2.2.2.2.2.2.1,s.2.2.2.2.2.2.2.2.2.2.2)=(noW s && eqS s.2.2.2.2.2.2.2.1 (⟨#[]⟩:ByteArray)):=by
 rw [Bool.eq_iff_iff,ZdO,Bool.and_eq_true,ZCx,Zbp]
 constructor
 ·intro h
  exact ⟨⟨congrArg (fun z:Zad=>z.2.2.1) h,congrArg (fun z:Zad=>z.2.2.2.1) h,congrArg (fun z:Zad=>z.2.2.2.2.1) h,congrArg (fun z:Zad=>z.2.2.2.2.2.1) h,congrArg (fun z:Zad=>z.2.2.2.2.2.2.1) h,congrArg (fun z:Zad=>z.2.2.2.2.2.2.2.2.1) h⟩,congrArg (fun z:Zad=>z.2.2.2.2.2.2.2.1) h⟩
 ·rintro ⟨⟨a1,a2,a3,a4,a5,a6⟩,a7⟩
  refine Prod.ext hl (Prod.ext rfl (Prod.ext a1 (Prod.ext a2 (Prod.ext a3 (Prod.ext a4 (Prod.ext a5 (Prod.ext a7 (Prod.ext a6 rfl))))))))
theorem Zfp (l:List ZaO):(List.length (Za0 l true (List.length l)):Int)=0↔List.any l (fun z0:ZaO=>eqI z0.1 1)=false:=by
 have key:∀ k,k≤List.length l→(List.length (Za0 l true k)=0↔∀ j,j < k→eqI (Zaf l j).1 1=false):=fun k=>by
  induction k with
  | zero=>intro _; exact ⟨fun _ j hj=>absurd hj (Nat.not_lt_zero j),fun _=>rfl⟩
  | succ k ih =>
   intro hk
   have ih:=ih (by omega)
   unfold Za0
   by_cases h:(Zaf l k).1=1
   ·rw [if_pos (ZaJ.2 h)]
    constructor
    ·intro q; rw [List.length_append,List.length_singleton] at q; omega
    ·intro q; have:=q k (by omega); rw [ZaJ.2 h] at this; cases this
   ·rw [if_neg (by rw [ZaT.2 h]; decide),ih]
    constructor
    ·intro q j hj
     by_cases hjk:j=k
     ·subst hjk; exact ZaT.2 h
     ·exact q j (by omega)
    ·intro q j hj; exact q j (by omega)
 have h1:=key (List.length l) (Nat.le_refl _)
 constructor
 ·intro h
  exact Zib (t:=Zal) (xs:=l) (p:=fun z0:ZaO=>eqI z0.1 1) (fun j hj=>(h1.1 (by omega)) j hj)
 ·intro h
  have:List.length (Za0 l true (List.length l))=0:=h1.2 (fun j hj=>by
   cases he:eqI (Zaf l j).1 1 with
   | false=>rfl
   | true =>
    have h2:List.any l (fun z0:ZaO=>eqI z0.1 1)=true:=Zkw (t:=Zal) (xs:=l) (p:=fun z0:ZaO=>eqI z0.1 1) hj he
    rw [h2] at h
    cases h)
  omega
def ZCy (qu:ZbH) (b:Bool):Nat→List AV→Mem→Zbj
 | 3,tm,M=>⟨Nat,fun y=>(Zcn (ZcC tm [(5, .c (.row 1 0)),(6, .c (.int .i64 ((y:Nat):Int)))]) 7 25,ZlQ M [(1, .row Zal (Za0 qu.1 b y) 0 0 none)]),fun y=>(y≤List.length qu.1),fun y=>(List.length qu.1 - y)⟩
 | _,_,_=>⟨Unit,fun _=>([],[]),fun _=>False,fun _=>0⟩
def Zly (qu:ZbH):List AC:=[.hs .no Zal qu.1, .bool qu.2.1, .bool qu.2.2]
theorem ZCz (qu:ZbH) (b:Bool) (hpre:List.length qu.1≤rowMax):Zam Tryz.prog 74 [.ag [.hs .no Zal qu.1, .bool qu.2.1, .bool qu.2.2], .c (.bool b)] (.c (.row 0 0)) [.row Zal (Za0 qu.1 b (List.length qu.1)) 0 0 none]:=by
 refine bc0 [] [] [] [] (ZCy qu b) Tryz.func74 (fun hwf=>?_)
 refine Eq.mpr (β:=T5 ((∃ q:Nat,(q≤qu.1.length)∧lxs [.ag (Zly qu), .c (.bool b), .c (.bp 0 0), .tp [], .c (.raw (.slice none 0 0)), .c (.row 1 0)] (vI 0 q∧TN 25 (lxs [.tp []] True))∧pt (lb (.box (Zly qu))∧leB (.row Zal ([]:List ZaO) 0 0 none) (.row Zal (Za0 qu.1 b q) 0 0 none)∧True))∧∀ y0:Nat,(y0≤qu.1.length)→T5 (bif ltI y0 qu.1.length then T3 (ix 4 y0 qu.1.length∧T4 (some TypeDesc.bool=some TypeDesc.bool∧bif eqO (eqI (Zaf qu.1 y0).1 1) b then T4 (ix 4 y0 qu.1.length∧T2 ((True∧List.length (Za0 qu.1 b y0) + List.length ([(Zaf qu.1 y0)])≤rowMax)∧T4 (∃ y0' : Nat,(y0'≤qu.1.length)∧(qu.1.length - y0') < (qu.1.length - y0)∧lxs [.ag (Zly qu), .c (.bool b), .c (.bp 0 0), .tp [], .c (.raw (.slice none 0 0)), .c (.row 1 0)] (vI (w64 ((y0:Int) + 1)) y0'∧TN 25 (lxs [.tp []] True))∧pt (lb (.box (Zly qu))∧leB (.row Zal (Za0 qu.1 b y0 ++ [(Zaf qu.1 y0)]) 0 0 none) (.row Zal (Za0 qu.1 b y0') 0 0 none)∧True)))) else T3 (∃ y0' : Nat,(y0'≤qu.1.length)∧(qu.1.length - y0') < (qu.1.length - y0)∧lxs [.ag (Zly qu), .c (.bool b), .c (.bp 0 0), .tp [], .c (.raw (.slice none 0 0)), .c (.row 1 0)] (vI (w64 ((y0:Int) + 1)) y0'∧TN 25 (lxs [.tp []] True))∧pt (lb (.box (Zly qu))∧leB (.row Zal (Za0 qu.1 b y0) 0 0 none) (.row Zal (Za0 qu.1 b y0') 0 0 none)∧True)))) else T2 (pt ((Za0 qu.1 b y0)=Za0 qu.1 b qu.1.length))))) (by kernel_rfl) ?_
 unfold Zly T2 T3 T4 T5
 have hm:List.length qu.1≤maxLen:=hwf.1.1.1
 unfold maxLen at hm
 have hpre:List.length qu.1≤rowMax:=hpre
 simp only [Zdq,eq_self]
 refine ⟨⟨0,Nat.zero_le _,rfl,rfl⟩,fun k hk=>⟨fun hlt=>?_,fun hge=>?_⟩⟩
 ·have hl:=ZpG (l:=qu.1) (b:=b) k
  repeat' (first | apply And.intro | intro _)
  all_goals as_aux_lemma=>first
   | trivial
   | omega
   | exact ⟨k + 1,by omega,by omega,ZbL (by unfold maxLen; omega),(if_pos (by assumption)).symm⟩
   | exact ⟨k + 1,by omega,by omega,ZbL (by unfold maxLen; omega),(if_neg (by assumption)).symm⟩
   | (simp only [List.length_singleton]; omega)
 ·obtain rfl:k=List.length qu.1:=by omega
  rfl
def ZeC:ZaC Tryz.prog:=⟨74,[.s Zdz, .v Zi5],fun x=>List.length x.1.1≤rowMax,fun x=>.c (.row 0 0),fun x=>[.row Zal (Za0 x.1.1 x.2.1 (List.length x.1.1)) 0 0 none],fun x hx=>ZCz x.1 x.2.1 hx,Tryz.call74⟩
end Go.Proofs.YtkompmgleojmlaaGreat
