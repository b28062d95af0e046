import Derived.Test.YtkompmgleojmlaaGreatDBlSess
import Derived.Test.YtkompmgleojmlaaGreatDBlSm
set_option linter.unusedSimpArgs false
set_option linter.unusedVariables false
set_option maxRecDepth 100000
set_option maxHeartbeats 4000000
namespace Go.Proofs.YtkompmgleojmlaaGreat
open Go.ChangeShapes Go.WideShapes Go.ChangeAt Go.RowKit Go.Joins Go.Deep
open GoRep (rep bulk)
def Zax (s:Zac):Zac:=(false,0,0,0,[],(false,[]),ByteArray.empty,ByteArray.empty,([],false,false),(ByteArray.empty,false),(ByteArray.empty,s.2.2.2.2.2.2.2.2.2.2.1.2),0)
theorem ZBc (s:Zac):Zai Tryz.prog 58 [.ag (cellsOf Zag s)] (.ag [.bool (Zax s).1, .int .i64 (Zax s).2.1, .int .i64 (Zax s).2.2.1, .int .i64 (Zax s).2.2.2.1, .row 0 0, .bool (Zax s).2.2.2.2.2.1.1, .row 1 0, .str (Zax s).2.2.2.2.2.2.1, .str (Zax s).2.2.2.2.2.2.2.1, .row 2 0, .bool (Zax s).2.2.2.2.2.2.2.2.1.2.1, .bool (Zax s).2.2.2.2.2.2.2.2.1.2.2, .str (Zax s).2.2.2.2.2.2.2.2.2.1.1, .bool (Zax s).2.2.2.2.2.2.2.2.2.1.2, .str (Zax s).2.2.2.2.2.2.2.2.2.2.1.1, .str (Zax s).2.2.2.2.2.2.2.2.2.2.1.2, .int .i64 (Zax s).2.2.2.2.2.2.2.2.2.2.2]) [.row Zal (Zax s).2.2.2.2.1 0 0 none, .row Zak (Zax s).2.2.2.2.2.1.2 0 0 none, .row Zah (Zax s).2.2.2.2.2.2.2.2.1.1 0 0 none]:=by
  refine bc0 [] [] [] [] L0 Tryz.func58 (fun hwf=>?_)
  exact ZuY
def ZBd:Zat Tryz.prog:=⟨58,[.s Zag],fun x=>True,fun x=>.ag [.bool (Zax x.1).1, .int .i64 (Zax x.1).2.1, .int .i64 (Zax x.1).2.2.1, .int .i64 (Zax x.1).2.2.2.1, .row 0 0, .bool (Zax x.1).2.2.2.2.2.1.1, .row 1 0, .str (Zax x.1).2.2.2.2.2.2.1, .str (Zax x.1).2.2.2.2.2.2.2.1, .row 2 0, .bool (Zax x.1).2.2.2.2.2.2.2.2.1.2.1, .bool (Zax x.1).2.2.2.2.2.2.2.2.1.2.2, .str (Zax x.1).2.2.2.2.2.2.2.2.2.1.1, .bool (Zax x.1).2.2.2.2.2.2.2.2.2.1.2, .str (Zax x.1).2.2.2.2.2.2.2.2.2.2.1.1, .str (Zax x.1).2.2.2.2.2.2.2.2.2.2.1.2, .int .i64 (Zax x.1).2.2.2.2.2.2.2.2.2.2.2],fun x=>[.row Zal (Zax x.1).2.2.2.2.1 0 0 none, .row Zak (Zax x.1).2.2.2.2.2.1.2 0 0 none, .row Zah (Zax x.1).2.2.2.2.2.2.2.2.1.1 0 0 none],fun x hx=>ZBc x.1,Tryz.call58⟩
theorem ZBe (s:Zac):Zai Tryz.prog 56 [.ag (cellsOf Zag s)] (.ag [.bool (Zax s).1, .int .i64 (Zax s).2.1, .int .i64 (Zax s).2.2.1, .int .i64 (Zax s).2.2.2.1, .row 0 0, .bool (Zax s).2.2.2.2.2.1.1, .row 1 0, .str (Zax s).2.2.2.2.2.2.1, .str (Zax s).2.2.2.2.2.2.2.1, .row 2 0, .bool (Zax s).2.2.2.2.2.2.2.2.1.2.1, .bool (Zax s).2.2.2.2.2.2.2.2.1.2.2, .str (Zax s).2.2.2.2.2.2.2.2.2.1.1, .bool (Zax s).2.2.2.2.2.2.2.2.2.1.2, .str (Zax s).2.2.2.2.2.2.2.2.2.2.1.1, .str (Zax s).2.2.2.2.2.2.2.2.2.2.1.2, .int .i64 (Zax s).2.2.2.2.2.2.2.2.2.2.2]) [.row Zal (Zax s).2.2.2.2.1 0 0 none, .row Zak (Zax s).2.2.2.2.2.1.2 0 0 none, .row Zah (Zax s).2.2.2.2.2.2.2.2.1.1 0 0 none]:=by
  refine bc0 [] [] [] [] L0 Tryz.func56 (fun hwf=>?_)
  exact ZuY
def ZBf:Zat Tryz.prog:=⟨56,[.s Zag],fun x=>True,fun x=>.ag [.bool (Zax x.1).1, .int .i64 (Zax x.1).2.1, .int .i64 (Zax x.1).2.2.1, .int .i64 (Zax x.1).2.2.2.1, .row 0 0, .bool (Zax x.1).2.2.2.2.2.1.1, .row 1 0, .str (Zax x.1).2.2.2.2.2.2.1, .str (Zax x.1).2.2.2.2.2.2.2.1, .row 2 0, .bool (Zax x.1).2.2.2.2.2.2.2.2.1.2.1, .bool (Zax x.1).2.2.2.2.2.2.2.2.1.2.2, .str (Zax x.1).2.2.2.2.2.2.2.2.2.1.1, .bool (Zax x.1).2.2.2.2.2.2.2.2.2.1.2, .str (Zax x.1).2.2.2.2.2.2.2.2.2.2.1.1, .str (Zax x.1).2.2.2.2.2.2.2.2.2.2.1.2, .int .i64 (Zax x.1).2.2.2.2.2.2.2.2.2.2.2],fun x=>[.row Zal (Zax x.1).2.2.2.2.1 0 0 none, .row Zak (Zax x.1).2.2.2.2.2.1.2 0 0 none, .row Zah (Zax x.1).2.2.2.2.2.2.2.2.1.1 0 0 none],fun x hx=>ZBe x.1,Tryz.call56⟩
def noB (s:Zac):Bool:=eqI s.2.2.1 0 && (eqI s.2.2.2.1 0 && (eqI ((List.length s.2.2.2.2.1:Nat):Int) 0 && (eqS s.2.2.2.2.2.2.1 (⟨#[]⟩:ByteArray) && (!s.2.2.2.2.2.2.2.2.1.2.1 && !List.any s.2.2.2.2.2.2.2.2.1.1 (fun z0:Zaz=>eqI z0.1 1)))))
theorem ZzX {s:Zac} (h1:s.2.2.1=0) (h2:s.2.2.2.1=0) (h3:((List.length s.2.2.2.2.1:Nat):Int)=0) (h4:s.2.2.2.2.2.2.1=(⟨#[]⟩:ByteArray)) (h5:s.2.2.2.2.2.2.2.2.1.2.1=false):noB s=!List.any s.2.2.2.2.2.2.2.2.1.1 (fun z0:Zaz=>eqI z0.1 1):=by
  unfold noB
  rw [Zao.2 h1,Zao.2 h2,Zao.2 h3,ZaU.2 h4,h5]
  rfl
def noW (s:Zac):Bool:=noB s && (Za5 s.2.2.2.2.2.1 (false,[]) && Zbf s.2.2.2.2.2.2.2.2.1 ([],false,false))
def stI (s:Zac):Bool:=if s.2.1=1 then noW s else if s.2.1=2 then noB s else if s.2.1=3 then btw s.2.2.1 1 999999999 else if s.2.1=4 then noW s && eqS s.2.2.2.2.2.2.2.1 (⟨#[]⟩:ByteArray) else false
def midI (s:Zac):Bool:=btw s.2.2.2.1 0 300 && (ZcM s.2.2.2.2.1 && (ZbC s.2.2.2.2.2.1 && (Zbw s.2.2.2.2.2.2.2.2.1 && ZwC s.2.2.2.2.2.2.2.2.2.1)))
def endI (s:Zac):Bool:=ZbK s.2.2.2.2.2.2.1 && (ZbK s.2.2.2.2.2.2.2.1 && ((eqS s.2.2.2.2.2.2.1 (⟨#[]⟩:ByteArray) || eqS s.2.2.2.2.2.2.2.1 (⟨#[]⟩:ByteArray)) && (btw s.2.2.2.2.2.2.2.2.2.2.2 0 4 && (eqI s.2.2.2.2.2.2.2.2.2.2.2 0 || !eqS s.2.2.2.2.2.2.2.2.2.2.1.1 (⟨#[]⟩:ByteArray)))))
def ZaG (s:Zac):Bool:=outOk s.2.2.2.2.2.2.2.2.2.2.1 && (if s.1=true then midI s && (endI s && stI s) else ZaQ s (Zax s))
theorem ZiS (s:Zac):Zai Tryz.prog 101 [.ag (cellsOf Zag s)] (.c (.bool (noB s))) []:=by
  refine bc0 [ZeP] [Zdt] [] [] L0 Tryz.func101 (fun hwf=>?_)
  refine Eq.mpr (β:=(T6 (bif (eqI s.2.2.1 0) then (T5 (bif (eqI s.2.2.2.1 0) then (T7 (bif (eqI (List.length s.2.2.2.2.1) 0) then (T5 (bif (eqS s.2.2.2.2.2.2.1 (⟨#[]⟩:ByteArray)) then (T6 (bif (!s.2.2.2.2.2.2.2.2.1.2.1) then (T3 (((∀ z0:Zaz,True∧True)∧∀ (_:Zaz→Bool) (_:List Zaz),true=true)∧(T3 (rB (!(List.any s.2.2.2.2.2.2.2.2.1.1 (fun z0:Zaz=>eqI z0.1 1))) (noB s))))) else (T2 (rB false (noB s))))) else (T4 (rB false (noB s))))) else (T6 (rB false (noB s))))) else (T8 (rB false (noB s))))) else (T10 (rB false (noB s)))))) (by kernel_rfl) ?_
  unfold T10 T2 T3 T4 T5 T6 T7 T8
  simp only [Zdy,eq_self]
  repeat' (first | apply And.intro | intro _)
  all_goals as_aux_lemma=>first
    | trivial
    | omega
    | exact (ZzX (by assumption) (by assumption) (by assumption) (by assumption) (by assumption)).symm
    | (simp_all [noB,Zao,ZaB,ZaU,Za1]; done)
def ZeD:Zat Tryz.prog:=⟨101,[.s Zag],fun x=>True,fun x=>.c (.bool (noB x.1)),fun _=>[],fun x hx=>ZiS x.1,Tryz.call101⟩
theorem ZgT (s:Zac):Zai Tryz.prog 100 [.ag (cellsOf Zag s)] (.c (.bool (noW s))) []:=by
  refine bc0 [ZeD,Zi1,Zj6] [] [] [] L0 Tryz.func100 (fun hwf=>?_)
  refine Eq.mpr (β:=(T3 ((pt True)∧(True∧(bif noB s then (T3 ((pt True)∧(T2 (bif Za5 s.2.2.2.2.2.1 (false,([]:List ZaK)) then (T3 ((pt True)∧(T2 (rB (Zbf s.2.2.2.2.2.2.2.2.1 (([]:List Zaz),(false,false))) (noW s))))) else (T2 (rB false (noW s))))))) else (T4 (rB false (noW s)))))))) (by kernel_rfl) ?_
  simp only [Zdy,eq_self]
  repeat' (first | apply And.intro | intro _)
  all_goals as_aux_lemma=>first
    | trivial
    | omega
    | (simp_all [noW]; done)
def ZgU:Zat Tryz.prog:=⟨100,[.s Zag],fun x=>True,fun x=>.c (.bool (noW x.1)),fun _=>[],fun x hx=>ZgT x.1,Tryz.call100⟩
def ZxZ (s:Zac):Prop:=(T4 (bif (eqI s.2.1 1) then (True∧((pt True)∧(True∧(rB (noW s) (ZaG s))))) else (T2 (bif (eqI s.2.1 2) then (True∧((pt True)∧(True∧(rB (noB s) (ZaG s))))) else (T2 (bif (eqI s.2.1 3) then (T2 ((pt True)∧(True∧(rB (btw s.2.2.1 1 999999999) (ZaG s))))) else (T2 (bif (eqI s.2.1 4) then (True∧((pt True)∧(True∧(bif noW s then (T5 (rB (eqS s.2.2.2.2.2.2.2.1 (⟨#[]⟩:ByteArray)) (ZaG s))) else (T2 (rB false (ZaG s))))))) else (True∧(rB false (ZaG s)))))))))))
def Zx0 (s:Zac):Prop:=(T2 ((pt True)∧(T3 (bif (!(btw s.2.2.2.2.2.2.2.2.2.2.2 0 4)) then (T2 (rB false (ZaG s))) else (T5 (bif (eqS s.2.2.2.2.2.2.2.2.2.2.1.1 (⟨#[]⟩:ByteArray)) then (T5 (bif (neI s.2.2.2.2.2.2.2.2.2.2.2 0) then (True∧(rB false (ZaG s))) else (ZxZ s))) else (T2 (ZxZ s))))))))
def Zjv (s:Zac):Prop:=(T4 (rB false (ZaG s)))
theorem Zq9 (s:Zac):Zai Tryz.prog 40 [.ag (cellsOf Zag s)] (.c (.bool (ZaG s))) []:=by
  refine bc0 [ZDg,ZBd,Zni,Zb0,ZA8,Zs3,ZxG,ZFk,ZmY,ZgU,ZeD,ZqD] [] [] [] L0 Tryz.func40 (fun hwf=>?_)
  refine Eq.mpr (β:=(T4 ((pt True)∧(True∧(bif (!(outOk s.2.2.2.2.2.2.2.2.2.2.1)) then (True∧(rB false (ZaG s))) else (T3 (bif (!s.1) then ((pt (true=true))∧(T2 ((pt True)∧((True∧pt (true=true))∧(True∧(rB (ZaQ s (Zax s)) (ZaG s))))))) else (T2 ((pt True)∧(T2 (bif (!(btw s.2.2.2.1 0 300)) then (T4 (Zjv s)) else (T2 ((pt True)∧(T3 (bif (!(ZcM s.2.2.2.2.1)) then (T2 (Zjv s)) else (T2 ((pt True)∧(T3 (bif (!(ZbC s.2.2.2.2.2.1)) then (Zjv s) else (T2 ((pt True)∧(T3 (bif (!(Zbw s.2.2.2.2.2.2.2.2.1)) then (T2 (rB false (ZaG s))) else (T2 ((pt True)∧(T2 (bif (!(ZwC s.2.2.2.2.2.2.2.2.2.1)) then (True∧(rB false (ZaG s))) else (T2 ((pt True)∧(T2 (bif (!(ZbK s.2.2.2.2.2.2.1)) then (T4 (Zjv s)) else (T2 ((pt True)∧(T3 (bif (!(ZbK s.2.2.2.2.2.2.2.1)) then (T2 (Zjv s)) else (T4 (bif (!eqS s.2.2.2.2.2.2.1 (⟨#[]⟩:ByteArray)) then (T6 (bif (!eqS s.2.2.2.2.2.2.2.1 (⟨#[]⟩:ByteArray)) then (Zjv s) else (Zx0 s))) else (T3 (Zx0 s))))))))))))))))))))))))))))))))))))))) (by kernel_rfl) ?_
  unfold Zjv Zx0 ZxZ T2 T3 T4 T5 T6
  simp only [Zdy,eq_self]
  repeat' (first | apply And.intro | intro _)
  all_goals as_aux_lemma=>first
    | trivial
    | omega
    | (simp_all [ZaG,midI,endI,stI,Zao,ZaB,Zbh,ZaW,ZaU,Za1]; done)
def Zra:Zat Tryz.prog:=⟨40,[.s Zag],fun x=>True,fun x=>.c (.bool (ZaG x.1)),fun _=>[],fun x hx=>Zq9 x.1,Tryz.call40⟩
theorem ZFm {α:Type} {l:List α}:((List.length l:Nat):Int)=0↔l=[]:=by
  constructor
  · intro h
    exact List.eq_nil_of_length_eq_zero (by omega)
  · intro h
    rw [h]
    rfl
theorem Zx1 {s:Zac}:noW s=true↔s.2.2.1=0∧s.2.2.2.1=0∧s.2.2.2.2.1=[]∧s.2.2.2.2.2.1=(false,[])∧s.2.2.2.2.2.2.1=(⟨#[]⟩:ByteArray)∧s.2.2.2.2.2.2.2.2.1=([],false,false):=by
  unfold noW noB
  simp only [Bool.and_eq_true,Zao,ZaU,Bool.not_eq_true',ZFm,ZdH,Zec]
  constructor
  · rintro ⟨⟨h1,h2,h3,h4,_,_⟩,h7,h8⟩
    exact ⟨h1,h2,h3,h7,h4,h8⟩
  · rintro ⟨h1,h2,h3,h4,h5,h6⟩
    exact ⟨⟨h1,h2,h3,h5,by rw [h6],by rw [h6]; rfl⟩,h4,h6⟩
theorem ZIo {s:Zac} (h:noW s=true):noB s=true:=by
  unfold noW at h
  exact (Bool.and_eq_true_iff.1 h).1
theorem ZJP {s:Zac} (hl:s.1=true) (h1:s.2.1=1):ZaQ s (true,s.2.1,0,0,[],(false,[]),(⟨#[]⟩:ByteArray),s.2.2.2.2.2.2.2.1,([],false,false),s.2.2.2.2.2.2.2.2.2.1,s.2.2.2.2.2.2.2.2.2.2.1,s.2.2.2.2.2.2.2.2.2.2.2)=noW s:=by
  rw [Bool.eq_iff_iff,ZcO,Zx1]
  constructor
  · intro h
    exact ⟨congrArg (fun z:Zac=>z.2.2.1) h,congrArg (fun z:Zac=>z.2.2.2.1) h,congrArg (fun z:Zac=>z.2.2.2.2.1) h,congrArg (fun z:Zac=>z.2.2.2.2.2.1) h,congrArg (fun z:Zac=>z.2.2.2.2.2.2.1) h,congrArg (fun z:Zac=>z.2.2.2.2.2.2.2.2.1) h⟩
  · rintro ⟨a1,a2,a3,a4,a5,a6⟩
    refine Prod.ext hl (Prod.ext rfl (Prod.ext a1 (Prod.ext a2 (Prod.ext a3 (Prod.ext a4 (Prod.ext a5 (Prod.ext rfl (Prod.ext a6 rfl))))))))
theorem ZJQ {s:Zac} (hl:s.1=true) (h1:s.2.1=4):ZaQ s (true,s.2.1,0,0,[],(false,[]),(⟨#[]⟩:ByteArray),(⟨#[]⟩:ByteArray),([],false,false),s.2.2.2.2.2.2.2.2.2.1,s.2.2.2.2.2.2.2.2.2.2.1,s.2.2.2.2.2.2.2.2.2.2.2)=(noW s && eqS s.2.2.2.2.2.2.2.1 (⟨#[]⟩:ByteArray)):=by
  rw [Bool.eq_iff_iff,ZcO,Bool.and_eq_true,Zx1,ZaU]
  constructor
  · intro h
    exact ⟨⟨congrArg (fun z:Zac=>z.2.2.1) h,congrArg (fun z:Zac=>z.2.2.2.1) h,congrArg (fun z:Zac=>z.2.2.2.2.1) h,congrArg (fun z:Zac=>z.2.2.2.2.2.1) h,congrArg (fun z:Zac=>z.2.2.2.2.2.2.1) h,congrArg (fun z:Zac=>z.2.2.2.2.2.2.2.2.1) h⟩,congrArg (fun z:Zac=>z.2.2.2.2.2.2.2.1) h⟩
  · rintro ⟨⟨a1,a2,a3,a4,a5,a6⟩,a7⟩
    refine Prod.ext hl (Prod.ext rfl (Prod.ext a1 (Prod.ext a2 (Prod.ext a3 (Prod.ext a4 (Prod.ext a5 (Prod.ext a7 (Prod.ext a6 rfl))))))))
theorem Zd4 (l:List Zaz):((List.length (ZaE l true (List.length l)):Nat):Int)=0↔List.any l (fun z0:Zaz=>eqI z0.1 1)=false:=by
  have key:∀ k,k≤List.length l→(List.length (ZaE l true k)=0↔∀ j,j < k→eqI (Zad l j).1 1=false):=fun k=>by
    induction k with
    | zero=>intro _; exact ⟨fun _ j hj=>absurd hj (Nat.not_lt_zero j),fun _=>rfl⟩
    | succ k ih =>
      intro hk
      have ih:=ih (by omega)
      unfold ZaE
      by_cases h:(Zad l k).1=1
      · rw [if_pos (Zao.2 h)]
        constructor
        · intro q; rw [List.length_append,List.length_singleton] at q; omega
        · intro q; have:=q k (by omega); rw [Zao.2 h] at this; cases this
      · rw [if_neg (by rw [ZaB.2 h]; decide),ih]
        constructor
        · intro q j hj
          by_cases hjk:j=k
          · subst hjk; exact ZaB.2 h
          · exact q j (by omega)
        · intro q j hj; exact q j (by omega)
  have h1:=key (List.length l) (Nat.le_refl _)
  constructor
  · intro h
    exact Zgn (t:=Zah) (xs:=l) (p:=fun z0:Zaz=>eqI z0.1 1) (fun j hj=>(h1.1 (by omega)) j hj)
  · intro h
    have:List.length (ZaE l true (List.length l))=0:=h1.2 (fun j hj=>by
      cases he:eqI (Zad l j).1 1 with
      | false=>rfl
      | true =>
        have h2:List.any l (fun z0:Zaz=>eqI z0.1 1)=true:=ZiB (t:=Zah) (xs:=l) (p:=fun z0:Zaz=>eqI z0.1 1) hj he
        rw [h2] at h
        cases h)
    omega
def Zx2 (qu:Zbc) (b:Bool):Nat→List AV→Mem→Za3
  | 3,tm,M=>⟨Nat,fun y=>(Zb2 (Zcx tm [(5, .c (.row 1 0)),(6, .c (.int .i64 ((y:Nat):Int)))]) 7 25,ZrZ M [(1, .row Zah (ZaE qu.1 b y) 0 0 none)]),fun y=>(y≤List.length qu.1),fun y=>(List.length qu.1 - y)⟩
  | _,_,_=>⟨Unit,fun _=>([],[]),fun _=>False,fun _=>0⟩
def Zjw (qu:Zbc):List AC:=[.hs .no Zah qu.1, .bool qu.2.1, .bool qu.2.2]
theorem Zx3 (qu:Zbc) (b:Bool) (hpre:List.length qu.1≤rowMax):Zai Tryz.prog 74 [.ag [.hs .no Zah qu.1, .bool qu.2.1, .bool qu.2.2], .c (.bool b)] (.c (.row 0 0)) [.row Zah (ZaE qu.1 b (List.length qu.1)) 0 0 none]:=by
  refine bc0 [] [] [] [] (Zx2 qu b) Tryz.func74 (fun hwf=>?_)
  refine Eq.mpr (β:=(T5 ((∃ q:Nat,(q≤List.length qu.1)∧((lxs [.ag (Zjw qu), .c (.bool b), .c (.bp 0 0), .tp [], .c (.raw (.slice none 0 0)), .c (.row 1 0)] (vI 0 q∧TN 25 (lxs [.tp []] True)))∧pt (lb (.box (Zjw qu))∧leB (.row Zah ([]:List Zaz) 0 0 none) (.row Zah (ZaE qu.1 b q) 0 0 none)∧True)))∧∀ y0:Nat,(y0≤List.length qu.1)→(T5 (bif (ltI y0 (List.length qu.1)) then (T3 ((ix 4 y0 (List.length qu.1))∧(T4 (some TypeDesc.bool=some TypeDesc.bool∧(bif (eqO (eqI (Zad qu.1 y0).1 1) b) then (T4 ((ix 4 y0 (List.length qu.1))∧(T2 ((True∧List.length (ZaE qu.1 b y0) + List.length ([(Zad qu.1 y0)])≤rowMax)∧(T4 (∃ y0' : Nat,(y0'≤List.length qu.1)∧(List.length qu.1 - y0') < (List.length qu.1 - y0)∧((lxs [.ag (Zjw qu), .c (.bool b), .c (.bp 0 0), .tp [], .c (.raw (.slice none 0 0)), .c (.row 1 0)] (vI (w64 ((y0:Int) + 1)) y0'∧TN 25 (lxs [.tp []] True)))∧pt (lb (.box (Zjw qu))∧leB (.row Zah (ZaE qu.1 b y0 ++ [(Zad qu.1 y0)]) 0 0 none) (.row Zah (ZaE qu.1 b y0') 0 0 none)∧True)))))))) else (T3 (∃ y0' : Nat,(y0'≤List.length qu.1)∧(List.length qu.1 - y0') < (List.length qu.1 - y0)∧((lxs [.ag (Zjw qu), .c (.bool b), .c (.bp 0 0), .tp [], .c (.raw (.slice none 0 0)), .c (.row 1 0)] (vI (w64 ((y0:Int) + 1)) y0'∧TN 25 (lxs [.tp []] True)))∧pt (lb (.box (Zjw qu))∧leB (.row Zah (ZaE qu.1 b y0) 0 0 none) (.row Zah (ZaE qu.1 b y0') 0 0 none)∧True))))))))) else (T2 (pt ((ZaE qu.1 b y0)=(ZaE qu.1 b (List.length qu.1)))))))))) (by kernel_rfl) ?_
  unfold Zjw T2 T3 T4 T5
  have hm:List.length qu.1≤maxLen:=hwf.1.1.1
  unfold maxLen at hm
  have hpre:List.length qu.1≤rowMax:=hpre
  simp only [Zdy,eq_self]
  refine ⟨⟨0,Nat.zero_le _,rfl,rfl⟩,fun k hk=>⟨fun hlt=>?_,fun hge=>?_⟩⟩
  · have hl:=ZmT (l:=qu.1) (b:=b) k
    repeat' (first | apply And.intro | intro _)
    all_goals as_aux_lemma=>first
      | trivial
      | omega
      | exact ⟨k + 1,by omega,by omega,Zbj (by unfold maxLen; omega),(if_pos (by assumption)).symm⟩
      | exact ⟨k + 1,by omega,by omega,Zbj (by unfold maxLen; omega),(if_neg (by assumption)).symm⟩
      | (simp only [List.length_singleton]; omega)
  · obtain rfl:k=List.length qu.1:=by omega
    rfl
def Zdv:Zat Tryz.prog:=⟨74,[.s ZcU, .v Zhh],fun x=>List.length x.1.1≤rowMax,fun x=>.c (.row 0 0),fun x=>[.row Zah (ZaE x.1.1 x.2.1 (List.length x.1.1)) 0 0 none],fun x hx=>Zx3 x.1 x.2.1 hx,Tryz.call74⟩
end Go.Proofs.YtkompmgleojmlaaGreat
