import Derived.Test.YtafhbjjcpncfnaaGreatIBlCovEq
import Derived.Test.YtafhbjjcpncfnaaGreatIBlTrue
set_option linter.unusedSimpArgs false
set_option linter.unusedVariables false
set_option maxRecDepth 100000
set_option maxHeartbeats 4000000
namespace Go.Proofs.YtafhbjjcpncfnaaGreat
open Go.ChangeShapes Go.WideShapes Go.ChangeAt Go.RowKit Go.Joins Go.Deep
open GoRep (rep bulk)
def ZnL (v:ZaT):Prop:=v.1.2.1.length≤1048576∧v.2.length≤1048576∧∀ x ∈ v.2,x.2.2.2.2.2.2.2.2.1.1.length≤1048576
theorem smallW_nth {v:ZaT} (h:ZnL v) {k:Nat} (hk:k < v.2.length):(Zaa v.2 k).2.2.2.2.2.2.2.2.1.1.length≤1048576:=h.2.2 _ (List.mem_of_getElem? (Zat (t:=Zae) hk))
def sesOk (v:ZaT) (s:Zad):Bool:=Za4 s && (!gtI s.2.2.2.1 (List.length v.1.2.1:Int) && (ZlF v.1 s && ZrR v.1 s))
def Zbf (v:ZaT):Bool:=Zcd v.1 && (eqI (List.length v.2:Int) 3 && !List.any v.2 (fun z0:Zad=>!sesOk v z0))
theorem ZLJ {v:ZaT} {s:Zad} (h:Za4 s=true):ZrJ v.1 s=ZrR v.1 s:=by
 unfold Za4 at h
 have h1:=(Bool.and_eq_true _ _ ▸ h:_∧_).2
 by_cases hl:s.1=true
 ·rw [if_pos hl] at h1
  unfold midI at h1
  simp only [Bool.and_eq_true] at h1
  exact (ZNa h1.1.2.2.2.1).symm
 ·rw [if_neg hl] at h1
  have e:=ZdL.1 h1
  have e2:s.2.1=0:=by rw [e]; rfl
  have e3:¬ s.2.1=3:=by rw [e2]; decide
  rw [← coS_st e3,← coI_st e3]
theorem se_1 {v:ZaT} {s:Zad} (h:Za4 s=false):sesOk v s=false:=by
 unfold sesOk
 rw [h,Bool.false_and]
theorem se_2 {v:ZaT} {s:Zad} (h:gtI s.2.2.2.1 (List.length v.1.2.1:Int)=true):sesOk v s=false:=by
 unfold sesOk
 rw [h,Bool.not_true,Bool.false_and,Bool.and_false]
theorem ZPj {v:ZaT} {s:Zad} (h:ZlF v.1 s=false):sesOk v s=false:=by
 unfold sesOk
 rw [h,Bool.false_and,Bool.and_false,Bool.and_false]
theorem ZPk {v:ZaT} {s:Zad} (h1:Za4 s=true) (h:ZrJ v.1 s=false):sesOk v s=false:=by
 unfold sesOk
 rw [← ZLJ h1,h,Bool.and_false,Bool.and_false,Bool.and_false]
theorem ZPl {v:ZaT} {s:Zad} (h1:Za4 s=true) (h2:gtI s.2.2.2.1 (List.length v.1.2.1:Int)=false) (h3:ZlF v.1 s=true) (h:ZrJ v.1 s=true):sesOk v s=true:=by
 unfold sesOk
 rw [← ZLJ h1,h,h1,h2,h3]
 rfl
theorem sv_1 {v:ZaT} (h:Zcd v.1=false):false=Zbf v:=by
 unfold Zbf
 rw [h,Bool.false_and]
theorem sv_2 {v:ZaT} (h:¬ (List.length v.2:Int)=3):false=Zbf v:=by
 unfold Zbf
 rw [ZaS.2 h,Bool.false_and,Bool.and_false]
theorem sv_3 {v:ZaT} {j:Nat} (hj:j < v.2.length) (h:sesOk v (Zaa v.2 j)=false):false=Zbf v:=by
 unfold Zbf
 rw [show List.any v.2 (fun z0:Zad=>!sesOk v z0)=true from List.any_eq_true.2 ⟨Zaa v.2 j,List.mem_of_getElem? (Zat (t:=Zae) hj),by rw [h]; rfl⟩,Bool.not_true,Bool.and_false,Bool.and_false]
theorem sv_4 {v:ZaT} (h1:Zcd v.1=true) (h2:(List.length v.2:Int)=3) (h:∀ j,j < v.2.length→sesOk v (Zaa v.2 j)=true):true=Zbf v:=by
 have e:List.any v.2 (fun z0:Zad=>!sesOk v z0)=false:=by
  rw [List.any_eq_false]
  intro x hx
  obtain ⟨j,hj,e⟩:=List.mem_iff_getElem.1 hx
  have e2:Zaa v.2 j=x:=(Zcb (t:=Zae) (List.getElem?_eq_getElem hj)).trans e
  rw [← e2,h j hj]
  decide
 unfold Zbf
 rw [h1,ZaJ.2 h2,e]
 rfl
theorem Zsc (s:Zad) (v:ZaT) (hpre:List.length v.1.2.1≤1048576):Zao Tryz.prog 46 [.ag (cellsOf Zae s), .c (.ep .no Zbm ([v]) 0 0)] (.c (.bool (!sesOk v s))) []:=by
 refine bc0 [Zux,Zxt,ZBu] [] [] [] L0 Tryz.func46 (fun hwf=>?_)
 refine Eq.mpr (β:=T3 (pt True∧T2 (bif !(Za4 s) then T6 (rB true (!sesOk v s)) else T9 (bif gtI s.2.2.2.1 v.1.2.1.length then T4 (rB true (!sesOk v s)) else T3 (pt True∧T3 (bif !(ZlF v.1 s) then T2 (rB true (!sesOk v s)) else T3 (pt (v.1.2.1.length≤1048576)∧T3 (rB (!(ZrR v.1 s)) (!sesOk v s))))))))) (by kernel_rfl) ?_
 simp only [Zbu,ZbS,Zbn,Bool.not_true,Bool.not_false,Zeg,eq_self]
 repeat' (first | apply And.intro | intro _)
 all_goals first
  | trivial
  | omega
  | contradiction
  | exact ⟨rfl,rfl⟩
  | (show _ + 1≤rowMax; unfold rowMax; omega)
  | (simp only [sesOk, *,eq_self,if_true,if_false,and_true,true_and,and_self,not_true,not_false,false_and,and_false,or_true,true_or,or_false,false_or,or_self,Bool.false_eq_true,reduceCtorEq,reduceIte,Int.reduceEq,not_false_eq_true,not_true_eq_false,ite_true,ite_false,Bool.and_true,Bool.true_and,Bool.and_false,Bool.false_and,Bool.or_true,Bool.true_or,Bool.or_false,Bool.false_or,Bool.not_true,Bool.not_false]; done)
  | (simp_all [sesOk,eqI,neI,geI,eqS]; done)
  | (rename_i h1 h2; rw [se_2 (gtI_true.2 h2)]; rfl)
  | (rename_i h1 h2 h3; unfold sesOk; rw [h1,ZfI.2 h2,h3]; rfl)
def Zsd:ZaE Tryz.prog:=⟨46,[.s Zae, .p Zbm],fun x=>List.length x.2.1.1.2.1≤1048576,fun x=>.c (.bool (!sesOk x.2.1 x.1)),fun _=>[],fun x hx=>Zsc x.1 x.2.1 hx,Tryz.call46⟩
theorem ZwK (v:ZaT) (hpre:ZnL v):Zao Tryz.prog 22 [.ag (cellsOf Zbm v)] (.c (.bool (Zbf v))) []:=by
 refine bc0 [ZCP,Zsd] [ZdV] [] [] L0 Tryz.func22 (fun hwf=>?_)
 refine Eq.mpr (β:=T4 (pt True∧True∧bif Zcd v.1 then T6 (bif eqI v.2.length 3 then T3 (((∀ z0:Zad,v.1.2.1.length≤1048576∧True)∧∀ (_:Zad→Bool) (_:List Zad),true=true)∧T3 (rB (!(List.any v.2 (fun z0:Zad=>(!sesOk v z0)))) (Zbf v))) else T2 (rB false (Zbf v))) else T4 (rB false (Zbf v)))) (by kernel_rfl) ?_
 simp only [Zbu,ZbS,Zbn,Bool.not_true,Bool.not_false,Zeg,eq_self]
 repeat' (first | apply And.intro | intro _)
 all_goals first
  | trivial
  | omega
  | contradiction
  | exact ⟨rfl,rfl⟩
  | (show _ + 1≤rowMax; unfold rowMax; omega)
  | (simp only [Zbf, *,eq_self,if_true,if_false,and_true,true_and,and_self,not_true,not_false,false_and,and_false,or_true,true_or,or_false,false_or,or_self,Bool.false_eq_true,reduceCtorEq,reduceIte,Int.reduceEq,not_false_eq_true,not_true_eq_false,ite_true,ite_false,Bool.and_true,Bool.true_and,Bool.and_false,Bool.false_and,Bool.or_true,Bool.true_or,Bool.or_false,Bool.false_or,Bool.not_true,Bool.not_false]; done)
  | (simp_all [Zbf,eqI,neI,geI,eqS]; done)
  | exact hpre.1
def ZwL:ZaE Tryz.prog:=⟨22,[.s Zbm],fun x=>ZnL x.1,fun x=>.c (.bool (Zbf x.1)),fun _=>[],fun x hx=>ZwK x.1 hx,Tryz.call22⟩
def ZwM (v:ZaT):Nat→List AV→Mem→Zbd
 | 4,tm,M=>⟨Nat,fun y=>(Zcf (Zct tm [(2, .any),(3, .c (.int .i64 ((y:Nat):Int))),(4, .any)]) 15 38,M),fun y=>(y≤List.length v.2∧∀ j,j < y→sesOk v (Zaa v.2 j)=true),fun y=>(List.length v.2 - y)⟩
 | _,_,_=>⟨Unit,fun _=>([],[]),fun _=>False,fun _=>0⟩
def Zpz (v:ZaT):List AC:=[.hs .no Zaj v.1.1, .hs .no Zag v.1.2.1, .int .i64 v.1.2.2, .hs .no Zae v.2]
theorem ZwN (v:ZaT) (hpre:ZnL v):Zao Tryz.prog 17 [.ag (cellsOf Zbm v)] (.c (.bool (Zbf v))) []:=by
 refine bc0 [ZCV,ZuE,Zxv,ZBy] [] [] [] (ZwM v) Tryz.func17 (fun hwf=>?_)
 refine Eq.mpr (β:=T4 (pt True∧T2 (bif !(Zcd v.1) then T2 (rB false (Zbf v)) else T5 (bif neI v.2.length 3 then True∧rB false (Zbf v) else True∧(∃ q:Nat,(q≤v.2.length∧∀ j,j < q→sesOk v (Zaa v.2 j)=true)∧lxs [.ag (Zpz v), .c (.bp 0 0)] (True∧vI 0 q∧True∧lxs [.c (.bp 0 0), .ag [.hs .no Zaj v.1.1, .hs .no Zag v.1.2.1, .int .i64 v.1.2.2], .c (.bool (Zcd v.1)), .c (.bool (!(Zcd v.1))), .c (.bool false), .c (.bp 0 3),hn Zae v.2,ci v.2.length, .c (.bool (neI v.2.length 3)), .c (.bool false)] (TN 38 True))∧pt (lb (.box (Zpz v))∧True))∧∀ y0:Nat,(y0≤v.2.length∧∀ j,j < y0→sesOk v (Zaa v.2 j)=true)→T5 (bif ltI y0 v.2.length then T3 (ix 17 y0 v.2.length∧T4 (pt (List.length (Zaa v.2 y0).2.2.2.2.2.2.2.2.1.1≤rowMax)∧T2 (bif !(Za4 (Zaa v.2 y0)) then T6 (rB false (Zbf v)) else T9 (bif gtI (Zaa v.2 y0).2.2.2.1 v.1.2.1.length then T4 (rB false (Zbf v)) else T3 (pt True∧T3 (bif !(ZlF v.1 (Zaa v.2 y0)) then T2 (rB false (Zbf v)) else T3 (pt (v.1.2.1.length≤1048576∧List.length (Zaa v.2 y0).2.2.2.2.2.2.2.2.1.1≤1048576)∧T2 (bif !(ZrJ v.1 (Zaa v.2 y0)) then True∧rB false (Zbf v) else T3 (∃ y0' : Nat,(y0'≤v.2.length∧∀ j,j < y0'→sesOk v (Zaa v.2 j)=true)∧(v.2.length - y0') < (v.2.length - y0)∧lxs [.ag (Zpz v), .c (.bp 0 0)] (True∧vI (w64 ((y0:Int) + 1)) y0'∧True∧lxs [.c (.bp 0 0), .ag [.hs .no Zaj v.1.1, .hs .no Zag v.1.2.1, .int .i64 v.1.2.2], .c (.bool (Zcd v.1)), .c (.bool (!(Zcd v.1))), .c (.bool false), .c (.bp 0 3),hn Zae v.2,ci v.2.length, .c (.bool (neI v.2.length 3)), .c (.bool false)] (TN 38 True))∧pt (lb (.box (Zpz v))∧True)))))))))) else True∧rB true (Zbf v)))))) (by kernel_rfl) ?_
 unfold Zpz T2 T3 T4 T5 T6 T9
 have hm:List.length v.2≤1048576:=hpre.2.1
 simp only [Zbu,ZbS,Zbn,Bool.not_true,Bool.not_false,Zeg,eq_self]
 repeat' (first | apply And.intro | intro _)
 all_goals first
  | trivial
  | omega
  | exact ⟨0,⟨Nat.zero_le _,Za3⟩,rfl⟩
  | exact hpre.1
  | exact hpre
  | (rename_i h; exact sv_1 h)
  | (rename_i h; exact sv_2 h)
  | exact ⟨hpre.1,smallW_nth hpre (by omega)⟩
  | (rename_i y hy hlt; exact smallW_nth hpre (by omega))
  | (rename_i y hy hlt h1 h2 h3; exact smallW_nth hpre (by omega))
  | exact (by have:=smallW_nth hpre (by assumption); unfold rowMax; omega)
  | (rename_i y hy hlt; exact Nat.le_trans (smallW_nth hpre (Int.ofNat_lt.1 hlt)) (by unfold rowMax; omega))
  | (rename_i y hy hlt h1; exact sv_3 (Int.ofNat_lt.1 hlt) (se_1 h1))
  | (rename_i y hy hlt h1 h2; exact sv_3 (Int.ofNat_lt.1 hlt) (se_2 (gtI_true.2 h2)))
  | (rename_i y hy hlt h1 h2 h3; exact sv_3 (Int.ofNat_lt.1 hlt) (ZPj h3))
  | (rename_i y hy hlt h1 h2 h3 h4; exact sv_3 (Int.ofNat_lt.1 hlt) (ZPk h1 h4))
  | (rename_i y hy hlt h1 h2 h3 h4; exact ⟨y + 1,⟨Int.ofNat_lt.1 hlt,ZaU hy.2 (ZPl h1 (ZfI.2 h2) h3 h4)⟩,by omega,wk (by omega)⟩)
  | (rename_i h1 h2 y hy hge; exact sv_4 h1 h2 (fun j hj=>hy.2 j (by omega)))
def ZwO:ZaE Tryz.prog:=⟨17,[.s Zbm],fun x=>ZnL x.1,fun x=>.c (.bool (Zbf x.1)),fun _=>[],fun x hx=>ZwN x.1 hx,Tryz.call17⟩
end Go.Proofs.YtafhbjjcpncfnaaGreat
