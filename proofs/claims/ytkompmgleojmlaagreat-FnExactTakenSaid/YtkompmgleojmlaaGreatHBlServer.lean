import Derived.Test.YtkompmgleojmlaaGreatHBlCovEq
import Derived.Test.YtkompmgleojmlaaGreatHBlTrue
set_option linter.unusedSimpArgs false
set_option linter.unusedVariables false
set_option maxRecDepth 100000
set_option maxHeartbeats 4000000
namespace Go.Proofs.YtkompmgleojmlaaGreat
open Go.ChangeShapes Go.WideShapes Go.ChangeAt Go.RowKit Go.Joins Go.Deep
open GoRep (rep bulk)
def Ze6 (v:ZaE):Prop:=v.1.2.1.length≤1048576∧v.2.length≤1048576∧∀ x ∈ v.2,x.2.2.2.2.2.2.2.2.1.1.length≤1048576
theorem smallW_nth {v:ZaE} (h:Ze6 v) {k:Nat} (hk:k < v.2.length):(Zaa v.2 k).2.2.2.2.2.2.2.2.1.1.length≤1048576:=h.2.2 _ (List.mem_of_getElem? (Zau (t:=Zae) hk))
def sesOk (v:ZaE) (s:Zad):Bool:=Za6 s && (!gtI s.2.2.2.1 (List.length v.1.2.1:Int) && (ZlG v.1 s && Zr2 v.1 s))
def Zb4 (v:ZaE):Bool:=Zcf v.1 && (eqI (List.length v.2:Int) 3 && !List.any v.2 (fun z0:Zad=>!sesOk v z0))
theorem ZMc {v:ZaE} {s:Zad} (h:Za6 s=true):ZrU v.1 s=Zr2 v.1 s:=by
 unfold Za6 at h
 have h1:=(Bool.and_eq_true _ _ ▸ h:_∧_).2
 by_cases hl:s.1=true
 ·rw [if_pos hl] at h1
  unfold midI at h1
  simp only [Bool.and_eq_true] at h1
  exact (ZND h1.1.2.2.2.1).symm
 ·rw [if_neg hl] at h1
  have e:=ZdO.1 h1
  have e2:s.2.1=0:=by rw [e]; rfl
  have e3:¬ s.2.1=3:=by rw [e2]; decide
  rw [← coS_st e3,← coI_st e3]
theorem se_1 {v:ZaE} {s:Zad} (h:Za6 s=false):sesOk v s=false:=by
 unfold sesOk
 rw [h,Bool.false_and]
theorem se_2 {v:ZaE} {s:Zad} (h:gtI s.2.2.2.1 (List.length v.1.2.1:Int)=true):sesOk v s=false:=by
 unfold sesOk
 rw [h,Bool.not_true,Bool.false_and,Bool.and_false]
theorem ZPN {v:ZaE} {s:Zad} (h:ZlG v.1 s=false):sesOk v s=false:=by
 unfold sesOk
 rw [h,Bool.false_and,Bool.and_false,Bool.and_false]
theorem ZPO {v:ZaE} {s:Zad} (h1:Za6 s=true) (h:ZrU v.1 s=false):sesOk v s=false:=by
 unfold sesOk
 rw [← ZMc h1,h,Bool.and_false,Bool.and_false,Bool.and_false]
theorem ZPP {v:ZaE} {s:Zad} (h1:Za6 s=true) (h2:gtI s.2.2.2.1 (List.length v.1.2.1:Int)=false) (h3:ZlG v.1 s=true) (h:ZrU v.1 s=true):sesOk v s=true:=by
 unfold sesOk
 rw [← ZMc h1,h,h1,h2,h3]
 rfl
theorem sv_1 {v:ZaE} (h:Zcf v.1=false):false=Zb4 v:=by
 unfold Zb4
 rw [h,Bool.false_and]
theorem sv_2 {v:ZaE} (h:¬ (List.length v.2:Int)=3):false=Zb4 v:=by
 unfold Zb4
 rw [ZaT.2 h,Bool.false_and,Bool.and_false]
theorem sv_3 {v:ZaE} {j:Nat} (hj:j < v.2.length) (h:sesOk v (Zaa v.2 j)=false):false=Zb4 v:=by
 unfold Zb4
 rw [show List.any v.2 (fun z0:Zad=>!sesOk v z0)=true from List.any_eq_true.2 ⟨Zaa v.2 j,List.mem_of_getElem? (Zau (t:=Zae) hj),by rw [h]; rfl⟩,Bool.not_true,Bool.and_false,Bool.and_false]
theorem sv_4 {v:ZaE} (h1:Zcf v.1=true) (h2:(List.length v.2:Int)=3) (h:∀ j,j < v.2.length→sesOk v (Zaa v.2 j)=true):true=Zb4 v:=by
 have e:List.any v.2 (fun z0:Zad=>!sesOk v z0)=false:=by
  rw [List.any_eq_false]
  intro x hx
  obtain ⟨j,hj,e⟩:=List.mem_iff_getElem.1 hx
  have e2:Zaa v.2 j=x:=(Zcj (t:=Zae) (List.getElem?_eq_getElem hj)).trans e
  rw [← e2,h j hj]
  decide
 unfold Zb4
 rw [h1,ZaJ.2 h2,e]
 rfl
theorem Zsk (s:Zad) (v:ZaE) (hpre:List.length v.1.2.1≤1048576):Zam Tryz.prog 39 [.ag (cellsOf Zae s), .c (.ep .no ZaV ([v]) 0 0)] (.c (.bool (!sesOk v s))) []:=by
 refine bc0 [ZuJ,Zxr,ZBE] [] [] [] L0 Tryz.func39 (fun hwf=>?_)
 refine Eq.mpr (β:=T3 (pt True∧T2 (bif !(Za6 s) then T6 (rB true (!sesOk v s)) else T9 (bif gtI s.2.2.2.1 v.1.2.1.length then T4 (rB true (!sesOk v s)) else T3 (pt True∧T3 (bif !(ZlG v.1 s) then T2 (rB true (!sesOk v s)) else T3 (pt (v.1.2.1.length≤1048576)∧T3 (rB (!(Zr2 v.1 s)) (!sesOk v s))))))))) (by kernel_rfl) ?_
 simp only [Zbe,Zbl,Zbt,Bool.not_true,Bool.not_false,Zdq,eq_self]
 repeat' (first | apply And.intro | intro _)
 all_goals first
  | trivial
  | omega
  | contradiction
  | exact ⟨rfl,rfl⟩
  | (show _ + 1≤rowMax; unfold rowMax; omega)
  | (simp only [sesOk, *,eq_self,if_true,if_false,and_true,true_and,and_self,not_true,not_false,false_and,and_false,or_true,true_or,or_false,false_or,or_self,Bool.false_eq_true,reduceCtorEq,reduceIte,Int.reduceEq,not_false_eq_true,not_true_eq_false,ite_true,ite_false,Bool.and_true,Bool.true_and,Bool.and_false,Bool.false_and,Bool.or_true,Bool.true_or,Bool.or_false,Bool.false_or,Bool.not_true,Bool.not_false]; done)
  | (simp_all [sesOk,eqI,neI,geI,eqS]; done)
  | (rename_i h1 h2; rw [se_2 (gtI_true.2 h2)]; rfl)
  | (rename_i h1 h2 h3; unfold sesOk; rw [h1,Zeq.2 h2,h3]; rfl)
def Zsl:ZaC Tryz.prog:=⟨39,[.s Zae, .p ZaV],fun x=>List.length x.2.1.1.2.1≤1048576,fun x=>.c (.bool (!sesOk x.2.1 x.1)),fun _=>[],fun x hx=>Zsk x.1 x.2.1 hx,Tryz.call39⟩
theorem ZwO (v:ZaE) (hpre:Ze6 v):Zam Tryz.prog 12 [.ag (cellsOf ZaV v)] (.c (.bool (Zb4 v))) []:=by
 refine bc0 [ZCY,Zsl] [ZdX] [] [] L0 Tryz.func12 (fun hwf=>?_)
 refine Eq.mpr (β:=T4 (pt True∧True∧bif Zcf v.1 then T6 (bif eqI v.2.length 3 then T3 (((∀ z0:Zad,v.1.2.1.length≤1048576∧True)∧∀ (_:Zad→Bool) (_:List Zad),true=true)∧T3 (rB (!(List.any v.2 (fun z0:Zad=>(!sesOk v z0)))) (Zb4 v))) else T2 (rB false (Zb4 v))) else T4 (rB false (Zb4 v)))) (by kernel_rfl) ?_
 simp only [Zbe,Zbl,Zbt,Bool.not_true,Bool.not_false,Zdq,eq_self]
 repeat' (first | apply And.intro | intro _)
 all_goals first
  | trivial
  | omega
  | contradiction
  | exact ⟨rfl,rfl⟩
  | (show _ + 1≤rowMax; unfold rowMax; omega)
  | (simp only [Zb4, *,eq_self,if_true,if_false,and_true,true_and,and_self,not_true,not_false,false_and,and_false,or_true,true_or,or_false,false_or,or_self,Bool.false_eq_true,reduceCtorEq,reduceIte,Int.reduceEq,not_false_eq_true,not_true_eq_false,ite_true,ite_false,Bool.and_true,Bool.true_and,Bool.and_false,Bool.false_and,Bool.or_true,Bool.true_or,Bool.or_false,Bool.false_or,Bool.not_true,Bool.not_false]; done)
  | (simp_all [Zb4,eqI,neI,geI,eqS]; done)
  | exact hpre.1
def ZwP:ZaC Tryz.prog:=⟨12,[.s ZaV],fun x=>Ze6 x.1,fun x=>.c (.bool (Zb4 x.1)),fun _=>[],fun x hx=>ZwO x.1 hx,Tryz.call12⟩
def ZwQ (v:ZaE):Nat→List AV→Mem→Zbj
 | 4,tm,M=>⟨Nat,fun y=>(Zcn (ZcC tm [(2, .any),(3, .c (.int .i64 ((y:Nat):Int))),(4, .any)]) 15 38,M),fun y=>(y≤List.length v.2∧∀ j,j < y→sesOk v (Zaa v.2 j)=true),fun y=>(List.length v.2 - y)⟩
 | _,_,_=>⟨Unit,fun _=>([],[]),fun _=>False,fun _=>0⟩
def ZpJ (v:ZaE):List AC:=[.hs .no Zaj v.1.1, .hs .no Zag v.1.2.1, .int .i64 v.1.2.2, .hs .no Zae v.2]
theorem ZwR (v:ZaE) (hpre:Ze6 v):Zam Tryz.prog 10 [.ag (cellsOf ZaV v)] (.c (.bool (Zb4 v))) []:=by
 refine bc0 [ZC4,ZuQ,Zxt,ZBI] [] [] [] (ZwQ v) Tryz.func10 (fun hwf=>?_)
 refine Eq.mpr (β:=T4 (pt True∧T2 (bif !(Zcf v.1) then T2 (rB false (Zb4 v)) else T5 (bif neI v.2.length 3 then True∧rB false (Zb4 v) else True∧(∃ q:Nat,(q≤v.2.length∧∀ j,j < q→sesOk v (Zaa v.2 j)=true)∧lxs [.ag (ZpJ v), .c (.bp 0 0)] (True∧vI 0 q∧True∧lxs [.c (.bp 0 0), .ag [.hs .no Zaj v.1.1, .hs .no Zag v.1.2.1, .int .i64 v.1.2.2], .c (.bool (Zcf v.1)), .c (.bool (!(Zcf v.1))), .c (.bool false), .c (.bp 0 3),hn Zae v.2,ci v.2.length, .c (.bool (neI v.2.length 3)), .c (.bool false)] (TN 38 True))∧pt (lb (.box (ZpJ v))∧True))∧∀ y0:Nat,(y0≤v.2.length∧∀ j,j < y0→sesOk v (Zaa v.2 j)=true)→T5 (bif ltI y0 v.2.length then T3 (ix 17 y0 v.2.length∧T4 (pt (List.length (Zaa v.2 y0).2.2.2.2.2.2.2.2.1.1≤rowMax)∧T2 (bif !(Za6 (Zaa v.2 y0)) then T6 (rB false (Zb4 v)) else T9 (bif gtI (Zaa v.2 y0).2.2.2.1 v.1.2.1.length then T4 (rB false (Zb4 v)) else T3 (pt True∧T3 (bif !(ZlG v.1 (Zaa v.2 y0)) then T2 (rB false (Zb4 v)) else T3 (pt (v.1.2.1.length≤1048576∧List.length (Zaa v.2 y0).2.2.2.2.2.2.2.2.1.1≤1048576)∧T2 (bif !(ZrU v.1 (Zaa v.2 y0)) then True∧rB false (Zb4 v) else T3 (∃ y0' : Nat,(y0'≤v.2.length∧∀ j,j < y0'→sesOk v (Zaa v.2 j)=true)∧(v.2.length - y0') < (v.2.length - y0)∧lxs [.ag (ZpJ v), .c (.bp 0 0)] (True∧vI (w64 ((y0:Int) + 1)) y0'∧True∧lxs [.c (.bp 0 0), .ag [.hs .no Zaj v.1.1, .hs .no Zag v.1.2.1, .int .i64 v.1.2.2], .c (.bool (Zcf v.1)), .c (.bool (!(Zcf v.1))), .c (.bool false), .c (.bp 0 3),hn Zae v.2,ci v.2.length, .c (.bool (neI v.2.length 3)), .c (.bool false)] (TN 38 True))∧pt (lb (.box (ZpJ v))∧True)))))))))) else True∧rB true (Zb4 v)))))) (by kernel_rfl) ?_
 unfold ZpJ T2 T3 T4 T5 T6 T9
 have hm:List.length v.2≤1048576:=hpre.2.1
 simp only [Zbe,Zbl,Zbt,Bool.not_true,Bool.not_false,Zdq,eq_self]
 repeat' (first | apply And.intro | intro _)
 all_goals first
  | trivial
  | omega
  | exact ⟨0,⟨Nat.zero_le _,Za7⟩,rfl⟩
  | exact hpre.1
  | exact hpre
  | (rename_i h; exact sv_1 h)
  | (rename_i h; exact sv_2 h)
  | exact ⟨hpre.1,smallW_nth hpre (by omega)⟩
  | (rename_i y hy hlt; exact smallW_nth hpre (by omega))
  | (rename_i y hy hlt h1 h2 h3; exact smallW_nth hpre (by omega))
  | exact (by have:=smallW_nth hpre (by assumption); unfold rowMax; omega)
  | (rename_i y hy hlt; exact Nat.le_trans (smallW_nth hpre (Int.ofNat_lt.1 hlt)) (by unfold rowMax; omega))
  | (rename_i y hy hlt h1; exact sv_3 (Int.ofNat_lt.1 hlt) (se_1 h1))
  | (rename_i y hy hlt h1 h2; exact sv_3 (Int.ofNat_lt.1 hlt) (se_2 (gtI_true.2 h2)))
  | (rename_i y hy hlt h1 h2 h3; exact sv_3 (Int.ofNat_lt.1 hlt) (ZPN h3))
  | (rename_i y hy hlt h1 h2 h3 h4; exact sv_3 (Int.ofNat_lt.1 hlt) (ZPO h1 h4))
  | (rename_i y hy hlt h1 h2 h3 h4; exact ⟨y + 1,⟨Int.ofNat_lt.1 hlt,ZaY hy.2 (ZPP h1 (Zeq.2 h2) h3 h4)⟩,by omega,wk (by omega)⟩)
  | (rename_i h1 h2 y hy hge; exact sv_4 h1 h2 (fun j hj=>hy.2 j (by omega)))
def ZwS:ZaC Tryz.prog:=⟨10,[.s ZaV],fun x=>Ze6 x.1,fun x=>.c (.bool (Zb4 x.1)),fun _=>[],fun x hx=>ZwR x.1 hx,Tryz.call10⟩
end Go.Proofs.YtkompmgleojmlaaGreat
