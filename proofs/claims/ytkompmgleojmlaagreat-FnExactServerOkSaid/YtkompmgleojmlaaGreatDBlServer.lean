import Derived.Test.YtkompmgleojmlaaGreatDBlCovEq
import Derived.Test.YtkompmgleojmlaaGreatDBlTrue
set_option linter.unusedSimpArgs false
set_option linter.unusedVariables false
set_option maxRecDepth 100000
set_option maxHeartbeats 4000000
namespace Go.Proofs.YtkompmgleojmlaaGreat
open Go.ChangeShapes Go.WideShapes Go.ChangeAt Go.RowKit Go.Joins Go.Deep
open GoRep (rep bulk)
def ZlB (v:Zbg):Prop:=v.1.2.1.length≤1048576∧v.2.length≤1048576∧∀ x ∈ v.2,x.2.2.2.2.2.2.2.2.1.1.length≤1048576
theorem smallW_nth {v:Zbg} (h:ZlB v) {k:Nat} (hk:k < v.2.length):(ZaA v.2 k).2.2.2.2.2.2.2.2.1.1.length≤1048576:=h.2.2 _ (List.mem_of_getElem? (Zap (t:=Zag) hk))
def sesOk (v:Zbg) (s:Zac):Bool:=ZaG s && (!gtI s.2.2.2.1 ((List.length v.1.2.1:Nat):Int) && (ZjE v.1 s && Zpa v.1 s))
def Zbp (v:Zbg):Bool:=Zbu v.1 && (eqI ((List.length v.2:Nat):Int) 3 && !List.any v.2 (fun z0:Zac=>!sesOk v z0))
theorem ZGQ {v:Zbg} {s:Zac} (h:ZaG s=true):Zo2 v.1 s=Zpa v.1 s:=by
  unfold ZaG at h
  have h1:=(Bool.and_eq_true _ _ ▸ h:_∧_).2
  by_cases hl:s.1=true
  · rw [if_pos hl] at h1
    unfold midI at h1
    simp only [Bool.and_eq_true] at h1
    exact (ZIg h1.1.2.2.2.1).symm
  · rw [if_neg hl] at h1
    have e:=ZcO.1 h1
    have e2:s.2.1=0:=by rw [e]; rfl
    have e3:¬ s.2.1=3:=by rw [e2]; decide
    rw [← coS_st e3,← coI_st e3]
theorem se_1 {v:Zbg} {s:Zac} (h:ZaG s=false):sesOk v s=false:=by
  unfold sesOk
  rw [h,Bool.false_and]
theorem se_2 {v:Zbg} {s:Zac} (h:gtI s.2.2.2.1 ((List.length v.1.2.1:Nat):Int)=true):sesOk v s=false:=by
  unfold sesOk
  rw [h,Bool.not_true,Bool.false_and,Bool.and_false]
theorem ZKq {v:Zbg} {s:Zac} (h:ZjE v.1 s=false):sesOk v s=false:=by
  unfold sesOk
  rw [h,Bool.false_and,Bool.and_false,Bool.and_false]
theorem ZKr {v:Zbg} {s:Zac} (h1:ZaG s=true) (h:Zo2 v.1 s=false):sesOk v s=false:=by
  unfold sesOk
  rw [← ZGQ h1,h,Bool.and_false,Bool.and_false,Bool.and_false]
theorem ZKs {v:Zbg} {s:Zac} (h1:ZaG s=true) (h2:gtI s.2.2.2.1 ((List.length v.1.2.1:Nat):Int)=false) (h3:ZjE v.1 s=true) (h:Zo2 v.1 s=true):sesOk v s=true:=by
  unfold sesOk
  rw [← ZGQ h1,h,h1,h2,h3]
  rfl
theorem sv_1 {v:Zbg} (h:Zbu v.1=false):false=Zbp v:=by
  unfold Zbp
  rw [h,Bool.false_and]
theorem sv_2 {v:Zbg} (h:¬ ((List.length v.2:Nat):Int)=3):false=Zbp v:=by
  unfold Zbp
  rw [ZaB.2 h,Bool.false_and,Bool.and_false]
theorem sv_3 {v:Zbg} {j:Nat} (hj:j < v.2.length) (h:sesOk v (ZaA v.2 j)=false):false=Zbp v:=by
  unfold Zbp
  rw [show List.any v.2 (fun z0:Zac=>!sesOk v z0)=true from List.any_eq_true.2 ⟨ZaA v.2 j,List.mem_of_getElem? (Zap (t:=Zag) hj),by rw [h]; rfl⟩,Bool.not_true,Bool.and_false,Bool.and_false]
theorem sv_4 {v:Zbg} (h1:Zbu v.1=true) (h2:((List.length v.2:Nat):Int)=3) (h:∀ j,j < v.2.length→sesOk v (ZaA v.2 j)=true):true=Zbp v:=by
  have e:List.any v.2 (fun z0:Zac=>!sesOk v z0)=false:=by
    rw [List.any_eq_false]
    intro x hx
    obtain ⟨j,hj,e⟩:=List.mem_iff_getElem.1 hx
    have e2:ZaA v.2 j=x:=(ZdB (t:=Zag) (List.getElem?_eq_getElem hj)).trans e
    rw [← e2,h j hj]
    decide
  unfold Zbp
  rw [h1,Zao.2 h2,e]
  rfl
theorem Zpe (s:Zac) (v:Zbg) (hpre:List.length v.1.2.1≤1048576):Zai Tryz.prog 39 [.ag (cellsOf Zag s), .c (.ep .no ZbP ([v]) 0 0)] (.c (.bool (!sesOk v s))) []:=by
  refine bc0 [Zra,Zty,Zxj] [] [] [] L0 Tryz.func39 (fun hwf=>?_)
  refine Eq.mpr (β:=(T3 ((pt True)∧(T2 (bif (!(ZaG s)) then (T6 (rB true (!sesOk v s))) else (T9 (bif (gtI s.2.2.2.1 (List.length v.1.2.1)) then (T4 (rB true (!sesOk v s))) else (T3 ((pt True)∧(T3 (bif (!(ZjE v.1 s)) then (T2 (rB true (!sesOk v s))) else (T3 ((pt (List.length v.1.2.1≤1048576))∧(T3 (rB (!(Zpa v.1 s)) (!sesOk v s)))))))))))))))) (by kernel_rfl) ?_
  simp only [Zbd,Zbs,ZaY,Bool.not_true,Bool.not_false,Zdy,eq_self]
  repeat' (first | apply And.intro | intro _)
  all_goals first
    | trivial
    | omega
    | contradiction
    | exact ⟨rfl,rfl⟩
    | (show _ + 1≤rowMax; unfold rowMax; omega)
    | (simp only [sesOk, *,eq_self,if_true,if_false,and_true,true_and,and_self,not_true,not_false,false_and,and_false,or_true,true_or,or_false,false_or,or_self,Bool.false_eq_true,reduceCtorEq,reduceIte,Int.reduceEq,not_false_eq_true,not_true_eq_false,ite_true,ite_false,Bool.and_true,Bool.true_and,Bool.and_false,Bool.false_and,Bool.or_true,Bool.true_or,Bool.or_false,Bool.false_or,Bool.not_true,Bool.not_false]; done)
    | (simp_all [sesOk,eqI,neI,geI,eqS]; done)
    | (rename_i h1 h2; rw [se_2 (gtI_true.2 h2)]; rfl)
    | (rename_i h1 h2 h3; unfold sesOk; rw [h1,Zek.2 h2,h3]; rfl)
def Zpf:Zat Tryz.prog:=⟨39,[.s Zag, .p ZbP],fun x=>List.length x.2.1.1.2.1≤1048576,fun x=>.c (.bool (!sesOk x.2.1 x.1)),fun _=>[],fun x hx=>Zpe x.1 x.2.1 hx,Tryz.call39⟩
theorem ZsV (v:Zbg) (hpre:ZlB v):Zai Tryz.prog 12 [.ag (cellsOf ZbP v)] (.c (.bool (Zbp v))) []:=by
  refine bc0 [Zyp,Zpf] [ZcT] [] [] L0 Tryz.func12 (fun hwf=>?_)
  refine Eq.mpr (β:=(T4 ((pt True)∧(True∧(bif Zbu v.1 then (T6 (bif (eqI (List.length v.2) 3) then (T3 (((∀ z0:Zac,List.length v.1.2.1≤1048576∧True)∧∀ (_:Zac→Bool) (_:List Zac),true=true)∧(T3 (rB (!(List.any v.2 (fun z0:Zac=>(!sesOk v z0)))) (Zbp v))))) else (T2 (rB false (Zbp v))))) else (T4 (rB false (Zbp v)))))))) (by kernel_rfl) ?_
  simp only [Zbd,Zbs,ZaY,Bool.not_true,Bool.not_false,Zdy,eq_self]
  repeat' (first | apply And.intro | intro _)
  all_goals first
    | trivial
    | omega
    | contradiction
    | exact ⟨rfl,rfl⟩
    | (show _ + 1≤rowMax; unfold rowMax; omega)
    | (simp only [Zbp, *,eq_self,if_true,if_false,and_true,true_and,and_self,not_true,not_false,false_and,and_false,or_true,true_or,or_false,false_or,or_self,Bool.false_eq_true,reduceCtorEq,reduceIte,Int.reduceEq,not_false_eq_true,not_true_eq_false,ite_true,ite_false,Bool.and_true,Bool.true_and,Bool.and_false,Bool.false_and,Bool.or_true,Bool.true_or,Bool.or_false,Bool.false_or,Bool.not_true,Bool.not_false]; done)
    | (simp_all [Zbp,eqI,neI,geI,eqS]; done)
    | exact hpre.1
def ZsW:Zat Tryz.prog:=⟨12,[.s ZbP],fun x=>ZlB x.1,fun x=>.c (.bool (Zbp x.1)),fun _=>[],fun x hx=>ZsV x.1 hx,Tryz.call12⟩
def ZsX (v:Zbg):Nat→List AV→Mem→Za3
  | 4,tm,M=>⟨Nat,fun y=>(Zb2 (Zcx tm [(2, .any),(3, .c (.int .i64 ((y:Nat):Int))),(4, .any)]) 15 38,M),fun y=>(y≤List.length v.2∧∀ j,j < y→sesOk v (ZaA v.2 j)=true),fun y=>(List.length v.2 - y)⟩
  | _,_,_=>⟨Unit,fun _=>([],[]),fun _=>False,fun _=>0⟩
def ZmW (v:Zbg):List AC:=[.hs .no Zaf v.1.1, .hs .no Zae v.1.2.1, .int .i64 v.1.2.2, .hs .no Zag v.2]
theorem ZsY (v:Zbg) (hpre:ZlB v):Zai Tryz.prog 10 [.ag (cellsOf ZbP v)] (.c (.bool (Zbp v))) []:=by
  refine bc0 [Zyv,Zrh,ZtA,Zxn] [] [] [] (ZsX v) Tryz.func10 (fun hwf=>?_)
  refine Eq.mpr (β:=(T4 ((pt True)∧(T2 (bif (!(Zbu v.1)) then (T2 (rB false (Zbp v))) else (T5 (bif (neI (List.length v.2) 3) then (True∧(rB false (Zbp v))) else (True∧((∃ q:Nat,(q≤List.length v.2∧∀ j,j < q→sesOk v (ZaA v.2 j)=true)∧((lxs [.ag (ZmW v), .c (.bp 0 0)] (True∧vI 0 q∧True∧lxs [.c (.bp 0 0), .ag [.hs .no Zaf v.1.1, .hs .no Zae v.1.2.1, .int .i64 v.1.2.2], .c (.bool (Zbu v.1)), .c (.bool (!(Zbu v.1))), .c (.bool false), .c (.bp 0 3),hn Zag v.2,ci (List.length v.2), .c (.bool (neI (List.length v.2) 3)), .c (.bool false)] (TN 38 True)))∧pt (lb (.box (ZmW v))∧True)))∧∀ y0:Nat,(y0≤List.length v.2∧∀ j,j < y0→sesOk v (ZaA v.2 j)=true)→(T5 (bif (ltI y0 (List.length v.2)) then (T3 ((ix 17 y0 (List.length v.2))∧(T4 ((pt (List.length (ZaA v.2 y0).2.2.2.2.2.2.2.2.1.1≤rowMax))∧(T2 (bif (!(ZaG (ZaA v.2 y0))) then (T6 (rB false (Zbp v))) else (T9 (bif (gtI (ZaA v.2 y0).2.2.2.1 (List.length v.1.2.1)) then (T4 (rB false (Zbp v))) else (T3 ((pt True)∧(T3 (bif (!(ZjE v.1 (ZaA v.2 y0))) then (T2 (rB false (Zbp v))) else (T3 ((pt (List.length v.1.2.1≤1048576∧List.length (ZaA v.2 y0).2.2.2.2.2.2.2.2.1.1≤1048576))∧(T2 (bif (!(Zo2 v.1 (ZaA v.2 y0))) then (True∧(rB false (Zbp v))) else (T3 (∃ y0' : Nat,(y0'≤List.length v.2∧∀ j,j < y0'→sesOk v (ZaA v.2 j)=true)∧(List.length v.2 - y0') < (List.length v.2 - y0)∧((lxs [.ag (ZmW v), .c (.bp 0 0)] (True∧vI (w64 ((y0:Int) + 1)) y0'∧True∧lxs [.c (.bp 0 0), .ag [.hs .no Zaf v.1.1, .hs .no Zae v.1.2.1, .int .i64 v.1.2.2], .c (.bool (Zbu v.1)), .c (.bool (!(Zbu v.1))), .c (.bool false), .c (.bp 0 3),hn Zag v.2,ci (List.length v.2), .c (.bool (neI (List.length v.2) 3)), .c (.bool false)] (TN 38 True)))∧pt (lb (.box (ZmW v))∧True)))))))))))))))))))) else (True∧(rB true (Zbp v)))))))))))))) (by kernel_rfl) ?_
  unfold ZmW T2 T3 T4 T5 T6 T9
  have hm:List.length v.2≤1048576:=hpre.2.1
  simp only [Zbd,Zbs,ZaY,Bool.not_true,Bool.not_false,Zdy,eq_self]
  repeat' (first | apply And.intro | intro _)
  all_goals first
    | trivial
    | omega
    | exact ⟨0,⟨Nat.zero_le _,ZaH⟩,rfl⟩
    | exact hpre.1
    | exact hpre
    | (rename_i h; exact sv_1 h)
    | (rename_i h; exact sv_2 h)
    | exact ⟨hpre.1,smallW_nth hpre (by omega)⟩
    | (rename_i y hy hlt; exact smallW_nth hpre (by omega))
    | (rename_i y hy hlt h1 h2 h3; exact smallW_nth hpre (by omega))
    | exact (by have:=smallW_nth hpre (by assumption); unfold rowMax; omega)
    | (rename_i y hy hlt; exact Nat.le_trans (smallW_nth hpre (Int.ofNat_lt.1 hlt)) (by unfold rowMax; omega))
    | (rename_i y hy hlt h1; exact sv_3 (Int.ofNat_lt.1 hlt) (se_1 h1))
    | (rename_i y hy hlt h1 h2; exact sv_3 (Int.ofNat_lt.1 hlt) (se_2 (gtI_true.2 h2)))
    | (rename_i y hy hlt h1 h2 h3; exact sv_3 (Int.ofNat_lt.1 hlt) (ZKq h3))
    | (rename_i y hy hlt h1 h2 h3 h4; exact sv_3 (Int.ofNat_lt.1 hlt) (ZKr h1 h4))
    | (rename_i y hy hlt h1 h2 h3 h4; exact ⟨y + 1,⟨Int.ofNat_lt.1 hlt,ZaD hy.2 (ZKs h1 (Zek.2 h2) h3 h4)⟩,by omega,wk (by omega)⟩)
    | (rename_i h1 h2 y hy hge; exact sv_4 h1 h2 (fun j hj=>hy.2 j (by omega)))
def ZsZ:Zat Tryz.prog:=⟨10,[.s ZbP],fun x=>ZlB x.1,fun x=>.c (.bool (Zbp x.1)),fun _=>[],fun x hx=>ZsY x.1 hx,Tryz.call10⟩
end Go.Proofs.YtkompmgleojmlaaGreat
