import Derived.Test.YtafhbjjcpncfnaaGreatIBlStore
set_option linter.unusedSimpArgs false
set_option linter.unusedVariables false
set_option maxRecDepth 100000
set_option maxHeartbeats 4000000
namespace Go.Proofs.YtafhbjjcpncfnaaGreat
open Go.ChangeShapes Go.WideShapes Go.ChangeAt Go.RowKit Go.Joins Go.Deep
open GoRep (rep bulk)
def ZlW (l:List ZaA) (v a:Int):Nat→List Int
 | 0=>[]
 | k + 1=>if a≤((k:Nat):Int)∧(Zac l k).2.1=v∧4≤(Zac l k).1∧(Zac l k).1≤6 then ZlW l v a k ++ [((k:Nat):Int)] else ZlW l v a k
def Zbe (st:ZaI) (v a:Int):List Int:=ZlW st.2.1 v a st.2.1.length
theorem ZoA (l:List ZaA) (v a:Int):∀ k,(ZlW l v a k).length≤k
 | 0=>Nat.le_refl _
 | k + 1=>by
  have:=ZoA l v a k
  unfold ZlW
  split
  ·rw [List.length_append,List.length_singleton]; omega
  ·omega
theorem ZoB {l:List ZaA} {v a x:Int}:∀ {k:Nat},x ∈ ZlW l v a k→0≤x∧x < ((k:Nat):Int)
 | 0,h=>by cases h
 | k + 1,h=>by
  unfold ZlW at h
  split at h
  ·rcases List.mem_append.1 h with h | h
   ·have:=ZoB h; omega
   ·rw [List.mem_singleton.1 h]; omega
  ·have:=ZoB h; omega
theorem ZoC {l:List ZaA} {v a:Int}:∀ {k:Nat},((k:Nat):Int)≤a→ZlW l v a k=[]
 | 0,_=>rfl
 | k + 1,h=>by
  unfold ZlW
  rw [if_neg (by omega)]
  exact ZoC (by omega)
theorem ZFl {l:List ZaA} {v a:Int}:ZlW l v a (Int.toNat (max 0 a))=[]:=by
 by_cases h:a≤0
 ·rw [show Int.toNat (max 0 a)=0 by omega]; rfl
 ·exact ZoC (by omega)
theorem com_fin' {s:ZaI} {v a:Int} {y:Nat} (hy:y≤s.2.1.length) (hge:¬ ((y:Nat):Int) < ((s.2.1.length:Nat):Int)):ZlW s.2.1 v a y=Zbe s v a:=by
 have e:y=s.2.1.length:=by omega
 subst e
 rfl
theorem com_fin {s:ZaI} {v a:Int} {y:Nat} (hy:max 0 a≤((y:Nat):Int)∧(y≤s.2.1.length∨((y:Nat):Int)=max 0 a)) (hge:¬ ((y:Nat):Int) < ((s.2.1.length:Nat):Int)):ZlW s.2.1 v a y=Zbe s v a:=by
 by_cases h:y≤s.2.1.length
 ·exact com_fin' h hge
 ·unfold Zbe
  rw [ZoC (show ((y:Nat):Int)≤a by omega),ZoC (by omega)]
theorem ZEg {st:ZaI} {v a:Int} {k:Nat} (h:k < (Zbe st v a).length):0≤Zar (Zbe st v a) k∧Zar (Zbe st v a) k < ((st.2.1.length:Nat):Int) :=
 ZoB (List.mem_of_getElem? (Zat (t:=Zax) h))
theorem ZtI (m:ZaA) (v:Int):Zao Tryz.prog 185 [.ag (cellsOf Zag m), .c (.int .i64 v)] (.c (.bool (eqI m.2.1 v && btw m.1 4 6))) []:=by
 refine bc0 [ZcO] [] [] [] L0 Tryz.func185 (fun hwf=>?_)
 refine Eq.mpr (β:=T7 (bif eqI m.2.1 v then T2 (pt True∧T2 (rB (btw m.1 4 6) (eqI m.2.1 v && btw m.1 4 6))) else T2 (rB false (eqI m.2.1 v && btw m.1 4 6)))) (by kernel_rfl) ?_
 simp only [Zbu,ZbS,Zbn,Bool.not_true,Bool.not_false,Zeg,eq_self]
 repeat' (first | apply And.intro | intro _)
 all_goals first
  | trivial
  | omega
  | contradiction
  | exact ⟨rfl,rfl⟩
  | (show _ + 1≤rowMax; unfold rowMax; omega)
  | (simp only [Bool.true_and, *,eq_self,if_true,if_false,and_true,true_and,and_self,not_true,not_false,false_and,and_false,or_true,true_or,or_false,false_or,or_self,Bool.false_eq_true,reduceCtorEq,reduceIte,Int.reduceEq,not_false_eq_true,not_true_eq_false,ite_true,ite_false,Bool.and_true,Bool.true_and,Bool.and_false,Bool.false_and,Bool.or_true,Bool.true_or,Bool.or_false,Bool.false_or,Bool.not_true,Bool.not_false]; done)
  | (simp_all [Bool.true_and,eqI,neI,geI,eqS]; done)
def ZtJ:ZaE Tryz.prog:=⟨185,[.s Zag, .v Zax],fun x=>True,fun x=>.c (.bool (eqI x.1.2.1 x.2.1 && btw x.1.1 4 6)),fun _=>[],fun x hx=>ZtI x.1 x.2.1,Tryz.call185⟩
def ZtK (s:ZaI) (v:Int) (a:Int):Nat→List AV→Mem→Zbd
 | 3,tm,M=>⟨Nat,fun y=>(Zcf (Zcf (Zct tm [(7, .c (.row 1 0)),(14, .c (.int .i64 ((y:Nat):Int)))]) 8 3) 15 17,Zky M [(1, .row Zax (ZlW s.2.1 v a y) 0 0 none)]),fun y=>(y≤List.length s.2.1),fun y=>(List.length s.2.1 - y)⟩
 | _,_,_=>⟨Unit,fun _=>([],[]),fun _=>False,fun _=>0⟩
def Zlj (s:ZaI):List AC:=[.hs .no Zaj s.1, .hs .no Zag s.2.1, .int .i64 s.2.2]
def ZBl (s:ZaI) (y0:Nat) (v:Int) (a:Int):Prop:=T2 (∃ y0' : Nat,(y0'≤s.2.1.length)∧(s.2.1.length - y0') < (s.2.1.length - y0)∧lxs [.ag (Zlj s),ci v,ci a, .c (.bp 0 0), .tp [], .tp [], .c (.raw (.slice none 0 0)), .c (.row 1 0)] (TN 3 (lxs [.c (.bp 0 1),hn Zag s.2.1,ci s.2.1.length] (vI (w64 ((y0:Int) + 1)) y0'∧TN 17 (lxs [.tp []] True))))∧pt (lb (.box (Zlj s))∧leB (.row Zax (ZlW s.2.1 v a y0) 0 0 none) (.row Zax (ZlW s.2.1 v a y0') 0 0 none)∧True))
theorem ZtL (s:ZaI) (v:Int) (a:Int) (hpre:List.length s.2.1≤1048576):Zao Tryz.prog 125 [.ag (cellsOf ZbJ s), .c (.int .i64 v), .c (.int .i64 a)] (.c (.row 0 0)) [.row Zax (Zbe s v a) 0 0 none]:=by
 refine bc0 [ZtJ] [] [] [] (ZtK s v a) Tryz.func125 (fun hwf=>?_)
 refine Eq.mpr (β:=T8 ((∃ q:Nat,(q≤s.2.1.length)∧lxs [.ag (Zlj s),ci v,ci a, .c (.bp 0 0), .tp [], .tp [], .c (.raw (.slice none 0 0)), .c (.row 1 0)] (TN 3 (lxs [.c (.bp 0 1),hn Zag s.2.1,ci s.2.1.length] (vI 0 q∧TN 17 (lxs [.tp []] True))))∧pt (lb (.box (Zlj s))∧leB (.row Zax ([]:List Int) 0 0 none) (.row Zax (ZlW s.2.1 v a q) 0 0 none)∧True))∧∀ y0:Nat,(y0≤s.2.1.length)→True∧bif ltI y0 s.2.1.length then True∧ix 6 y0 s.2.1.length∧T8 (bif geI y0 a then T2 (pt True∧True∧bif eqI (Zac s.2.1 y0).2.1 v && btw (Zac s.2.1 y0).1 4 6 then T3 ((True∧List.length (ZlW s.2.1 v a y0) + List.length ([(y0:Int)])≤rowMax)∧T3 (∃ y0' : Nat,(y0'≤s.2.1.length)∧(s.2.1.length - y0') < (s.2.1.length - y0)∧lxs [.ag (Zlj s),ci v,ci a, .c (.bp 0 0), .tp [], .tp [], .c (.raw (.slice none 0 0)), .c (.row 1 0)] (TN 3 (lxs [.c (.bp 0 1),hn Zag s.2.1,ci s.2.1.length] (vI (w64 ((y0:Int) + 1)) y0'∧TN 17 (lxs [.tp []] True))))∧pt (lb (.box (Zlj s))∧leB (.row Zax ((ZlW s.2.1 v a y0) ++ [(y0:Int)]) 0 0 none) (.row Zax (ZlW s.2.1 v a y0') 0 0 none)∧True))) else ZBl s y0 v a) else True∧ZBl s y0 v a) else T2 (pt ((ZlW s.2.1 v a y0)=Zbe s v a)))) (by kernel_rfl) ?_
 unfold ZBl Zlj T2 T3 T8
 exact ZyT
def ZtM:ZaE Tryz.prog:=⟨125,[.s ZbJ, .v Zax, .v Zax],fun x=>List.length x.1.2.1≤1048576,fun x=>.c (.row 0 0),fun x=>[.row Zax (Zbe x.1 x.2.1 x.2.2.1) 0 0 none],fun x hx=>ZtL x.1 x.2.1 x.2.2.1 hx,Tryz.call125⟩
def ZtN (s:ZaI) (v:Int) (a:Int):Nat→List AV→Mem→Zbd
 | 3,tm,M=>⟨Nat,fun y=>(Zcf (Zct tm [(7, .c (.row 1 0)),(8, .c (.int .i64 ((y:Nat):Int))),(9, .any)]) 12 28,Zky M [(1, .row Zax (ZlW s.2.1 v a y) 0 0 none)]),fun y=>(max 0 a≤((y:Nat):Int)∧(y≤List.length s.2.1∨((y:Nat):Int)=max 0 a)),fun y=>(List.length s.2.1 - y)⟩
 | _,_,_=>⟨Unit,fun _=>([],[]),fun _=>False,fun _=>0⟩
def Zlk (s:ZaI):List AC:=[.hs .no Zaj s.1, .hs .no Zag s.2.1, .int .i64 s.2.2]
def ZBm (y0:Nat) (y0' : Nat) (a:Int):Prop:=vI (w64 ((y0:Int) + 1)) y0'∧True∧lxs [ci a,ci (max 0 a)] (TN 28 (lxs [.tp []] True))
def ZBn (a:Int) (s:ZaI) (y0:Nat) (v:Int):Prop:=T3 (∃ y0' : Nat,(max 0 a≤(y0' : Int)∧(y0'≤s.2.1.length∨(y0' : Int)=max 0 a))∧(s.2.1.length - y0') < (s.2.1.length - y0)∧lxs [.ag (Zlk s),ci v,ci a, .c (.bp 0 0), .tp [], .tp [], .c (.raw (.slice none 0 0)), .c (.row 1 0)] (ZBm y0 y0' a)∧pt (lb (.box (Zlk s))∧leB (.row Zax (ZlW s.2.1 v a y0) 0 0 none) (.row Zax (ZlW s.2.1 v a y0') 0 0 none)∧True))
theorem ZtO (s:ZaI) (v:Int) (a:Int) (hpre:List.length s.2.1≤1048576):Zao Tryz.prog 93 [.ag (cellsOf ZbJ s), .c (.int .i64 v), .c (.int .i64 a)] (.c (.row 0 0)) [.row Zax (Zbe s v a) 0 0 none]:=by
 refine bc0 [ZwG,ZcI] [] [] [] (ZtN s v a) Tryz.func93 (fun hwf=>?_)
 refine Eq.mpr (β:=T5 (pt True∧True∧(∃ q:Nat,(max 0 a≤(q:Int)∧(q≤s.2.1.length∨(q:Int)=max 0 a))∧lxs [.ag (Zlk s),ci v,ci a, .c (.bp 0 0), .tp [], .tp [], .c (.raw (.slice none 0 0)), .c (.row 1 0)] (vI (max 0 a) q∧True∧lxs [ci a,ci (max 0 a)] (TN 28 (lxs [.tp []] True)))∧pt (lb (.box (Zlk s))∧leB (.row Zax ([]:List Int) 0 0 none) (.row Zax (ZlW s.2.1 v a q) 0 0 none)∧True))∧∀ y0:Nat,(max 0 a≤(y0:Int)∧(y0≤s.2.1.length∨(y0:Int)=max 0 a))→T5 (bif ltI y0 s.2.1.length then T3 (ix 6 y0 s.2.1.length∧T5 (bif eqI (Zac s.2.1 y0).2.1 v then T3 (ix 6 y0 s.2.1.length∧T2 (pt True∧True∧bif btw (Zac s.2.1 y0).1 4 6 then T3 ((True∧List.length (ZlW s.2.1 v a y0) + List.length ([(y0:Int)])≤rowMax)∧T4 (∃ y0' : Nat,(max 0 a≤(y0' : Int)∧(y0'≤s.2.1.length∨(y0' : Int)=max 0 a))∧(s.2.1.length - y0') < (s.2.1.length - y0)∧lxs [.ag (Zlk s),ci v,ci a, .c (.bp 0 0), .tp [], .tp [], .c (.raw (.slice none 0 0)), .c (.row 1 0)] (ZBm y0 y0' a)∧pt (lb (.box (Zlk s))∧leB (.row Zax ((ZlW s.2.1 v a y0) ++ [(y0:Int)]) 0 0 none) (.row Zax (ZlW s.2.1 v a y0') 0 0 none)∧True))) else ZBn a s y0 v)) else True∧ZBn a s y0 v)) else T2 (pt ((ZlW s.2.1 v a y0)=Zbe s v a))))) (by kernel_rfl) ?_
 unfold ZBn ZBm Zlk T2 T3 T4 T5
 exact ZyT
def ZtP:ZaE Tryz.prog:=⟨93,[.s ZbJ, .v Zax, .v Zax],fun x=>List.length x.1.2.1≤1048576,fun x=>.c (.row 0 0),fun x=>[.row Zax (Zbe x.1 x.2.1 x.2.2.1) 0 0 none],fun x hx=>ZtO x.1 x.2.1 x.2.2.1 hx,Tryz.call93⟩
end Go.Proofs.YtafhbjjcpncfnaaGreat
