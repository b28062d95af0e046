import Derived.Test.YtkompmgleojmlaaGreatDBlStore
set_option linter.unusedSimpArgs false
set_option linter.unusedVariables false
set_option maxRecDepth 100000
set_option maxHeartbeats 4000000
namespace Go.Proofs.YtkompmgleojmlaaGreat
open Go.ChangeShapes Go.WideShapes Go.ChangeAt Go.RowKit Go.Joins Go.Deep
open GoRep (rep bulk)
def ZjX (l:List Zam) (v a:Int):Nat→List Int
  | 0=>[]
  | k + 1=>if a≤((k:Nat):Int)∧(Zab l k).2.1=v∧4≤(Zab l k).1∧(Zab l k).1≤6 then ZjX l v a k ++ [((k:Nat):Int)] else ZjX l v a k
def ZaO (st:Zau) (v a:Int):List Int:=ZjX st.2.1 v a st.2.1.length
theorem Zmh (l:List Zam) (v a:Int):∀ k,(ZjX l v a k).length≤k
  | 0=>Nat.le_refl _
  | k + 1=>by
    have:=Zmh l v a k
    unfold ZjX
    split
    · rw [List.length_append,List.length_singleton]; omega
    · omega
theorem Zmi {l:List Zam} {v a x:Int}:∀ {k:Nat},x ∈ ZjX l v a k→0≤x∧x < ((k:Nat):Int)
  | 0,h=>by cases h
  | k + 1,h=>by
    unfold ZjX at h
    split at h
    · rcases List.mem_append.1 h with h | h
      · have:=Zmi h; omega
      · rw [List.mem_singleton.1 h]; omega
    · have:=Zmi h; omega
theorem Zmj {l:List Zam} {v a:Int}:∀ {k:Nat},((k:Nat):Int)≤a→ZjX l v a k=[]
  | 0,_=>rfl
  | k + 1,h=>by
    unfold ZjX
    rw [if_neg (by omega)]
    exact Zmj (by omega)
theorem ZAO {l:List Zam} {v a:Int}:ZjX l v a (Int.toNat (max 0 a))=[]:=by
  by_cases h:a≤0
  · rw [show Int.toNat (max 0 a)=0 by omega]; rfl
  · exact Zmj (by omega)
theorem com_fin' {s:Zau} {v a:Int} {y:Nat} (hy:y≤s.2.1.length) (hge:¬ ((y:Nat):Int) < ((s.2.1.length:Nat):Int)):ZjX s.2.1 v a y=ZaO s v a:=by
  have e:y=s.2.1.length:=by omega
  subst e
  rfl
theorem com_fin {s:Zau} {v a:Int} {y:Nat} (hy:max 0 a≤((y:Nat):Int)∧(y≤s.2.1.length∨((y:Nat):Int)=max 0 a)) (hge:¬ ((y:Nat):Int) < ((s.2.1.length:Nat):Int)):ZjX s.2.1 v a y=ZaO s v a:=by
  by_cases h:y≤s.2.1.length
  · exact com_fin' h hge
  · unfold ZaO
    rw [Zmj (show ((y:Nat):Int)≤a by omega),Zmj (by omega)]
theorem ZzM {st:Zau} {v a:Int} {k:Nat} (h:k < (ZaO st v a).length):0≤Zaj (ZaO st v a) k∧Zaj (ZaO st v a) k < ((st.2.1.length:Nat):Int) :=
  Zmi (List.mem_of_getElem? (Zap (t:=ZaC) h))
theorem ZqH (m:Zam) (v:Int):Zai Tryz.prog 186 [.ag (cellsOf Zae m), .c (.int .i64 v)] (.c (.bool (eqI m.2.1 v && btw m.1 4 6))) []:=by
  refine bc0 [Zb0] [] [] [] L0 Tryz.func186 (fun hwf=>?_)
  refine Eq.mpr (β:=(T7 (bif (eqI m.2.1 v) then (T2 ((pt True)∧(T2 (rB (btw m.1 4 6) (eqI m.2.1 v && btw m.1 4 6))))) else (T2 (rB false (eqI m.2.1 v && btw m.1 4 6)))))) (by kernel_rfl) ?_
  simp only [Zbd,Zbs,ZaY,Bool.not_true,Bool.not_false,Zdy,eq_self]
  repeat' (first | apply And.intro | intro _)
  all_goals first
    | trivial
    | omega
    | contradiction
    | exact ⟨rfl,rfl⟩
    | (show _ + 1≤rowMax; unfold rowMax; omega)
    | (simp only [Bool.true_and, *,eq_self,if_true,if_false,and_true,true_and,and_self,not_true,not_false,false_and,and_false,or_true,true_or,or_false,false_or,or_self,Bool.false_eq_true,reduceCtorEq,reduceIte,Int.reduceEq,not_false_eq_true,not_true_eq_false,ite_true,ite_false,Bool.and_true,Bool.true_and,Bool.and_false,Bool.false_and,Bool.or_true,Bool.true_or,Bool.or_false,Bool.false_or,Bool.not_true,Bool.not_false]; done)
    | (simp_all [Bool.true_and,eqI,neI,geI,eqS]; done)
def ZqI:Zat Tryz.prog:=⟨186,[.s Zae, .v ZaC],fun x=>True,fun x=>.c (.bool (eqI x.1.2.1 x.2.1 && btw x.1.1 4 6)),fun _=>[],fun x hx=>ZqH x.1 x.2.1,Tryz.call186⟩
def ZqJ (s:Zau) (v:Int) (a:Int):Nat→List AV→Mem→Za3
  | 3,tm,M=>⟨Nat,fun y=>(Zb2 (Zb2 (Zcx tm [(7, .c (.row 1 0)),(14, .c (.int .i64 ((y:Nat):Int)))]) 8 3) 15 17,ZrZ M [(1, .row ZaC (ZjX s.2.1 v a y) 0 0 none)]),fun y=>(y≤List.length s.2.1),fun y=>(List.length s.2.1 - y)⟩
  | _,_,_=>⟨Unit,fun _=>([],[]),fun _=>False,fun _=>0⟩
def Zjm (s:Zau):List AC:=[.hs .no Zaf s.1, .hs .no Zae s.2.1, .int .i64 s.2.2]
def Zxa (s:Zau) (y0:Nat) (v:Int) (a:Int):Prop:=(T2 (∃ y0' : Nat,(y0'≤List.length s.2.1)∧(List.length s.2.1 - y0') < (List.length s.2.1 - y0)∧((lxs [.ag (Zjm s),ci v,ci a, .c (.bp 0 0), .tp [], .tp [], .c (.raw (.slice none 0 0)), .c (.row 1 0)] (TN 3 (lxs [.c (.bp 0 1),hn Zae s.2.1,ci (List.length s.2.1)] (vI (w64 ((y0:Int) + 1)) y0'∧TN 17 (lxs [.tp []] True)))))∧pt (lb (.box (Zjm s))∧leB (.row ZaC (ZjX s.2.1 v a y0) 0 0 none) (.row ZaC (ZjX s.2.1 v a y0') 0 0 none)∧True))))
theorem ZqK (s:Zau) (v:Int) (a:Int) (hpre:List.length s.2.1≤1048576):Zai Tryz.prog 107 [.ag (cellsOf Zbr s), .c (.int .i64 v), .c (.int .i64 a)] (.c (.row 0 0)) [.row ZaC (ZaO s v a) 0 0 none]:=by
  refine bc0 [ZqI] [] [] [] (ZqJ s v a) Tryz.func107 (fun hwf=>?_)
  refine Eq.mpr (β:=(T8 ((∃ q:Nat,(q≤List.length s.2.1)∧((lxs [.ag (Zjm s),ci v,ci a, .c (.bp 0 0), .tp [], .tp [], .c (.raw (.slice none 0 0)), .c (.row 1 0)] (TN 3 (lxs [.c (.bp 0 1),hn Zae s.2.1,ci (List.length s.2.1)] (vI 0 q∧TN 17 (lxs [.tp []] True)))))∧pt (lb (.box (Zjm s))∧leB (.row ZaC ([]:List Int) 0 0 none) (.row ZaC (ZjX s.2.1 v a q) 0 0 none)∧True)))∧∀ y0:Nat,(y0≤List.length s.2.1)→(True∧(bif (ltI y0 (List.length s.2.1)) then (True∧((ix 6 y0 (List.length s.2.1))∧(T8 (bif (geI y0 a) then (T2 ((pt True)∧(True∧(bif (eqI (Zab s.2.1 y0).2.1 v && btw (Zab s.2.1 y0).1 4 6) then (T3 ((True∧List.length (ZjX s.2.1 v a y0) + List.length ([(y0:Int)])≤rowMax)∧(T3 (∃ y0' : Nat,(y0'≤List.length s.2.1)∧(List.length s.2.1 - y0') < (List.length s.2.1 - y0)∧((lxs [.ag (Zjm s),ci v,ci a, .c (.bp 0 0), .tp [], .tp [], .c (.raw (.slice none 0 0)), .c (.row 1 0)] (TN 3 (lxs [.c (.bp 0 1),hn Zae s.2.1,ci (List.length s.2.1)] (vI (w64 ((y0:Int) + 1)) y0'∧TN 17 (lxs [.tp []] True)))))∧pt (lb (.box (Zjm s))∧leB (.row ZaC ((ZjX s.2.1 v a y0) ++ [(y0:Int)]) 0 0 none) (.row ZaC (ZjX s.2.1 v a y0') 0 0 none)∧True)))))) else (Zxa s y0 v a))))) else (True∧(Zxa s y0 v a)))))) else (T2 (pt ((ZjX s.2.1 v a y0)=(ZaO s v a))))))))) (by kernel_rfl) ?_
  unfold Zxa Zjm T2 T3 T8
  exact ZuS
def ZqL:Zat Tryz.prog:=⟨107,[.s Zbr, .v ZaC, .v ZaC],fun x=>List.length x.1.2.1≤1048576,fun x=>.c (.row 0 0),fun x=>[.row ZaC (ZaO x.1 x.2.1 x.2.2.1) 0 0 none],fun x hx=>ZqK x.1 x.2.1 x.2.2.1 hx,Tryz.call107⟩
def ZqM (s:Zau) (v:Int) (a:Int):Nat→List AV→Mem→Za3
  | 3,tm,M=>⟨Nat,fun y=>(Zb2 (Zcx tm [(7, .c (.row 1 0)),(8, .c (.int .i64 ((y:Nat):Int))),(9, .any)]) 12 28,ZrZ M [(1, .row ZaC (ZjX s.2.1 v a y) 0 0 none)]),fun y=>(max 0 a≤((y:Nat):Int)∧(y≤List.length s.2.1∨((y:Nat):Int)=max 0 a)),fun y=>(List.length s.2.1 - y)⟩
  | _,_,_=>⟨Unit,fun _=>([],[]),fun _=>False,fun _=>0⟩
def Zjn (s:Zau):List AC:=[.hs .no Zaf s.1, .hs .no Zae s.2.1, .int .i64 s.2.2]
def Zxb (y0:Nat) (y0' : Nat) (a:Int):Prop:=(vI (w64 ((y0:Int) + 1)) y0'∧True∧lxs [ci a,ci (max 0 a)] (TN 28 (lxs [.tp []] True)))
def Zxc (a:Int) (s:Zau) (y0:Nat) (v:Int):Prop:=(T3 (∃ y0' : Nat,(max 0 a≤(y0' : Int)∧(y0'≤List.length s.2.1∨(y0' : Int)=max 0 a))∧(List.length s.2.1 - y0') < (List.length s.2.1 - y0)∧((lxs [.ag (Zjn s),ci v,ci a, .c (.bp 0 0), .tp [], .tp [], .c (.raw (.slice none 0 0)), .c (.row 1 0)] (Zxb y0 y0' a))∧pt (lb (.box (Zjn s))∧leB (.row ZaC (ZjX s.2.1 v a y0) 0 0 none) (.row ZaC (ZjX s.2.1 v a y0') 0 0 none)∧True))))
theorem ZqN (s:Zau) (v:Int) (a:Int) (hpre:List.length s.2.1≤1048576):Zai Tryz.prog 84 [.ag (cellsOf Zbr s), .c (.int .i64 v), .c (.int .i64 a)] (.c (.row 0 0)) [.row ZaC (ZaO s v a) 0 0 none]:=by
  refine bc0 [ZsR,ZbW] [] [] [] (ZqM s v a) Tryz.func84 (fun hwf=>?_)
  refine Eq.mpr (β:=(T5 ((pt True)∧(True∧((∃ q:Nat,(max 0 a≤(q:Int)∧(q≤List.length s.2.1∨(q:Int)=max 0 a))∧((lxs [.ag (Zjn s),ci v,ci a, .c (.bp 0 0), .tp [], .tp [], .c (.raw (.slice none 0 0)), .c (.row 1 0)] (vI (max 0 a) q∧True∧lxs [ci a,ci (max 0 a)] (TN 28 (lxs [.tp []] True))))∧pt (lb (.box (Zjn s))∧leB (.row ZaC ([]:List Int) 0 0 none) (.row ZaC (ZjX s.2.1 v a q) 0 0 none)∧True)))∧∀ y0:Nat,(max 0 a≤(y0:Int)∧(y0≤List.length s.2.1∨(y0:Int)=max 0 a))→(T5 (bif (ltI y0 (List.length s.2.1)) then (T3 ((ix 6 y0 (List.length s.2.1))∧(T5 (bif (eqI (Zab s.2.1 y0).2.1 v) then (T3 ((ix 6 y0 (List.length s.2.1))∧(T2 ((pt True)∧(True∧(bif btw (Zab s.2.1 y0).1 4 6 then (T3 ((True∧List.length (ZjX s.2.1 v a y0) + List.length ([(y0:Int)])≤rowMax)∧(T4 (∃ y0' : Nat,(max 0 a≤(y0' : Int)∧(y0'≤List.length s.2.1∨(y0' : Int)=max 0 a))∧(List.length s.2.1 - y0') < (List.length s.2.1 - y0)∧((lxs [.ag (Zjn s),ci v,ci a, .c (.bp 0 0), .tp [], .tp [], .c (.raw (.slice none 0 0)), .c (.row 1 0)] (Zxb y0 y0' a))∧pt (lb (.box (Zjn s))∧leB (.row ZaC ((ZjX s.2.1 v a y0) ++ [(y0:Int)]) 0 0 none) (.row ZaC (ZjX s.2.1 v a y0') 0 0 none)∧True)))))) else (Zxc a s y0 v))))))) else (True∧(Zxc a s y0 v)))))) else (T2 (pt ((ZjX s.2.1 v a y0)=(ZaO s v a))))))))))) (by kernel_rfl) ?_
  unfold Zxc Zxb Zjn T2 T3 T4 T5
  exact ZuS
def ZqO:Zat Tryz.prog:=⟨84,[.s Zbr, .v ZaC, .v ZaC],fun x=>List.length x.1.2.1≤1048576,fun x=>.c (.row 0 0),fun x=>[.row ZaC (ZaO x.1 x.2.1 x.2.2.1) 0 0 none],fun x hx=>ZqN x.1 x.2.1 x.2.2.1 hx,Tryz.call84⟩
end Go.Proofs.YtkompmgleojmlaaGreat
