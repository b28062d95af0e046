import Derived.Test.YtkompmgleojmlaaGreatFBlCpy
import Derived.Test.YtkompmgleojmlaaGreatFBlNotes
import Derived.Test.YtkompmgleojmlaaGreatFBlPush
set_option linter.unusedSimpArgs false
set_option linter.unusedVariables false
set_option maxRecDepth 100000
set_option maxHeartbeats 4000000
namespace Go.Proofs.YtkompmgleojmlaaGreat
open Go.ChangeShapes Go.WideShapes Go.ChangeAt Go.RowKit Go.Joins Go.Deep
open GoRep (rep bulk)
def ZKi (s:Zal) (q:ZaU):Zal:=(s.1,s.2.1,s.2.2.1,s.2.2.2.1,s.2.2.2.2.1,s.2.2.2.2.2.1,s.2.2.2.2.2.2.1,s.2.2.2.2.2.2.2.1,q,s.2.2.2.2.2.2.2.2.2)
def ZfJ (st:Za7) (n:Int) (s:Zal):Zal:=ZKi s (Za1 s.2.2.2.2.2.2.2.2.1 (Zb7 st s n) (List.length (Zb7 st s n)))
def Ze2 (f:Zal→Zal) (l:List Zal) (j:Nat):List Zal:=(List.take j l).map f ++ List.drop j l
def fanN (st:Za7) (l:List Zal) (a:Int):Nat→List Zal
  | 0=>l
  | k + 1=>(fanN st l a k).map (ZfJ st (a + ((k:Nat):Int)))
def ZdH (v:Za6) (n:Int):Za6:=(v.1,fanN v.1 v.2 (max n 0) (Int.toNat (((List.length v.1.2.1:Nat):Int) - max n 0)))
theorem Zx2 {q:ZaU} {n:Zay} (h:List.length q.1≤1048576):List.length (Zba q n).1≤1048576:=by
  have h1:=Zn7 q n
  by_cases hq:Zcf q=true
  · have h2:List.length q.1≤6:=(of_decide_eq_true hq).2
    omega
  · have e:Zba q n=q:=if_neg (fun h=>hq h.1)
    rw [e]; exact h
theorem ZnC {q:ZaU} {l:List Zay} (h:List.length q.1≤1048576):∀ k,List.length (Za1 q l k).1≤1048576
  | 0=>h
  | k + 1=>Zx2 (ZnC h k)
theorem ZBi {st:Za7} {n:Int} {s:Zal} (h:ZdB s):ZdB (ZfJ st n s):=⟨h.1,h.2.1,ZnC h.2.2 _⟩
theorem Zm9 (st:Za7) (l:List Zal) (a:Int):∀ k,(fanN st l a k).length=l.length
  | 0=>rfl
  | k + 1=>by
    have:=Zm9 st l a k
    unfold fanN
    rw [List.length_map,this]
theorem Zjm {st:Za7} {l:List Zal} {a:Int} (h:∀ x ∈ l,ZdB x):∀ k,∀ x ∈ fanN st l a k,ZdB x
  | 0=>h
  | k + 1=>fun x hx=>by
    unfold fanN at hx
    obtain ⟨y,hy,rfl⟩:=List.mem_map.1 hx
    exact ZBi (Zjm h k y hy)
theorem Zz9 (f:Zal→Zal) (l:List Zal) (j:Nat):(Ze2 f l j).length=l.length:=by
  unfold Ze2
  rw [List.length_append,List.length_map,List.length_take,List.length_drop]
  omega
theorem ZDo (f:Zal→Zal) (l:List Zal):Ze2 f l 0=l:=rfl
theorem ZFC (f:Zal→Zal) (l:List Zal):Ze2 f l l.length=l.map f:=by
  unfold Ze2
  rw [List.take_length,List.drop_length,List.append_nil]
theorem ZAa {f:Zal→Zal} {l:List Zal} {j:Nat} (h:j < l.length):Zaa (Ze2 f l j) j=Zaa l j:=by
  have h1:(Ze2 f l j)[j]?=l[j]?:=by
    unfold Ze2
    rw [List.getElem?_append_right (by rw [List.length_map,List.length_take]; omega),List.getElem?_drop,List.length_map,List.length_take]
    congr 1
    omega
  exact ZbU (t:=Zae) (h1.trans (Zau (t:=Zae) h))
theorem ZFD {f:Zal→Zal} {l:List Zal} {j:Nat} (h:j < l.length):List.set (Ze2 f l j) j (f (Zaa l j))=Ze2 f l (j + 1):=by
  have h0:l[j]?=some (Zaa l j):=Zau (t:=Zae) h
  have h1:l[j]=Zaa l j:=by
    rw [List.getElem?_eq_getElem h] at h0
    exact Option.some.inj h0
  unfold Ze2
  rw [List.set_append_right _ _ (by rw [List.length_map,List.length_take]; omega),List.length_map,List.length_take,Nat.min_eq_left (by omega),Nat.sub_self,List.drop_eq_getElem_cons h,List.set_cons_zero,List.take_add_one,h0,List.map_append,List.append_assoc]
  rfl
def ZlM (v:Za6) (n:Int):Nat→List AV→Mem→Zbn
  | 1,tm,M=>⟨Nat,fun y=>(ZcN (ZcV tm [(4, .c (.int .i64 (max n 0 + ((y:Nat):Int)))),(5, .any),(6, .any)]) 9 38,Zjs M [(3, .row Zae (fanN v.1 v.2 (max n 0) y) 0 0 none)]),fun y=>(y≤Int.toNat (((List.length v.1.2.1:Nat):Int) - max n 0)),fun y=>(Int.toNat (((List.length v.1.2.1:Nat):Int) - max n 0) - y)⟩
  | 4,tm,M=>⟨Nat,fun y=>(ZcN (ZcV tm [(5, .any),(6, .any),(24, .c (.int .i64 ((y:Nat):Int)))]) 25 22,Zjs M [(3, .row Zae (Ze2 (ZfJ v.1 (tmI tm 4)) (rwL Zae M 3) y) 0 0 none)]),fun y=>(y≤List.length (rwL Zae M 3)),fun y=>(List.length (rwL Zae M 3) - y)⟩
  | _,_,_=>⟨Unit,fun _=>([],[]),fun _=>False,fun _=>0⟩
def Zx3 (y1:Nat) (v:Za6) (n:Int) (y0:Nat):Prop:=(ix 17 y1 (List.length (Ze2 (ZfJ v.1 (max n 0 + (y0:Int))) (fanN v.1 v.2 (max n 0) y0) y1)))
theorem ZlN (v:Za6) (n:Int) (hpre:Zc8 v):Zc0 Tryz.prog 50 (ZcX 0 [(.m Zbp),(.a (.v ZaC))] (v,n,())) (Zga 0 [(.m Zbp),(.a (.v ZaC))] (v,n,())) (ZdF 0 [(.m Zbp),(.a (.v ZaC))] (ZdH v n,n,()) ++ []) (inpM 0 [(.m Zbp),(.a (.v ZaC))]) (.tp []):=by
  refine Zb1 (T:=⟨[ZtN,ZBG],[],[],[],none,fun _=>[],4,[],[]⟩) (L:=(ZlM v n)) Tryz.func50 rfl rfl rfl (by kernel_rfl) (fun hwf hwm=>?_)
  refine Eq.mpr (β:=(True∧(IntKind.i64=IntKind.i64∧(True∧((∃ q:Nat,(q≤Int.toNat ((List.length v.1.2.1:Int) - max n 0))∧((lxs [.c (.bp 0 0),ci n, .tp [], .tp []] (vI (if (0:Int) > n then 0 else n) (max n 0 + (q:Int))∧True∧True∧lxs [ci n,ci (if (0:Int) > n then 0 else n)] (TN 38 True)))∧pt (lb (.box [.row 1 0, .row 2 0, .int .i64 v.1.2.2, .row 3 0])∧lb (.row Zak v.1.1 0 0 none)∧lb (.row Zah v.1.2.1 0 0 none)∧leB (.row Zae v.2 0 0 none) (.row Zae (fanN v.1 v.2 (max n 0) q) 0 0 none)∧True)))∧∀ y0:Nat,(y0≤Int.toNat ((List.length v.1.2.1:Int) - max n 0))→(T8 (bif (ltI (max n 0 + (y0:Int)) (List.length v.1.2.1)) then (T6 ((∃ q:Nat,(q≤List.length (fanN v.1 v.2 (max n 0) y0))∧((lxs [.c (.bp 0 0),ci n, .tp [], .tp [],ci (max n 0 + (y0:Int))] (True∧True∧lxs [ci n,ci (if (0:Int) > n then 0 else n),ci (max n 0 + (y0:Int)), .c (.bp 0 0), .c (.bp 0 0), .c (.bp 0 0), .c (.bp 0 1), .c (.row 2 0),ci (List.length v.1.2.1), .c (.bool true)] (True∧True∧lxs [.c (.bp 0 0), .c (.bp 0 0), .c (.bp 0 3), .c (.row 3 0),ci (List.length (fanN v.1 v.2 (max n 0) y0))] (vI 0 q∧TN 22 True))))∧pt (lb (.box [.row 1 0, .row 2 0, .int .i64 v.1.2.2, .row 3 0])∧lb (.row Zak v.1.1 0 0 none)∧lb (.row Zah v.1.2.1 0 0 none)∧leB (.row Zae (fanN v.1 v.2 (max n 0) y0) 0 0 none) (.row Zae (Ze2 (ZfJ v.1 (max n 0 + (y0:Int))) (fanN v.1 v.2 (max n 0) y0) q) 0 0 none)∧True)))∧∀ y1:Nat,(y1≤List.length (fanN v.1 v.2 (max n 0) y0))→(True∧(bif (ltI y1 (List.length (fanN v.1 v.2 (max n 0) y0))) then (True∧((Zx3 y1 v n y0)∧(T4 ((pt (true=true))∧(T12 (True∧((True∧pt (true=true))∧(((List.length (Zaa (Ze2 (ZfJ v.1 (max n 0 + (y0:Int))) (fanN v.1 v.2 (max n 0) y0) y1) y1).2.2.2.2.2.2.2.2.1.1≤1048576∧List.length (Zb7 v.1 (Zaa (Ze2 (ZfJ v.1 (max n 0 + (y0:Int))) (fanN v.1 v.2 (max n 0) y0) y1) y1) (max n 0 + (y0:Int)))≤1048576)∧pt (true=true))∧((Zx3 y1 v n y0)∧(T2 (∀ r2:List Zal,r2=(List.set (Ze2 (ZfJ v.1 (max n 0 + (y0:Int))) (fanN v.1 v.2 (max n 0) y0) y1) y1 ((Zaa (Ze2 (ZfJ v.1 (max n 0 + (y0:Int))) (fanN v.1 v.2 (max n 0) y0) y1) y1).1,((Zaa (Ze2 (ZfJ v.1 (max n 0 + (y0:Int))) (fanN v.1 v.2 (max n 0) y0) y1) y1).2.1,((Zaa (Ze2 (ZfJ v.1 (max n 0 + (y0:Int))) (fanN v.1 v.2 (max n 0) y0) y1) y1).2.2.1,((Zaa (Ze2 (ZfJ v.1 (max n 0 + (y0:Int))) (fanN v.1 v.2 (max n 0) y0) y1) y1).2.2.2.1,((Zaa (Ze2 (ZfJ v.1 (max n 0 + (y0:Int))) (fanN v.1 v.2 (max n 0) y0) y1) y1).2.2.2.2.1,((Zaa (Ze2 (ZfJ v.1 (max n 0 + (y0:Int))) (fanN v.1 v.2 (max n 0) y0) y1) y1).2.2.2.2.2.1,((Zaa (Ze2 (ZfJ v.1 (max n 0 + (y0:Int))) (fanN v.1 v.2 (max n 0) y0) y1) y1).2.2.2.2.2.2.1,((Zaa (Ze2 (ZfJ v.1 (max n 0 + (y0:Int))) (fanN v.1 v.2 (max n 0) y0) y1) y1).2.2.2.2.2.2.2.1,((Za1 (Zaa (Ze2 (ZfJ v.1 (max n 0 + (y0:Int))) (fanN v.1 v.2 (max n 0) y0) y1) y1).2.2.2.2.2.2.2.2.1 (Zb7 v.1 (Zaa (Ze2 (ZfJ v.1 (max n 0 + (y0:Int))) (fanN v.1 v.2 (max n 0) y0) y1) y1) (max n 0 + (y0:Int))) (List.length (Zb7 v.1 (Zaa (Ze2 (ZfJ v.1 (max n 0 + (y0:Int))) (fanN v.1 v.2 (max n 0) y0) y1) y1) (max n 0 + (y0:Int))))),(Zaa (Ze2 (ZfJ v.1 (max n 0 + (y0:Int))) (fanN v.1 v.2 (max n 0) y0) y1) y1).2.2.2.2.2.2.2.2.2))))))))))→(T2 (∃ y1' : Nat,(y1'≤List.length (fanN v.1 v.2 (max n 0) y0))∧(List.length (fanN v.1 v.2 (max n 0) y0) - y1') < (List.length (fanN v.1 v.2 (max n 0) y0) - y1)∧((lxs [.c (.bp 0 0),ci n, .tp [], .tp [],ci (max n 0 + (y0:Int))] (True∧True∧lxs [ci n,ci (if (0:Int) > n then 0 else n),ci (max n 0 + (y0:Int)), .c (.bp 0 0), .c (.bp 0 0), .c (.bp 0 0), .c (.bp 0 1), .c (.row 2 0),ci (List.length v.1.2.1), .c (.bool true)] (True∧True∧lxs [.c (.bp 0 0), .c (.bp 0 0), .c (.bp 0 3), .c (.row 3 0),ci (List.length (fanN v.1 v.2 (max n 0) y0))] (vI (w64 ((y1:Int) + 1)) y1'∧TN 22 True))))∧pt (lb (.box [.row 1 0, .row 2 0, .int .i64 v.1.2.2, .row 3 0])∧lb (.row Zak v.1.1 0 0 none)∧lb (.row Zah v.1.2.1 0 0 none)∧leB (.row Zae r2 0 0 none) (.row Zae (Ze2 (ZfJ v.1 (max n 0 + (y0:Int))) (fanN v.1 v.2 (max n 0) y0) y1') 0 0 none)∧True))))))))))))))) else (T3 (∃ y0' : Nat,(y0'≤Int.toNat ((List.length v.1.2.1:Int) - max n 0))∧(Int.toNat ((List.length v.1.2.1:Int) - max n 0) - y0') < (Int.toNat ((List.length v.1.2.1:Int) - max n 0) - y0)∧((lxs [.c (.bp 0 0),ci n, .tp [], .tp []] (vI (w64 ((max n 0 + (y0:Int)) + 1)) (max n 0 + (y0' : Int))∧True∧True∧lxs [ci n,ci (if (0:Int) > n then 0 else n)] (TN 38 True)))∧pt (lb (.box [.row 1 0, .row 2 0, .int .i64 v.1.2.2, .row 3 0])∧lb (.row Zak v.1.1 0 0 none)∧lb (.row Zah v.1.2.1 0 0 none)∧leB (.row Zae (Ze2 (ZfJ v.1 (max n 0 + (y0:Int))) (fanN v.1 v.2 (max n 0) y0) y1) 0 0 none) (.row Zae (fanN v.1 v.2 (max n 0) y0') 0 0 none)∧True)))))))) else (pt (((((v.1.1=(ZdH v n).1.1)∧(v.1.2.1=(ZdH v n).1.2.1)∧(cI v.1.2.2 (ZdH v n).1.2.2)∧((fanN v.1 v.2 (max n 0) y0)=(ZdH v n).2)∧True))∧True)∧((True))))))))))) (by kernel_rfl) ?_
  unfold Zx3 T12 T2 T3 T4 T6 T8
  exact Zxe
def ZlO:Zcd Tryz.prog:=⟨50,[(.m Zbp),(.a (.v ZaC))],fun x=>Zc8 x.1,fun x=>(ZdH x.1 x.2.1,x.2.1,()),fun x=>.tp [],fun _=>[],fun x hx=>ZlN x.1 x.2.1 hx,Tryz.call50⟩
theorem ZBj (v:Za6) (n:Int) (hpre:Zc8 v):Zat Tryz.prog 15 [.ag (cellsOf Zbp v), .c (.int .i64 n)] (.ag [.row 0 0, .row 1 0, .int .i64 (ZdH v n).1.2.2, .row 2 0]) [.row Zak (ZdH v n).1.1 0 0 none, .row Zah (ZdH v n).1.2.1 0 0 none, .row Zae (ZdH v n).2 0 0 none]:=by
  refine bc0 [ZpX] [] [] [ZlO] L0 Tryz.func15 (fun hwf=>?_)
  refine Eq.mpr (β:=(T3 ((pt (Zc8 v))∧(T3 ((pt (Zc8 v∧((((v.1.1=v.1.1)∧(v.1.2.1=v.1.2.1)∧(cI v.1.2.2 v.1.2.2)∧(v.2=v.2)∧True))∧True)))∧∀ r0:List ZaM,r0=(ZdH v n).1.1→∀ r1:List Zax,r1=(ZdH v n).1.2.1→∀ r2:List Zal,r2=(ZdH v n).2→(T2 (pt (((r0=(ZdH v n).1.1)∧(r1=(ZdH v n).1.2.1)∧(cI (ZdH v n).1.2.2 (ZdH v n).1.2.2)∧(r2=(ZdH v n).2)∧True))))))))) (by kernel_rfl) ?_
  exact Zxe
def ZBk:ZaI Tryz.prog:=⟨15,[.s Zbp, .v ZaC],fun x=>Zc8 x.1,fun x=>.ag [.row 0 0, .row 1 0, .int .i64 (ZdH x.1 x.2.1).1.2.2, .row 2 0],fun x=>[.row Zak (ZdH x.1 x.2.1).1.1 0 0 none, .row Zah (ZdH x.1 x.2.1).1.2.1 0 0 none, .row Zae (ZdH x.1 x.2.1).2 0 0 none],fun x hx=>ZBj x.1 x.2.1 hx,Tryz.call15⟩
def ZBl (v:Za6) (n:Int):Nat→List AV→Mem→Zbn
  | 3,tm,M=>⟨Nat,fun y=>(ZcN (ZcV tm [(6, .c (.int .i64 (max n 0 + ((y:Nat):Int)))),(7, .any)]) 12 36,Zjs M [(4, .row Zae (fanN v.1 v.2 (max n 0) y) 0 0 none)]),fun y=>(y≤Int.toNat (((List.length v.1.2.1:Nat):Int) - max n 0)),fun y=>(Int.toNat (((List.length v.1.2.1:Nat):Int) - max n 0) - y)⟩
  | 6,tm,M=>⟨Nat,fun y=>(ZcN (ZcV tm [(7, .c (.int .i64 ((y:Nat):Int)))]) 20 28,Zjs M [(4, .row Zae (Ze2 (ZfJ v.1 (tmI tm 6)) (rwL Zae M 4) y) 0 0 none)]),fun y=>(y≤List.length (rwL Zae M 4)),fun y=>(List.length (rwL Zae M 4) - y)⟩
  | _,_,_=>⟨Unit,fun _=>([],[]),fun _=>False,fun _=>0⟩
def Zes (v:Za6):List AC:=[.hs .no Zak v.1.1, .hs .no Zah v.1.2.1, .int .i64 v.1.2.2, .hs .no Zae v.2]
def ZrB (y1:Nat) (v:Za6) (n:Int) (y0:Nat):Prop:=(ix 17 y1 (List.length (Ze2 (ZfJ v.1 (max n 0 + (y0:Int))) (fanN v.1 v.2 (max n 0) y0) y1)))
def ZhN (v:Za6):List AC:=[.row 2 0, .row 3 0, .int .i64 v.1.2.2, .row 4 0]
def ZnD:List AC:=[.raw (.slice none 0 0), .raw (.slice none 0 0), .int .i64 0, .raw (.slice none 0 0)]
theorem ZBm (v:Za6) (n:Int) (hpre:Zc8 v):Zat Tryz.prog 14 [.ag (cellsOf Zbp v), .c (.int .i64 n)] (.ag [.row 0 0, .row 1 0, .int .i64 (ZdH v n).1.2.2, .row 2 0]) [.row Zak (ZdH v n).1.1 0 0 none, .row Zah (ZdH v n).1.2.1 0 0 none, .row Zae (ZdH v n).2 0 0 none]:=by
  refine bc0 [Zx0,ZtQ,ZtP,ZBJ] [] [] [] (ZBl v n) Tryz.func14 (fun hwf=>?_)
  refine Eq.mpr (β:=(T3 ((pt (Zc8 v))∧(T3 ((pt True)∧(True∧((∃ q:Nat,(q≤Int.toNat ((List.length v.1.2.1:Int) - max n 0))∧((lxs [.ag (Zes v),ci n, .c (.bp 0 0), .tp [], .c (.bp 1 0), .c (.bp 5 0)] (vI (max 0 n) (max n 0 + (q:Int))∧True∧lxs [.ag (Zes v), .ag (ZhN v),ci n,ci (max 0 n)] (TN 36 (lxs [.tp []] True))))∧pt (lb (.box (Zes v))∧lb (.box ZnD)∧lb (.row Zak v.1.1 0 0 none)∧lb (.row Zah v.1.2.1 0 0 none)∧leB (.row Zae v.2 0 0 none) (.row Zae (fanN v.1 v.2 (max n 0) q) 0 0 none)∧lb (.box (ZhN v))∧True)))∧∀ y0:Nat,(y0≤Int.toNat ((List.length v.1.2.1:Int) - max n 0))→(T6 (bif (ltI (max n 0 + (y0:Int)) (List.length v.1.2.1)) then (True∧((∃ q:Nat,(q≤List.length (fanN v.1 v.2 (max n 0) y0))∧((lxs [.ag (Zes v),ci n, .c (.bp 0 0), .tp [], .c (.bp 1 0), .c (.bp 5 0),ci (max n 0 + (y0:Int))] (vI 0 q∧lxs [.ag (Zes v), .ag (ZhN v),ci n,ci (max 0 n),ci (max n 0 + (y0:Int)), .c (.bp 0 0), .c (.bp 0 1),hn Zah v.1.2.1,ci (List.length v.1.2.1), .c (.bool true)] (TN 30 (lxs [.tp []] True))))∧pt (lb (.box (Zes v))∧lb (.box ZnD)∧lb (.row Zak v.1.1 0 0 none)∧lb (.row Zah v.1.2.1 0 0 none)∧leB (.row Zae (fanN v.1 v.2 (max n 0) y0) 0 0 none) (.row Zae (Ze2 (ZfJ v.1 (max n 0 + (y0:Int))) (fanN v.1 v.2 (max n 0) y0) q) 0 0 none)∧lb (.box (ZhN v))∧True)))∧∀ y1:Nat,(y1≤List.length (fanN v.1 v.2 (max n 0) y0))→(T5 (bif (ltI y1 (List.length (Ze2 (ZfJ v.1 (max n 0 + (y0:Int))) (fanN v.1 v.2 (max n 0) y0) y1))) then ((pt (true=true))∧(T6 ((ZrB y1 v n y0)∧(T7 ((ZrB y1 v n y0)∧(T2 ((True∧pt (true=true))∧(((List.length (Zaa (Ze2 (ZfJ v.1 (max n 0 + (y0:Int))) (fanN v.1 v.2 (max n 0) y0) y1) y1).2.2.2.2.2.2.2.2.1.1≤1048576∧List.length (Zb7 v.1 (Zaa (Ze2 (ZfJ v.1 (max n 0 + (y0:Int))) (fanN v.1 v.2 (max n 0) y0) y1) y1) (max n 0 + (y0:Int)))≤1048576)∧pt (true=true))∧((ZrB y1 v n y0)∧(T2 (∀ r2:List Zal,r2=(List.set (Ze2 (ZfJ v.1 (max n 0 + (y0:Int))) (fanN v.1 v.2 (max n 0) y0) y1) y1 ((Zaa (Ze2 (ZfJ v.1 (max n 0 + (y0:Int))) (fanN v.1 v.2 (max n 0) y0) y1) y1).1,((Zaa (Ze2 (ZfJ v.1 (max n 0 + (y0:Int))) (fanN v.1 v.2 (max n 0) y0) y1) y1).2.1,((Zaa (Ze2 (ZfJ v.1 (max n 0 + (y0:Int))) (fanN v.1 v.2 (max n 0) y0) y1) y1).2.2.1,((Zaa (Ze2 (ZfJ v.1 (max n 0 + (y0:Int))) (fanN v.1 v.2 (max n 0) y0) y1) y1).2.2.2.1,((Zaa (Ze2 (ZfJ v.1 (max n 0 + (y0:Int))) (fanN v.1 v.2 (max n 0) y0) y1) y1).2.2.2.2.1,((Zaa (Ze2 (ZfJ v.1 (max n 0 + (y0:Int))) (fanN v.1 v.2 (max n 0) y0) y1) y1).2.2.2.2.2.1,((Zaa (Ze2 (ZfJ v.1 (max n 0 + (y0:Int))) (fanN v.1 v.2 (max n 0) y0) y1) y1).2.2.2.2.2.2.1,((Zaa (Ze2 (ZfJ v.1 (max n 0 + (y0:Int))) (fanN v.1 v.2 (max n 0) y0) y1) y1).2.2.2.2.2.2.2.1,((Za1 (Zaa (Ze2 (ZfJ v.1 (max n 0 + (y0:Int))) (fanN v.1 v.2 (max n 0) y0) y1) y1).2.2.2.2.2.2.2.2.1 (Zb7 v.1 (Zaa (Ze2 (ZfJ v.1 (max n 0 + (y0:Int))) (fanN v.1 v.2 (max n 0) y0) y1) y1) (max n 0 + (y0:Int))) (List.length (Zb7 v.1 (Zaa (Ze2 (ZfJ v.1 (max n 0 + (y0:Int))) (fanN v.1 v.2 (max n 0) y0) y1) y1) (max n 0 + (y0:Int))))),(Zaa (Ze2 (ZfJ v.1 (max n 0 + (y0:Int))) (fanN v.1 v.2 (max n 0) y0) y1) y1).2.2.2.2.2.2.2.2.2))))))))))→(T3 (∃ y1' : Nat,(y1'≤List.length (fanN v.1 v.2 (max n 0) y0))∧(List.length (fanN v.1 v.2 (max n 0) y0) - y1') < (List.length (fanN v.1 v.2 (max n 0) y0) - y1)∧((lxs [.ag (Zes v),ci n, .c (.bp 0 0), .tp [], .c (.bp 1 0), .c (.bp 5 0),ci (max n 0 + (y0:Int))] (vI (w64 ((y1:Int) + 1)) y1'∧lxs [.ag (Zes v), .ag (ZhN v),ci n,ci (max 0 n),ci (max n 0 + (y0:Int)), .c (.bp 0 0), .c (.bp 0 1),hn Zah v.1.2.1,ci (List.length v.1.2.1), .c (.bool true)] (TN 30 (lxs [.tp []] True))))∧pt (lb (.box (Zes v))∧lb (.box ZnD)∧lb (.row Zak v.1.1 0 0 none)∧lb (.row Zah v.1.2.1 0 0 none)∧leB (.row Zae r2 0 0 none) (.row Zae (Ze2 (ZfJ v.1 (max n 0 + (y0:Int))) (fanN v.1 v.2 (max n 0) y0) y1') 0 0 none)∧lb (.box (ZhN v))∧True))))))))))))))) else (T3 (∃ y0' : Nat,(y0'≤Int.toNat ((List.length v.1.2.1:Int) - max n 0))∧(Int.toNat ((List.length v.1.2.1:Int) - max n 0) - y0') < (Int.toNat ((List.length v.1.2.1:Int) - max n 0) - y0)∧((lxs [.ag (Zes v),ci n, .c (.bp 0 0), .tp [], .c (.bp 1 0), .c (.bp 5 0)] (vI (w64 ((max n 0 + (y0:Int)) + 1)) (max n 0 + (y0' : Int))∧True∧lxs [.ag (Zes v), .ag (ZhN v),ci n,ci (max 0 n)] (TN 36 (lxs [.tp []] True))))∧pt (lb (.box (Zes v))∧lb (.box ZnD)∧lb (.row Zak v.1.1 0 0 none)∧lb (.row Zah v.1.2.1 0 0 none)∧leB (.row Zae (Ze2 (ZfJ v.1 (max n 0 + (y0:Int))) (fanN v.1 v.2 (max n 0) y0) y1) 0 0 none) (.row Zae (fanN v.1 v.2 (max n 0) y0') 0 0 none)∧lb (.box (ZhN v))∧True)))))))) else (T2 (pt (((v.1.1=(ZdH v n).1.1)∧(v.1.2.1=(ZdH v n).1.2.1)∧(cI v.1.2.2 (ZdH v n).1.2.2)∧((fanN v.1 v.2 (max n 0) y0)=(ZdH v n).2)∧True))))))))))))) (by kernel_rfl) ?_
  unfold ZnD ZhN ZrB Zes T2 T3 T5 T6 T7
  have hlen:∀ k,(fanN v.1 v.2 (max n 0) k).length=v.2.length:=Zm9 _ _ _
  have hsm:∀ k,∀ x ∈ fanN v.1 v.2 (max n 0) k,ZdB x:=Zjm (hpre:Zc8 v).2.2
  have hvl:v.2.length≤1048576:=(hpre:Zc8 v).2.1
  have hll:v.1.2.1.length≤1048576:=(hpre:Zc8 v).1.2
  simp only [Zbw,ZbG,Zbf,Bool.not_true,Bool.not_false,Zd0,eq_self]
  simp only [Zz9]
  exact ZvF
def ZBn:ZaI Tryz.prog:=⟨14,[.s Zbp, .v ZaC],fun x=>Zc8 x.1,fun x=>.ag [.row 0 0, .row 1 0, .int .i64 (ZdH x.1 x.2.1).1.2.2, .row 2 0],fun x=>[.row Zak (ZdH x.1 x.2.1).1.1 0 0 none, .row Zah (ZdH x.1 x.2.1).1.2.1 0 0 none, .row Zae (ZdH x.1 x.2.1).2 0 0 none],fun x hx=>ZBm x.1 x.2.1 hx,Tryz.call14⟩
end Go.Proofs.YtkompmgleojmlaaGreat
