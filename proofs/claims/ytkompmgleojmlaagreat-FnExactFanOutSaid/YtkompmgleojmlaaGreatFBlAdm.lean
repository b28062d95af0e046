import Derived.Test.YtkompmgleojmlaaGreatFBlName
set_option linter.unusedSimpArgs false
set_option linter.unusedVariables false
set_option maxRecDepth 100000
set_option maxHeartbeats 4000000
namespace Go.Proofs.YtkompmgleojmlaaGreat
open Go.ChangeShapes Go.WideShapes Go.ChangeAt Go.RowKit Go.Joins Go.Deep
open GoRep (rep bulk)
theorem ZIt {a b:ByteArray}:a=b↔a.data.toList=b.data.toList:=by
  constructor
  · rintro rfl; rfl
  · intro h
    exact ByteArray.ext (Array.toList_inj.1 h)
theorem ZHu (s:ByteArray) (n:Nat):(ByteArray.extract s 0 n).data.toList=s.data.toList.take n:=by
  rw [ByteArray.data_extract,Array.toList_extract]
  simp [List.extract]
theorem ZIu (a b:ByteArray):(a ++ b).data.toList=a.data.toList ++ b.data.toList:=by
  rw [ByteArray.data_append,Array.toList_append]
theorem Zz6 (s:ByteArray):s.data.toList.length=s.size:=rfl
theorem ZC3 (name top:ByteArray):(top.size + 1≤name.size∧ByteArray.extract name 0 (top.size + 1)=top ++ (⟨#[47]⟩:ByteArray))↔(top.size < name.size∧ByteArray.extract name 0 top.size=top∧ZbR name top.size=47):=by
  simp only [ZIt,ZHu,ZIu]
  constructor
  · rintro ⟨h1,h2⟩
    have hl:top.size < name.data.toList.length:=by rw [Zz6]; omega
    rw [List.take_succ_eq_append_getElem hl] at h2
    have h3:=List.append_inj h2 (by rw [List.length_take,Zz6,Zz6]; omega)
    refine ⟨by omega,h3.1,?_⟩
    unfold ZbR
    rw [List.getD_eq_getElem?_getD,List.getElem?_eq_getElem hl]
    have:name.data.toList[top.size]=47:=by simpa using h3.2
    rw [Option.getD_some,this]
    rfl
  · rintro ⟨h1,h2,h3⟩
    have hl:top.size < name.data.toList.length:=by rw [Zz6]; omega
    refine ⟨by omega,?_⟩
    rw [List.take_succ_eq_append_getElem hl,h2]
    congr 1
    unfold ZbR at h3
    rw [List.getD_eq_getElem?_getD,List.getElem?_eq_getElem hl,Option.getD_some] at h3
    have h4:(name.data.toList[top.size]).toNat=47:=by omega
    have h5:name.data.toList[top.size]=47:=UInt8.toNat_inj.1 h4
    rw [h5]
def Zgv (s p:ByteArray):Bool:=decide (p.size≤s.size) && eqS (ByteArray.extract s 0 p.size) p
def Zcp (name top:ByteArray):Bool:=Zbx name && (Zbx top && (eqS name top || Zgv name (top ++ (⟨#[47]⟩:ByteArray))))
theorem Zmk (name top:ByteArray):Zgv name (top ++ (⟨#[47]⟩:ByteArray))=(decide (top.size < name.size) && (eqS (ByteArray.extract name 0 top.size) top && eqI (ZbR name top.size) 47)):=by
  have hs:(top ++ (⟨#[47]⟩:ByteArray)).size=top.size + 1:=by rw [ByteArray.size_append]; rfl
  rw [Bool.eq_iff_iff]
  unfold Zgv
  simp only [Bool.and_eq_true,decide_eq_true_eq,Zc4,ZbA,hs]
  exact ZC3 name top
def Zbo (s:Za3) (sel name:ByteArray):Bool :=
  if s.1=1 then eqS name sel && !eqS name (⟨#[]⟩:ByteArray)
  else if s.1=2 then Zbx name
  else if s.1=3 then List.any s.2.1 (fun z0:ByteArray=>Zcp name z0)
  else if s.1=4 then List.any s.2.1 (fun z0:ByteArray=>eqS name z0)
  else false
def admitsB (f:ZbP) (sel name:ByteArray) (ev:Int):Bool:=f.1 && List.any f.2 (fun z0:Za3=>Zbo z0 sel name && neI (IntKind.wrap .i64 (((BitVec.ofInt (IntKind.bits .i64) z0.2.2 &&& BitVec.ofInt (IntKind.bits .i64) ev).toNat:Nat))) 0)
theorem Zef (s:ByteArray) (p:ByteArray):Zat Tryz.prog 314 [.c (.str s), .c (.str p)] (.c (.bool (Zgv s p))) []:=by
  refine bc0 [] [] [] [] L0 Tryz.func314 (fun hwf=>?_)
  refine Eq.mpr (β:=(T7 (bif (geI (ByteArray.size s) (ByteArray.size p)) then (T3 (((0:Int)≤0∧(0:Int)≤(ByteArray.size p:Int)∧((ByteArray.size p:Int):Int)≤(ByteArray.size s:Int))∧(T4 (rB (eqS (ByteArray.extract s (Int.toNat 0) (ByteArray.size p)) p) (Zgv s p))))) else (T2 (rB false (Zgv s p)))))) (by kernel_rfl) ?_
  exact Zv2
def Zeg:ZaI Tryz.prog:=⟨314,[.v ZaK, .v ZaK],fun x=>True,fun x=>.c (.bool (Zgv x.1 x.2.1)),fun _=>[],fun x hx=>Zef x.1 x.2.1,Tryz.call314⟩
theorem Zj5 (s:ByteArray) (p:ByteArray):Zat Tryz.prog 306 [.c (.str s), .c (.str p)] (.c (.bool (Zgv s p))) []:=by
  refine bc0 [Zeg] [] [] [] L0 Tryz.func306 (fun hwf=>?_)
  refine Eq.mpr (β:=(T3 ((pt True)∧(True∧(rB (Zgv s p) (Zgv s p)))))) (by kernel_rfl) ?_
  exact Zv2
def Zj6:ZaI Tryz.prog:=⟨306,[.v ZaK, .v ZaK],fun x=>True,fun x=>.c (.bool (Zgv x.1 x.2.1)),fun _=>[],fun x hx=>Zj5 x.1 x.2.1,Tryz.call306⟩
theorem ZC4 (name:ByteArray) (top:ByteArray):Zat Tryz.prog 286 [.c (.str name), .c (.str top)] (.c (.bool (Zcp name top))) []:=by
  refine bc0 [Zg7,Zj6] [] [] [] L0 Tryz.func286 (fun hwf=>?_)
  refine Eq.mpr (β:=(T2 ((pt True)∧(True∧(bif Zbx name then (True∧((pt True)∧(T2 (bif Zbx top then (T4 (bif (eqS name top) then (T3 (rB true (Zcp name top))) else (T2 (ByteArray.size top + ByteArray.size (⟨#[47]⟩:ByteArray)≤maxLen∧((pt True)∧(T3 (rB (Zgv name (top ++ (⟨#[47]⟩:ByteArray))) (Zcp name top)))))))) else (T2 (rB false (Zcp name top))))))) else (T4 (rB false (Zcp name top)))))))) (by kernel_rfl) ?_
  have hm2:∀ s:ByteArray,Zbx s=true→s.size≤12:=fun s h=>(of_decide_eq_true h).2.2
  have hm3:(top ++ (⟨#[47]⟩:ByteArray)).size=top.size + 1:=by rw [ByteArray.size_append]; rfl
  simp only [Zbw,ZbG,Zbf,Bool.not_true,Bool.not_false,Zd0,eq_self]
  repeat' (first | apply And.intro | intro _)
  all_goals first
    | trivial
    | omega
    | (have hm4:=hm2 top (by assumption); show top.size + 1≤maxLen; unfold maxLen; omega)
    | (simp_all [Zcp,eqS]; done)
def ZC5:ZaI Tryz.prog:=⟨286,[.v ZaK, .v ZaK],fun x=>True,fun x=>.c (.bool (Zcp x.1 x.2.1)),fun _=>[],fun x hx=>ZC4 x.1 x.2.1,Tryz.call286⟩
theorem ZC6 (name:ByteArray) (top:ByteArray):Zat Tryz.prog 281 [.c (.str name), .c (.str top)] (.c (.bool (Zcp name top))) []:=by
  refine bc0 [Zg8] [] [] [] L0 Tryz.func281 (fun hwf=>?_)
  refine Eq.mpr (β:=(T2 ((pt True)∧(T2 (bif (!(Zbx name)) then (T2 (rB false (Zcp name top))) else (True∧((pt True)∧(T2 (bif (!(Zbx top)) then (True∧(rB false (Zcp name top))) else (T4 (bif (eqS name top) then (T2 (rB true (Zcp name top))) else (T6 (bif (gtI (ByteArray.size name) (ByteArray.size top)) then (T3 (((0:Int)≤0∧(0:Int)≤(ByteArray.size top:Int)∧((ByteArray.size top:Int):Int)≤(ByteArray.size name:Int))∧(T4 (bif (eqS (ByteArray.extract name (Int.toNat 0) (ByteArray.size top)) top) then (T3 (((0:Int)≤(ByteArray.size top:Int)∧((ByteArray.size top:Int):Int) < (ByteArray.size name:Int))∧(T4 (rB (eqI (ZbR name (ByteArray.size top)) 47) (Zcp name top))))) else (T3 (rB false (Zcp name top))))))) else (T5 (rB false (Zcp name top)))))))))))))))) (by kernel_rfl) ?_
  unfold T2 T3 T4 T5 T6
  simp only [Zbw,ZbG,Zbf,Bool.not_true,Bool.not_false,Zd0,eq_self]
  repeat' (first | apply And.intro | intro _)
  all_goals first
    | trivial
    | omega
    | (simp_all [Zcp,Zmk,eqS]; done)
    | (simp_all [Zcp,Zmk,eqS]; omega)
def ZC7:ZaI Tryz.prog:=⟨281,[.v ZaK, .v ZaK],fun x=>True,fun x=>.c (.bool (Zcp x.1 x.2.1)),fun _=>[],fun x hx=>ZC6 x.1 x.2.1,Tryz.call281⟩
def Zfi (s:List ByteArray) (v:ByteArray):Nat→List AV→Mem→Zbn
  | 2,tm,M=>⟨Nat,fun y=>(ZcN (ZcV tm [(4, .any),(5, .any),(8, .c (.int .i64 ((y:Nat):Int)))]) 9 10,M),fun y=>(y≤List.length s∧∀ j,j < y→eqS v (ZaJ s j)=false),fun y=>(List.length s - y)⟩
  | _,_,_=>⟨Unit,fun _=>([],[]),fun _=>False,fun _=>0⟩
theorem Zfj (s:List ByteArray) (v:ByteArray):Zat Tryz.prog 307 [.c (.hs .no ZaK s), .c (.str v)] (.c (.int .i64 (ZcO (fun z0:ByteArray=>eqS v z0) s))) []:=by
  refine bc0 [] [] [] [] (Zfi s v) Tryz.func307 (fun hwf=>?_)
  refine Eq.mpr (β:=(T4 ((∃ q:Nat,(q≤List.length s∧∀ j,j < q→eqS v (ZaJ s j)=false)∧((lxs [hn ZaK s, .c (.str v), .tp [], .tp []] (True∧True∧lxs [hn ZaK s,ci (List.length s)] (vI 0 q∧TN 10 True)))∧pt (True)))∧∀ y0:Nat,(y0≤List.length s∧∀ j,j < y0→eqS v (ZaJ s j)=false)→(True∧(bif (ltI y0 (List.length s)) then (T5 ((ix 1 y0 (List.length s))∧(T2 (bif (eqS v (ZaJ s y0)) then (T2 (rI (y0:Int) (ZcO (fun z0:ByteArray=>eqS v z0) s))) else (T2 (∃ y0' : Nat,(y0'≤List.length s∧∀ j,j < y0'→eqS v (ZaJ s j)=false)∧(List.length s - y0') < (List.length s - y0)∧((lxs [hn ZaK s, .c (.str v), .tp [], .tp []] (True∧True∧lxs [hn ZaK s,ci (List.length s)] (vI (w64 ((y0:Int) + 1)) y0'∧TN 10 True)))∧pt (True)))))))) else (True∧(rI (-1) (ZcO (fun z0:ByteArray=>eqS v z0) s)))))))) (by kernel_rfl) ?_
  unfold T2 T4 T5
  simp only [Zd0,eq_self]
  have hm:List.length s≤maxLen:=hwf.1.1
  refine ⟨⟨0,⟨Nat.zero_le _,Zbl⟩,rfl⟩,fun k hk=>⟨fun hlt=>⟨by omega,fun hp=>?_,fun hp=>?_⟩,fun hge=>?_⟩⟩
  · have hk' : k < s.length:=by omega
    exact (Zd4 (t:=ZaK) (p:=fun z0:ByteArray=>eqS v z0) (xs:=s) hk' (fun j hj=>Zdq.2 (hk.2 j hj)) (Zc4.2 hp)).symm
  · exact Zdu
  · obtain rfl:k=s.length:=by omega
    exact (ZbW (t:=ZaK) (p:=fun z0:ByteArray=>eqS v z0) (fun j hj=>Zdq.2 (hk.2 j hj))).symm
def Zfk:ZaI Tryz.prog:=⟨307,[.v (.list ZaK), .v ZaK],fun x=>True,fun x=>.c (.int .i64 (ZcO (fun z0:ByteArray=>eqS x.2.1 z0) x.1)),fun _=>[],fun x hx=>Zfj x.1 x.2.1,Tryz.call307⟩
theorem Zeq (s:List ByteArray) (v:ByteArray):Zat Tryz.prog 287 [.c (.hs .no ZaK s), .c (.str v)] (.c (.bool (List.any s (fun z0:ByteArray=>eqS v z0)))) []:=by
  refine bc0 [Zfk] [] [] [] L0 Tryz.func287 (fun hwf=>?_)
  refine Eq.mpr (β:=(T3 ((pt True)∧(T2 (rB (geI (ZcO (fun z0:ByteArray=>eqS v z0) s) 0) (List.any s (fun z0:ByteArray=>eqS v z0))))))) (by kernel_rfl) ?_
  exact Zwj
def Zer:ZaI Tryz.prog:=⟨287,[.v (.list ZaK), .v ZaK],fun x=>True,fun x=>.c (.bool (List.any x.1 (fun z0:ByteArray=>eqS x.2.1 z0))),fun _=>[],fun x hx=>Zeq x.1 x.2.1,Tryz.call287⟩
theorem Zs9 (top:ByteArray) (name:ByteArray):Zat Tryz.prog 285 [.c (.str top), .c (.ep .no ZaK ([name]) 0 0)] (.c (.bool (Zcp name top))) []:=by
  refine bc0 [ZC5] [] [] [] L0 Tryz.func285 (fun hwf=>?_)
  refine Eq.mpr (β:=(T3 ((pt True)∧(True∧(rB (Zcp name top) (Zcp name top)))))) (by kernel_rfl) ?_
  exact Zly
def Zta:ZaI Tryz.prog:=⟨285,[.v ZaK, .p ZaK],fun x=>True,fun x=>.c (.bool (Zcp x.2.1 x.1)),fun _=>[],fun x hx=>Zs9 x.1 x.2.1,Tryz.call285⟩
theorem ZA1 (s:Za3) (sel:ByteArray) (name:ByteArray):Zat Tryz.prog 257 [.ag [.int .i64 s.1, .hs .no ZaK s.2.1, .int .i64 s.2.2], .c (.str sel), .c (.str name)] (.c (.bool (Zbo s sel name))) []:=by
  refine bc0 [Zg7,Zta,Zer] [ZdO] [] [] L0 Tryz.func257 (fun hwf=>?_)
  refine Eq.mpr (β:=(T7 (bif (eqI s.1 1) then (T4 (bif (eqS name sel) then (T4 (rB (!eqS name (⟨#[]⟩:ByteArray)) (Zbo s sel name))) else (T2 (rB false (Zbo s sel name))))) else (T2 (bif (eqI s.1 2) then (True∧((pt True)∧(True∧(rB (Zbx name) (Zbo s sel name))))) else (T2 (bif (eqI s.1 3) then (T3 (((∀ z0:ByteArray,True∧True)∧∀ (_:ByteArray→Bool) (_:List ByteArray),true=true)∧(True∧(rB (List.any s.2.1 (fun z0:ByteArray=>Zcp name z0)) (Zbo s sel name))))) else (T2 (bif (eqI s.1 4) then (T3 ((pt True)∧(True∧(rB (List.any s.2.1 (fun z0:ByteArray=>eqS name z0)) (Zbo s sel name))))) else (True∧(rB false (Zbo s sel name)))))))))))) (by kernel_rfl) ?_
  unfold T2 T3 T4 T7
  simp only [Zbw,ZbG,Zbf,Bool.not_true,Bool.not_false,Zd0,eq_self]
  repeat' (first | apply And.intro | intro _)
  all_goals first
    | trivial
    | omega
    | contradiction
    | exact ⟨rfl,rfl⟩
    | (show _ + 1≤rowMax; unfold rowMax; omega)
    | (simp only [Zbo, *,eq_self,if_true,if_false,and_true,true_and,and_self,not_true,not_false,false_and,and_false,or_true,true_or,or_false,false_or,or_self,Bool.false_eq_true,reduceCtorEq,reduceIte,Int.reduceEq,not_false_eq_true,not_true_eq_false,ite_true,ite_false,Bool.and_true,Bool.true_and,Bool.and_false,Bool.false_and,Bool.or_true,Bool.true_or,Bool.or_false,Bool.false_or,Bool.not_true,Bool.not_false]; done)
    | (simp_all [Zbo,eqI,neI,geI,eqS]; done)
def ZA2:ZaI Tryz.prog:=⟨257,[.s Zar, .v ZaK, .v ZaK],fun x=>True,fun x=>.c (.bool (Zbo x.1 x.2.1 x.2.2.1)),fun _=>[],fun x hx=>ZA1 x.1 x.2.1 x.2.2.1,Tryz.call257⟩
def ZC8 (list:List ByteArray) (v:ByteArray):Nat→List AV→Mem→Zbn
  | 2,tm,M=>⟨Nat,fun y=>(ZcN (ZcV tm [(4, .any),(5, .c (.int .i64 ((y:Nat):Int)))]) 6 12,M),fun y=>(y≤List.length list∧∀ j,j < y→eqS (ZaJ list j) v=false),fun y=>(List.length list - y)⟩
  | _,_,_=>⟨Unit,fun _=>([],[]),fun _=>False,fun _=>0⟩
theorem ZC9 (list:List ByteArray) (v:ByteArray):Zat Tryz.prog 282 [.c (.hs .no ZaK list), .c (.str v)] (.c (.bool (List.any list (fun z0:ByteArray=>eqS z0 v)))) []:=by
  refine bc0 [] [] [] [] (ZC8 list v) Tryz.func282 (fun hwf=>?_)
  refine Eq.mpr (β:=(T2 ((∃ q:Nat,(q≤List.length list∧∀ j,j < q→eqS (ZaJ list j) v=false)∧((lxs [hn ZaK list, .c (.str v), .tp [], .tp []] (True∧vI 0 q∧TN 12 True))∧pt (True)))∧∀ y0:Nat,(y0≤List.length list∧∀ j,j < y0→eqS (ZaJ list j) v=false)→(T4 (bif (ltI y0 (List.length list)) then (T2 ((ix 1 y0 (List.length list))∧(T3 (bif (eqS (ZaJ list y0) v) then (True∧(rB true (List.any list (fun z0:ByteArray=>eqS z0 v)))) else (T3 (∃ y0' : Nat,(y0'≤List.length list∧∀ j,j < y0'→eqS (ZaJ list j) v=false)∧(List.length list - y0') < (List.length list - y0)∧((lxs [hn ZaK list, .c (.str v), .tp [], .tp []] (True∧vI (w64 ((y0:Int) + 1)) y0'∧TN 12 True))∧pt (True)))))))) else (True∧(rB false (List.any list (fun z0:ByteArray=>eqS z0 v))))))))) (by kernel_rfl) ?_
  unfold T2 T3 T4
  simp only [Zbw,ZbG,Zbf,Bool.not_true,Bool.not_false,Zd0,eq_self]
  have hm:List.length list≤maxLen:=hwf.1.1
  refine ⟨⟨0,⟨Nat.zero_le _,Zbl⟩,rfl⟩,fun k hk=>⟨fun hlt=>⟨by omega,fun hp=>?_,fun hp=>?_⟩,fun hge=>?_⟩⟩
  · exact (any_at_nth (t:=ZaK) (p:=fun z0:ByteArray=>eqS z0 v) (Int.ofNat_lt.1 hlt) (Zc4.2 hp)).symm
  · exact Zdu
  · obtain rfl:k=list.length:=by omega
    exact (ZfB (t:=ZaK) (p:=fun z0:ByteArray=>eqS z0 v) (fun j hj=>Zdq.2 (hk.2 j hj))).symm
def ZDa:ZaI Tryz.prog:=⟨282,[.v (.list ZaK), .v ZaK],fun x=>True,fun x=>.c (.bool (List.any x.1 (fun z0:ByteArray=>eqS z0 x.2.1))),fun _=>[],fun x hx=>ZC9 x.1 x.2.1,Tryz.call282⟩
theorem cov3 {s:Za3} {sel name:ByteArray} (h:s.1=3):Zbo s sel name=List.any s.2.1 (fun z0:ByteArray=>Zcp name z0):=by
  unfold Zbo
  rw [if_neg (by omega),if_neg (by omega),if_pos h]
theorem cov4 {s:Za3} {sel name:ByteArray} (h:s.1=4):Zbo s sel name=List.any s.2.1 (fun z0:ByteArray=>eqS z0 name):=by
  unfold Zbo
  rw [if_neg (by omega),if_neg (by omega),if_neg (by omega),if_pos h]
  congr 1
  funext z
  unfold eqS
  rw [decide_eq_decide]
  exact ⟨Eq.symm,Eq.symm⟩
def ZA3 (s:Za3) (sel:ByteArray) (name:ByteArray):Nat→List AV→Mem→Zbn
  | 8,tm,M=>⟨Nat,fun y=>(ZcN (ZcV tm [(6, .any),(7, .c (.int .i64 ((y:Nat):Int)))]) 25 14,M),fun y=>(y≤List.length s.2.1∧∀ j,j < y→Zcp name (ZaJ s.2.1 j)=false),fun y=>(List.length s.2.1 - y)⟩
  | _,_,_=>⟨Unit,fun _=>([],[]),fun _=>False,fun _=>0⟩
theorem ZA4 (s:Za3) (sel:ByteArray) (name:ByteArray):Zat Tryz.prog 251 [.ag [.int .i64 s.1, .hs .no ZaK s.2.1, .int .i64 s.2.2], .c (.str sel), .c (.str name)] (.c (.bool (Zbo s sel name))) []:=by
  refine bc0 [Zg8,ZC7,ZDa] [] [] [] (ZA3 s sel name) Tryz.func251 (fun hwf=>?_)
  refine Eq.mpr (β:=(T6 (bif (eqI s.1 1) then (T4 (bif (eqS name sel) then (T4 (rB (!eqS name (⟨#[]⟩:ByteArray)) (Zbo s sel name))) else (T2 (rB false (Zbo s sel name))))) else (T2 (bif (eqI s.1 2) then (True∧((pt True)∧(True∧(rB (Zbx name) (Zbo s sel name))))) else (T2 (bif (eqI s.1 3) then (True∧((∃ q:Nat,(q≤List.length s.2.1∧∀ j,j < q→Zcp name (ZaJ s.2.1 j)=false)∧((lxs [.ag [.int .i64 s.1, .hs .no ZaK s.2.1, .int .i64 s.2.2], .c (.str sel), .c (.str name), .c (.bp 0 0), .tp [], .tp []] (True∧vI 0 q∧lxs [.c (.bp 0 0),ci s.1, .c (.bool false), .c (.bool (eqI s.1 1))] (tpn 7 (lxs [.c (.bool false), .c (.bool (eqI s.1 2)), .tp [], .tp [], .c (.bool true), .c (.bool (eqI s.1 3))] (TN 14 (tpn 6 True))))))∧pt (lb (.box [.int .i64 s.1, .hs .no ZaK s.2.1, .int .i64 s.2.2])∧True)))∧∀ y0:Nat,(y0≤List.length s.2.1∧∀ j,j < y0→Zcp name (ZaJ s.2.1 j)=false)→(T5 (bif (ltI y0 (List.length s.2.1)) then (T4 ((ix 1 y0 (List.length s.2.1))∧(True∧((pt True)∧(bif Zcp name (ZaJ s.2.1 y0) then (True∧(rB true (Zbo s sel name))) else (T3 (∃ y0' : Nat,(y0'≤List.length s.2.1∧∀ j,j < y0'→Zcp name (ZaJ s.2.1 j)=false)∧(List.length s.2.1 - y0') < (List.length s.2.1 - y0)∧((lxs [.ag [.int .i64 s.1, .hs .no ZaK s.2.1, .int .i64 s.2.2], .c (.str sel), .c (.str name), .c (.bp 0 0), .tp [], .tp []] (True∧vI (w64 ((y0:Int) + 1)) y0'∧lxs [.c (.bp 0 0),ci s.1, .c (.bool false), .c (.bool (eqI s.1 1))] (tpn 7 (lxs [.c (.bool false), .c (.bool (eqI s.1 2)), .tp [], .tp [], .c (.bool true), .c (.bool (eqI s.1 3))] (TN 14 (tpn 6 True))))))∧pt (lb (.box [.int .i64 s.1, .hs .no ZaK s.2.1, .int .i64 s.2.2])∧True))))))))) else (True∧(rB false (Zbo s sel name))))))) else (T2 (bif (eqI s.1 4) then (T3 ((pt True)∧(True∧(rB (List.any s.2.1 (fun z0:ByteArray=>eqS z0 name)) (Zbo s sel name))))) else (True∧(rB false (Zbo s sel name)))))))))))) (by kernel_rfl) ?_
  unfold T2 T3 T4 T5 T6
  have hm:List.length s.2.1≤maxLen:=hwf.1.2.1.1
  simp only [Zbw,ZbG,Zbf,Bool.not_true,Bool.not_false,Zd0,eq_self]
  repeat' (first | apply And.intro | intro _)
  all_goals first
    | trivial
    | omega
    | exact ⟨0,⟨Nat.zero_le _,Zbl⟩,rfl⟩
    | (rename_i h3 y hy hlt hp; rw [cov3 h3]; exact (any_at_nth (t:=ZaK) (p:=fun z0:ByteArray=>Zcp name z0) (k:=y) (Int.ofNat_lt.1 hlt) hp).symm)
    | (rename_i y hy hlt hp; exact ⟨y + 1,⟨by omega,ZbS hy.2 hp⟩,by omega,ZbN (by omega)⟩)
    | (rename_i h3 y hy hge; obtain rfl:y=List.length s.2.1:=(by omega); rw [cov3 h3]; exact (ZfB (t:=ZaK) (p:=fun z0:ByteArray=>Zcp name z0) hy.2).symm)
    | (rename_i h4; rw [cov4 h4])
    | contradiction
    | exact ⟨rfl,rfl⟩
    | (show _ + 1≤rowMax; unfold rowMax; omega)
    | (simp only [Zbo, *,eq_self,if_true,if_false,and_true,true_and,and_self,not_true,not_false,false_and,and_false,or_true,true_or,or_false,false_or,or_self,Bool.false_eq_true,reduceCtorEq,reduceIte,Int.reduceEq,not_false_eq_true,not_true_eq_false,ite_true,ite_false,Bool.and_true,Bool.true_and,Bool.and_false,Bool.false_and,Bool.or_true,Bool.true_or,Bool.or_false,Bool.false_or,Bool.not_true,Bool.not_false]; done)
    | (simp_all [Zbo,eqI,neI,geI,eqS]; done)
def ZA5:ZaI Tryz.prog:=⟨251,[.s Zar, .v ZaK, .v ZaK],fun x=>True,fun x=>.c (.bool (Zbo x.1 x.2.1 x.2.2.1)),fun _=>[],fun x hx=>ZA4 x.1 x.2.1 x.2.2.1,Tryz.call251⟩
theorem Ztb (s:Za3) (sel:ByteArray) (name:ByteArray) (ev:Int):Zat Tryz.prog 256 [.ag [.int .i64 s.1, .hs .no ZaK s.2.1, .int .i64 s.2.2], .c (.ep .no ZaK ([sel]) 0 0), .c (.ep .no ZaK ([name]) 0 0), .c (.ep .no ZaC ([ev]) 0 0)] (.c (.bool (Zbo s sel name && neI (IntKind.wrap .i64 (((BitVec.ofInt (IntKind.bits .i64) s.2.2 &&& BitVec.ofInt (IntKind.bits .i64) ev).toNat:Nat))) 0))) []:=by
  refine bc0 [ZA2] [] [] [] L0 Tryz.func256 (fun hwf=>?_)
  refine Eq.mpr (β:=(T5 ((pt True)∧(True∧(bif Zbo s sel name then (T7 (rB (neI (w64 (((BitVec.ofInt (IntKind.bits .i64) s.2.2 &&& BitVec.ofInt (IntKind.bits .i64) ev).toNat:Nat))) 0) (Zbo s sel name && neI (w64 (((BitVec.ofInt (IntKind.bits .i64) s.2.2 &&& BitVec.ofInt (IntKind.bits .i64) ev).toNat:Nat))) 0))) else (T2 (rB false (Zbo s sel name && neI (w64 (((BitVec.ofInt (IntKind.bits .i64) s.2.2 &&& BitVec.ofInt (IntKind.bits .i64) ev).toNat:Nat))) 0)))))))) (by kernel_rfl) ?_
  simp only [Zbw,ZbG,Zbf,Bool.not_true,Bool.not_false,Zd0,eq_self]
  repeat' (first | apply And.intro | intro _)
  all_goals first
    | trivial
    | omega
    | contradiction
    | exact ⟨rfl,rfl⟩
    | (show _ + 1≤rowMax; unfold rowMax; omega)
    | (simp only [Bool.true_and, *,eq_self,if_true,if_false,and_true,true_and,and_self,not_true,not_false,false_and,and_false,or_true,true_or,or_false,false_or,or_self,Bool.false_eq_true,reduceCtorEq,reduceIte,Int.reduceEq,not_false_eq_true,not_true_eq_false,ite_true,ite_false,Bool.and_true,Bool.true_and,Bool.and_false,Bool.false_and,Bool.or_true,Bool.true_or,Bool.or_false,Bool.false_or,Bool.not_true,Bool.not_false]; done)
    | (simp_all [Bool.true_and,eqI,neI,geI,eqS]; done)
def Ztc:ZaI Tryz.prog:=⟨256,[.s Zar, .p ZaK, .p ZaK, .p ZaC],fun x=>True,fun x=>.c (.bool (Zbo x.1 x.2.1 x.2.2.1 && neI (IntKind.wrap .i64 (((BitVec.ofInt (IntKind.bits .i64) x.1.2.2 &&& BitVec.ofInt (IntKind.bits .i64) x.2.2.2.1).toNat:Nat))) 0)),fun _=>[],fun x hx=>Ztb x.1 x.2.1 x.2.2.1 x.2.2.2.1,Tryz.call256⟩
theorem ZA6 (f:ZbP) (sel:ByteArray) (name:ByteArray) (ev:Int):Zat Tryz.prog 205 [.ag [.bool f.1, .hs .no Zar f.2], .c (.str sel), .c (.str name), .c (.int .i64 ev)] (.c (.bool (admitsB f sel name ev))) []:=by
  refine bc0 [Ztc] [Zdy] [] [] L0 Tryz.func205 (fun hwf=>?_)
  refine Eq.mpr (β:=(T8 (bif f.1 then (T3 (((∀ z0:Za3,True∧True)∧∀ (_:Za3→Bool) (_:List Za3),true=true)∧(T2 (rB (List.any f.2 (fun z0:Za3=>(Zbo z0 sel name && neI (w64 (((BitVec.ofInt (IntKind.bits .i64) z0.2.2 &&& BitVec.ofInt (IntKind.bits .i64) ev).toNat:Nat))) 0))) (admitsB f sel name ev))))) else (T2 (rB false (admitsB f sel name ev)))))) (by kernel_rfl) ?_
  simp only [Zbw,ZbG,Zbf,Bool.not_true,Bool.not_false,Zd0,eq_self]
  repeat' (first | apply And.intro | intro _)
  all_goals first
    | trivial
    | omega
    | contradiction
    | exact ⟨rfl,rfl⟩
    | (show _ + 1≤rowMax; unfold rowMax; omega)
    | (simp only [admitsB, *,eq_self,if_true,if_false,and_true,true_and,and_self,not_true,not_false,false_and,and_false,or_true,true_or,or_false,false_or,or_self,Bool.false_eq_true,reduceCtorEq,reduceIte,Int.reduceEq,not_false_eq_true,not_true_eq_false,ite_true,ite_false,Bool.and_true,Bool.true_and,Bool.and_false,Bool.false_and,Bool.or_true,Bool.true_or,Bool.or_false,Bool.false_or,Bool.not_true,Bool.not_false]; done)
    | (simp_all [admitsB,eqI,neI,geI,eqS]; done)
def ZA7:ZaI Tryz.prog:=⟨205,[.s Zdi, .v ZaK, .v ZaK, .v ZaC],fun x=>True,fun x=>.c (.bool (admitsB x.1 x.2.1 x.2.2.1 x.2.2.2.1)),fun _=>[],fun x hx=>ZA6 x.1 x.2.1 x.2.2.1 x.2.2.2.1,Tryz.call205⟩
def ZA8 (f:ZbP) (sel:ByteArray) (name:ByteArray) (ev:Int):Nat→List AV→Mem→Zbn
  | 2,tm,M=>⟨Nat,fun y=>(ZcN (ZcV tm [(8, .any),(9, .c (.int .i64 ((y:Nat):Int)))]) 10 30,M),fun y=>(y≤List.length f.2∧∀ j,j < y→(Zbo (Zav f.2 j) sel name && neI (IntKind.wrap .i64 (((BitVec.ofInt (IntKind.bits .i64) (Zav f.2 j).2.2 &&& BitVec.ofInt (IntKind.bits .i64) ev).toNat:Nat))) 0)=false),fun y=>(List.length f.2 - y)⟩
  | _,_,_=>⟨Unit,fun _=>([],[]),fun _=>False,fun _=>0⟩
def Zxl (f:ZbP) (sel:ByteArray) (name:ByteArray) (ev:Int) (y0:Nat):Prop:=(T3 (∃ y0' : Nat,(y0'≤List.length f.2∧∀ j,j < y0'→(Zbo (Zav f.2 j) sel name && neI (w64 (((BitVec.ofInt (IntKind.bits .i64) (Zav f.2 j).2.2 &&& BitVec.ofInt (IntKind.bits .i64) ev).toNat:Nat))) 0)=false)∧(List.length f.2 - y0') < (List.length f.2 - y0)∧((lxs [.ag [.bool f.1, .hs .no Zar f.2], .c (.str sel), .c (.str name),ci ev, .c (.bp 0 0)] (tpn 3 (True∧vI (w64 ((y0:Int) + 1)) y0'∧TN 30 True)))∧pt (lb (.box [.bool f.1, .hs .no Zar f.2])∧True))))
theorem ZA9 (f:ZbP) (sel:ByteArray) (name:ByteArray) (ev:Int):Zat Tryz.prog 198 [.ag [.bool f.1, .hs .no Zar f.2], .c (.str sel), .c (.str name), .c (.int .i64 ev)] (.c (.bool (admitsB f sel name ev))) []:=by
  refine bc0 [ZA5] [] [] [] (ZA8 f sel name ev) Tryz.func198 (fun hwf=>?_)
  refine Eq.mpr (β:=(T3 ((∃ q:Nat,(q≤List.length f.2∧∀ j,j < q→(Zbo (Zav f.2 j) sel name && neI (w64 (((BitVec.ofInt (IntKind.bits .i64) (Zav f.2 j).2.2 &&& BitVec.ofInt (IntKind.bits .i64) ev).toNat:Nat))) 0)=false)∧((lxs [.ag [.bool f.1, .hs .no Zar f.2], .c (.str sel), .c (.str name),ci ev, .c (.bp 0 0)] (tpn 3 (True∧vI 0 q∧TN 30 True)))∧pt (lb (.box [.bool f.1, .hs .no Zar f.2])∧True)))∧∀ y0:Nat,(y0≤List.length f.2∧∀ j,j < y0→(Zbo (Zav f.2 j) sel name && neI (w64 (((BitVec.ofInt (IntKind.bits .i64) (Zav f.2 j).2.2 &&& BitVec.ofInt (IntKind.bits .i64) ev).toNat:Nat))) 0)=false)→(T6 (bif (ltI y0 (List.length f.2)) then (T3 (bif f.1 then (T3 ((ix 3 y0 (List.length f.2))∧(T6 (bif (neI (w64 (((BitVec.ofInt (IntKind.bits .i64) (Zav f.2 y0).2.2 &&& BitVec.ofInt (IntKind.bits .i64) ev).toNat:Nat))) 0) then (T3 ((ix 3 y0 (List.length f.2))∧(T3 ((pt True)∧(True∧(bif Zbo (Zav f.2 y0) sel name then (True∧(rB true (admitsB f sel name ev))) else (Zxl f sel name ev y0))))))) else (True∧(Zxl f sel name ev y0)))))) else (True∧(rB false (admitsB f sel name ev))))) else (T2 (rB false (admitsB f sel name ev)))))))) (by kernel_rfl) ?_
  unfold Zxl T2 T3 T6
  have hm:List.length f.2≤maxLen:=hwf.1.2.1.1
  simp only [Zbw,ZbG,Zbf,Bool.not_true,Bool.not_false,Zd0,eq_self]
  repeat' (first | apply And.intro | intro _)
  all_goals first
    | trivial
    | omega
    | exact ⟨0,⟨Nat.zero_le _,Zbl⟩,rfl⟩
    | (rename_i y hy hlt hon hev hc; have hh:(Zbo (Zav f.2 y) sel name && neI (IntKind.wrap .i64 (((BitVec.ofInt (IntKind.bits .i64) (Zav f.2 y).2.2 &&& BitVec.ofInt (IntKind.bits .i64) ev).toNat:Nat))) 0)=true:=(by rw [hc,ZdK.2 hev]; rfl); unfold admitsB; rw [hon]; exact (any_at_nth (t:=Zar) (p:=fun z0:Za3=>Zbo z0 sel name && neI (IntKind.wrap .i64 (((BitVec.ofInt (IntKind.bits .i64) z0.2.2 &&& BitVec.ofInt (IntKind.bits .i64) ev).toNat:Nat))) 0) (k:=y) (Int.ofNat_lt.1 hlt) hh).symm)
    | (rename_i y hy hlt hon hev hc; have hh:(Zbo (Zav f.2 y) sel name && neI (IntKind.wrap .i64 (((BitVec.ofInt (IntKind.bits .i64) (Zav f.2 y).2.2 &&& BitVec.ofInt (IntKind.bits .i64) ev).toNat:Nat))) 0)=false:=(by rw [hc]; rfl); exact ⟨y + 1,⟨by omega,ZbS hy.2 hh⟩,by omega,ZbN (by omega)⟩)
    | (rename_i y hy hlt hon hev; have hh:(Zbo (Zav f.2 y) sel name && neI (IntKind.wrap .i64 (((BitVec.ofInt (IntKind.bits .i64) (Zav f.2 y).2.2 &&& BitVec.ofInt (IntKind.bits .i64) ev).toNat:Nat))) 0)=false:=(by rw [Zdp.2 hev]; exact Bool.and_false _); exact ⟨y + 1,⟨by omega,ZbS hy.2 hh⟩,by omega,ZbN (by omega)⟩)
    | (rename_i hon; unfold admitsB; rw [hon]; rfl)
    | (rename_i y hy hge; obtain rfl:y=List.length f.2:=(by omega); have ha:List.any f.2 (fun z0:Za3=>Zbo z0 sel name && neI (IntKind.wrap .i64 (((BitVec.ofInt (IntKind.bits .i64) z0.2.2 &&& BitVec.ofInt (IntKind.bits .i64) ev).toNat:Nat))) 0)=false:=ZfB (t:=Zar) (p:=fun z0:Za3=>Zbo z0 sel name && neI (IntKind.wrap .i64 (((BitVec.ofInt (IntKind.bits .i64) z0.2.2 &&& BitVec.ofInt (IntKind.bits .i64) ev).toNat:Nat))) 0) hy.2; unfold admitsB; rw [ha]; exact (Bool.and_false _).symm)
def ZBa:ZaI Tryz.prog:=⟨198,[.s Zdi, .v ZaK, .v ZaK, .v ZaC],fun x=>True,fun x=>.c (.bool (admitsB x.1 x.2.1 x.2.2.1 x.2.2.2.1)),fun _=>[],fun x hx=>ZA9 x.1 x.2.1 x.2.2.1 x.2.2.2.1,Tryz.call198⟩
end Go.Proofs.YtkompmgleojmlaaGreat
