import Derived.Test.YtkompmgleojmlaaGreatFBlApp
import Derived.Test.YtkompmgleojmlaaGreatFBmRw
set_option linter.unusedSimpArgs false
set_option linter.unusedVariables false
set_option maxRecDepth 100000
set_option maxHeartbeats 4000000
namespace Go.Proofs.YtkompmgleojmlaaGreat
open Go.ChangeShapes Go.WideShapes Go.ChangeAt Go.RowKit Go.Joins Go.Deep
open GoRep (rep bulk)
def ZkL (f:ZbP):Prop:=f.2.length≤1048576∧∀ x ∈ f.2,x.2.1.length≤1048576
def ZdB (s:Zal):Prop:=s.2.2.2.2.1.length≤1048576∧ZkL s.2.2.2.2.2.1∧s.2.2.2.2.2.2.2.2.1.1.length≤1048576
def ZjM (st:Za7):Prop:=ZbO st.1∧st.2.1.length≤1048576
def Zc8 (v:Za6):Prop:=ZjM v.1∧v.2.length≤1048576∧∀ x ∈ v.2,ZdB x
theorem ZjN {l:List Za3} {k:Nat} (h:k < l.length):List.take k l ++ [Zav l k]=List.take (k + 1) l:=by
  rw [List.take_add_one,show l[k]?=some (Zav l k) from Zau (t:=Zar) h]
  rfl
theorem ZmV {l:List Zal} {k:Nat} (h:k < l.length):List.take k l ++ [Zaa l k]=List.take (k + 1) l:=by
  rw [List.take_add_one,show l[k]?=some (Zaa l k) from Zau (t:=Zae) h]
  rfl
theorem Ztl (v:List Zb9) (hpre:List.length v≤rowMax):Zat Tryz.prog 200 [.ag [.hs .no ZaN v]] (.ag [.row 0 0]) [.row ZaN v 0 0 none]:=by
  refine bc0 [Zfn] [] [] [] L0 Tryz.func200 (fun hwf=>?_)
  refine Eq.mpr (β:=(T4 ((pt (List.length v≤rowMax))∧(T2 (pt (((v=v)∧True))))))) (by kernel_rfl) ?_
  exact Zed
def Ztm:ZaI Tryz.prog:=⟨200,[.s (.list ZaN)],fun x=>List.length x.1≤rowMax,fun x=>.ag [.row 0 0],fun x=>[.row ZaN x.1 0 0 none],fun x hx=>Ztl x.1 hx,Tryz.call200⟩
theorem ZxS (v:List Zb9) (hpre:List.length v≤rowMax):Zat Tryz.prog 196 [.ag [.hs .no ZaN v]] (.ag [.row 0 0]) [.row ZaN v 0 0 none]:=by
  refine bc0 [] [] [] [] L0 Tryz.func196 (fun hwf=>?_)
  refine Eq.mpr (β:=(T5 ((True∧List.length ([]:List Zb9) + List.length v≤rowMax)∧(T2 (pt ((((([]:List Zb9) ++ v)=v)∧True))))))) (by kernel_rfl) ?_
  exact Zed
def ZxT:ZaI Tryz.prog:=⟨196,[.s (.list ZaN)],fun x=>List.length x.1≤rowMax,fun x=>.ag [.row 0 0],fun x=>[.row ZaN x.1 0 0 none],fun x hx=>ZxS x.1 hx,Tryz.call196⟩
def ZpS (f:ZbP):Nat→List AV→Mem→Zbn
  | 3,tm,M=>⟨Nat,fun y=>(ZcN (ZcV tm [(5, .any),(12, .c (.int .i64 ((y:Nat):Int)))]) 13 14,Zjs M [(2, .box [.bool f.1, .row 3 0]),(3, .row Zar (List.take y f.2) 0 0 none)]),fun y=>(y≤List.length f.2),fun y=>(List.length f.2 - y)⟩
  | _,_,_=>⟨Unit,fun _=>([],[]),fun _=>False,fun _=>0⟩
theorem ZpT (f:ZbP) (hpre:ZkL f):Zat Tryz.prog 201 [.ag [.bool f.1, .hs .no Zar f.2]] (.ag [.bool f.1, .row 0 0]) [.row Zar f.2 0 0 none]:=by
  refine ZiS (T:=⟨[Zfp],[],[],[],none,fun i=>match i with | 3=>[⟨some 2,1,Zar⟩] | _=>[],0,[],[]⟩) (L:=(ZpS f)) Tryz.func201 ⟨⟨rfl,rfl⟩,rfl⟩ (fun hwf=>?_)
  refine Eq.mpr (β:=(T11 ((∃ q:Nat,(q≤List.length f.2)∧((lxs [.ag [.bool f.1, .hs .no Zar f.2], .c (.bp 0 0), .c (.bp 1 0), .c (.bp 2 0), .tp []] (True∧lxs [.c (.bp 0 0), .c (.bool f.1), .ag [.bool f.1, .raw (.slice none 0 0)], .c (.bp 0 1),hn Zar f.2,ci (List.length f.2)] (vI 0 q∧TN 14 (lxs [.tp []] True))))∧pt (lb (.box [.bool f.1, .hs .no Zar f.2])∧lb (.box [.bool false, .raw (.slice none 0 0)])∧lb (.box [.bool f.1, .row 3 0])∧leB (.row Zar ([]:List Za3) 0 0 none) (.row Zar (List.take q f.2) 0 0 none)∧True)))∧∀ y0:Nat,(y0≤List.length f.2)→(True∧(bif (ltI y0 (List.length f.2)) then ((ix 3 y0 (List.length f.2))∧(T5 ((pt (List.length (Zav f.2 y0).2.1≤rowMax))∧(T6 ((True∧List.length (List.take y0 f.2) + List.length ([(Zav f.2 y0)])≤rowMax)∧(T4 (∃ y0' : Nat,(y0'≤List.length f.2)∧(List.length f.2 - y0') < (List.length f.2 - y0)∧((lxs [.ag [.bool f.1, .hs .no Zar f.2], .c (.bp 0 0), .c (.bp 1 0), .c (.bp 2 0), .tp []] (True∧lxs [.c (.bp 0 0), .c (.bool f.1), .ag [.bool f.1, .raw (.slice none 0 0)], .c (.bp 0 1),hn Zar f.2,ci (List.length f.2)] (vI (w64 ((y0:Int) + 1)) y0'∧TN 14 (lxs [.tp []] True))))∧pt (lb (.box [.bool f.1, .hs .no Zar f.2])∧lb (.box [.bool false, .raw (.slice none 0 0)])∧lb (.box [.bool f.1, .row 3 0])∧leB (.row Zar ((List.take y0 f.2) ++ [(Zav f.2 y0)]) 0 0 none) (.row Zar (List.take y0' f.2) 0 0 none)∧True))))))))) else (T2 (pt (((cB f.1 f.1)∧((List.take y0 f.2)=f.2)∧True))))))))) (by kernel_rfl) ?_
  unfold T11 T2 T4 T5 T6
  obtain ⟨hp1,hp2⟩:ZkL f:=hpre
  exact Zlx
def ZpU:ZaI Tryz.prog:=⟨201,[.s Zdi],fun x=>ZkL x.1,fun x=>.ag [.bool x.1.1, .row 0 0],fun x=>[.row Zar x.1.2 0 0 none],fun x hx=>ZpT x.1 hx,Tryz.call201⟩
def ZBf (f:ZbP):Nat→List AV→Mem→Zbn
  | 3,tm,M=>⟨Nat,fun y=>(ZcN (ZcV tm [(4, .c (.int .i64 ((y:Nat):Int))),(5, .any)]) 9 23,Zjs M [(2, .box [.bool f.1, .row 3 0]),(3, .row Zar (List.take y f.2) 0 0 none)]),fun y=>(y≤List.length f.2),fun y=>(List.length f.2 - y)⟩
  | _,_,_=>⟨Unit,fun _=>([],[]),fun _=>False,fun _=>0⟩
theorem ZBg (f:ZbP) (hpre:ZkL f):Zat Tryz.prog 197 [.ag [.bool f.1, .hs .no Zar f.2]] (.ag [.bool f.1, .row 0 0]) [.row Zar f.2 0 0 none]:=by
  refine ZiS (T:=⟨[],[],[],[],none,fun i=>match i with | 3=>[⟨some 2,1,Zar⟩] | _=>[],0,[],[]⟩) (L:=(ZBf f)) Tryz.func197 ⟨⟨rfl,rfl⟩,rfl⟩ (fun hwf=>?_)
  refine Eq.mpr (β:=(T8 ((∃ q:Nat,(q≤List.length f.2)∧((lxs [.ag [.bool f.1, .hs .no Zar f.2], .c (.bp 0 0), .c (.bp 1 0), .c (.bp 2 0)] (vI 0 q∧True∧lxs [.c (.bp 0 0), .c (.bool f.1), .ag [.bool f.1, .raw (.slice none 0 0)]] (TN 23 (lxs [.tp []] True))))∧pt (lb (.box [.bool f.1, .hs .no Zar f.2])∧lb (.box [.bool false, .raw (.slice none 0 0)])∧lb (.box [.bool f.1, .row 3 0])∧leB (.row Zar ([]:List Za3) 0 0 none) (.row Zar (List.take q f.2) 0 0 none)∧True)))∧∀ y0:Nat,(y0≤List.length f.2)→(T5 (bif (ltI y0 (List.length f.2)) then (T3 ((ix 3 y0 (List.length f.2))∧(T6 ((True∧List.length ([]:List ByteArray) + List.length (Zav f.2 y0).2.1≤rowMax)∧(T6 ((True∧List.length (List.take y0 f.2) + List.length ([((Zav f.2 y0).1,((([]:List ByteArray) ++ (Zav f.2 y0).2.1),(Zav f.2 y0).2.2))])≤rowMax)∧(T5 (∃ y0' : Nat,(y0'≤List.length f.2)∧(List.length f.2 - y0') < (List.length f.2 - y0)∧((lxs [.ag [.bool f.1, .hs .no Zar f.2], .c (.bp 0 0), .c (.bp 1 0), .c (.bp 2 0)] (vI (w64 ((y0:Int) + 1)) y0'∧True∧lxs [.c (.bp 0 0), .c (.bool f.1), .ag [.bool f.1, .raw (.slice none 0 0)]] (TN 23 (lxs [.tp []] True))))∧pt (lb (.box [.bool f.1, .hs .no Zar f.2])∧lb (.box [.bool false, .raw (.slice none 0 0)])∧lb (.box [.bool f.1, .row 3 0])∧leB (.row Zar ((List.take y0 f.2) ++ [((Zav f.2 y0).1,((([]:List ByteArray) ++ (Zav f.2 y0).2.1),(Zav f.2 y0).2.2))]) 0 0 none) (.row Zar (List.take y0' f.2) 0 0 none)∧True)))))))))) else (T2 (pt (((cB f.1 f.1)∧((List.take y0 f.2)=f.2)∧True))))))))) (by kernel_rfl) ?_
  unfold T2 T3 T5 T6 T8
  obtain ⟨hp1,hp2⟩:ZkL f:=hpre
  exact Zlx
def ZBh:ZaI Tryz.prog:=⟨197,[.s Zdi],fun x=>ZkL x.1,fun x=>.ag [.bool x.1.1, .row 0 0],fun x=>[.row Zar x.1.2 0 0 none],fun x hx=>ZBg x.1 hx,Tryz.call197⟩
theorem Zny (s:Zal) (hpre:ZdB s):Zat Tryz.prog 123 [.ag (cellsOf Zae s)] (.ag [.bool s.1, .int .i64 s.2.1, .int .i64 s.2.2.1, .int .i64 s.2.2.2.1, .row 0 0, .bool s.2.2.2.2.2.1.1, .row 1 0, .str s.2.2.2.2.2.2.1, .str s.2.2.2.2.2.2.2.1, .row 2 0, .bool s.2.2.2.2.2.2.2.2.1.2.1, .bool s.2.2.2.2.2.2.2.2.1.2.2, .str s.2.2.2.2.2.2.2.2.2.1.1, .bool s.2.2.2.2.2.2.2.2.2.1.2, .str s.2.2.2.2.2.2.2.2.2.2.1.1, .str s.2.2.2.2.2.2.2.2.2.2.1.2, .int .i64 s.2.2.2.2.2.2.2.2.2.2.2]) [.row ZaN s.2.2.2.2.1 0 0 none, .row Zar s.2.2.2.2.2.1.2 0 0 none, .row Zai s.2.2.2.2.2.2.2.2.1.1 0 0 none]:=by
  refine bc0 [Ztm,ZpU,ZhM] [] [] [] L0 Tryz.func123 (fun hwf=>?_)
  refine Eq.mpr (β:=(T2 ((pt (true=true))∧(T6 ((pt (List.length s.2.2.2.2.1≤rowMax))∧(True∧((pt (ZkL s.2.2.2.2.2.1))∧((pt (List.length s.2.2.2.2.2.2.2.2.1.1≤rowMax))∧(T7 (pt (((cB s.1 s.1)∧(cI s.2.1 s.2.1)∧(cI s.2.2.1 s.2.2.1)∧(cI s.2.2.2.1 s.2.2.2.1)∧(s.2.2.2.2.1=s.2.2.2.2.1)∧(cB s.2.2.2.2.2.1.1 s.2.2.2.2.2.1.1)∧(s.2.2.2.2.2.1.2=s.2.2.2.2.2.1.2)∧(cS s.2.2.2.2.2.2.1 s.2.2.2.2.2.2.1)∧(cS s.2.2.2.2.2.2.2.1 s.2.2.2.2.2.2.2.1)∧(s.2.2.2.2.2.2.2.2.1.1=s.2.2.2.2.2.2.2.2.1.1)∧(cB s.2.2.2.2.2.2.2.2.1.2.1 s.2.2.2.2.2.2.2.2.1.2.1)∧(cB s.2.2.2.2.2.2.2.2.1.2.2 s.2.2.2.2.2.2.2.2.1.2.2)∧(cS s.2.2.2.2.2.2.2.2.2.1.1 s.2.2.2.2.2.2.2.2.2.1.1)∧(cB s.2.2.2.2.2.2.2.2.2.1.2 s.2.2.2.2.2.2.2.2.2.1.2)∧(cS s.2.2.2.2.2.2.2.2.2.2.1.1 s.2.2.2.2.2.2.2.2.2.2.1.1)∧(cS s.2.2.2.2.2.2.2.2.2.2.1.2 s.2.2.2.2.2.2.2.2.2.2.1.2)∧(cI s.2.2.2.2.2.2.2.2.2.2.2 s.2.2.2.2.2.2.2.2.2.2.2)∧True)))))))))))) (by kernel_rfl) ?_
  unfold T2 T6 T7
  exact ZvL
def Znz:ZaI Tryz.prog:=⟨123,[.s Zae],fun x=>ZdB x.1,fun x=>.ag [.bool x.1.1, .int .i64 x.1.2.1, .int .i64 x.1.2.2.1, .int .i64 x.1.2.2.2.1, .row 0 0, .bool x.1.2.2.2.2.2.1.1, .row 1 0, .str x.1.2.2.2.2.2.2.1, .str x.1.2.2.2.2.2.2.2.1, .row 2 0, .bool x.1.2.2.2.2.2.2.2.2.1.2.1, .bool x.1.2.2.2.2.2.2.2.2.1.2.2, .str x.1.2.2.2.2.2.2.2.2.2.1.1, .bool x.1.2.2.2.2.2.2.2.2.2.1.2, .str x.1.2.2.2.2.2.2.2.2.2.2.1.1, .str x.1.2.2.2.2.2.2.2.2.2.2.1.2, .int .i64 x.1.2.2.2.2.2.2.2.2.2.2.2],fun x=>[.row ZaN x.1.2.2.2.2.1 0 0 none, .row Zar x.1.2.2.2.2.2.1.2 0 0 none, .row Zai x.1.2.2.2.2.2.2.2.2.1.1 0 0 none],fun x hx=>Zny x.1 hx,Tryz.call123⟩
theorem ZxU (s:Zal) (hpre:ZdB s):Zat Tryz.prog 116 [.ag (cellsOf Zae s)] (.ag [.bool s.1, .int .i64 s.2.1, .int .i64 s.2.2.1, .int .i64 s.2.2.2.1, .row 0 0, .bool s.2.2.2.2.2.1.1, .row 1 0, .str s.2.2.2.2.2.2.1, .str s.2.2.2.2.2.2.2.1, .row 2 0, .bool s.2.2.2.2.2.2.2.2.1.2.1, .bool s.2.2.2.2.2.2.2.2.1.2.2, .str s.2.2.2.2.2.2.2.2.2.1.1, .bool s.2.2.2.2.2.2.2.2.2.1.2, .str s.2.2.2.2.2.2.2.2.2.2.1.1, .str s.2.2.2.2.2.2.2.2.2.2.1.2, .int .i64 s.2.2.2.2.2.2.2.2.2.2.2]) [.row ZaN s.2.2.2.2.1 0 0 none, .row Zar s.2.2.2.2.2.1.2 0 0 none, .row Zai s.2.2.2.2.2.2.2.2.1.1 0 0 none]:=by
  refine bc0 [ZxT,ZBh,Zkc] [] [] [] L0 Tryz.func116 (fun hwf=>?_)
  refine Eq.mpr (β:=(T4 ((pt (List.length s.2.2.2.2.1≤rowMax))∧(T4 ((pt (ZkL s.2.2.2.2.2.1))∧(T4 ((pt (List.length s.2.2.2.2.2.2.2.2.1.1≤rowMax))∧(T4 (pt (((cB s.1 s.1)∧(cI s.2.1 s.2.1)∧(cI s.2.2.1 s.2.2.1)∧(cI s.2.2.2.1 s.2.2.2.1)∧(s.2.2.2.2.1=s.2.2.2.2.1)∧(cB s.2.2.2.2.2.1.1 s.2.2.2.2.2.1.1)∧(s.2.2.2.2.2.1.2=s.2.2.2.2.2.1.2)∧(cS s.2.2.2.2.2.2.1 s.2.2.2.2.2.2.1)∧(cS s.2.2.2.2.2.2.2.1 s.2.2.2.2.2.2.2.1)∧(s.2.2.2.2.2.2.2.2.1.1=s.2.2.2.2.2.2.2.2.1.1)∧(cB s.2.2.2.2.2.2.2.2.1.2.1 s.2.2.2.2.2.2.2.2.1.2.1)∧(cB s.2.2.2.2.2.2.2.2.1.2.2 s.2.2.2.2.2.2.2.2.1.2.2)∧(cS s.2.2.2.2.2.2.2.2.2.1.1 s.2.2.2.2.2.2.2.2.2.1.1)∧(cB s.2.2.2.2.2.2.2.2.2.1.2 s.2.2.2.2.2.2.2.2.2.1.2)∧(cS s.2.2.2.2.2.2.2.2.2.2.1.1 s.2.2.2.2.2.2.2.2.2.2.1.1)∧(cS s.2.2.2.2.2.2.2.2.2.2.1.2 s.2.2.2.2.2.2.2.2.2.2.1.2)∧(cI s.2.2.2.2.2.2.2.2.2.2.2 s.2.2.2.2.2.2.2.2.2.2.2)∧True))))))))))) (by kernel_rfl) ?_
  unfold T4
  exact ZvL
def ZxV:ZaI Tryz.prog:=⟨116,[.s Zae],fun x=>ZdB x.1,fun x=>.ag [.bool x.1.1, .int .i64 x.1.2.1, .int .i64 x.1.2.2.1, .int .i64 x.1.2.2.2.1, .row 0 0, .bool x.1.2.2.2.2.2.1.1, .row 1 0, .str x.1.2.2.2.2.2.2.1, .str x.1.2.2.2.2.2.2.2.1, .row 2 0, .bool x.1.2.2.2.2.2.2.2.2.1.2.1, .bool x.1.2.2.2.2.2.2.2.2.1.2.2, .str x.1.2.2.2.2.2.2.2.2.2.1.1, .bool x.1.2.2.2.2.2.2.2.2.2.1.2, .str x.1.2.2.2.2.2.2.2.2.2.2.1.1, .str x.1.2.2.2.2.2.2.2.2.2.2.1.2, .int .i64 x.1.2.2.2.2.2.2.2.2.2.2.2],fun x=>[.row ZaN x.1.2.2.2.2.1 0 0 none, .row Zar x.1.2.2.2.2.2.1.2 0 0 none, .row Zai x.1.2.2.2.2.2.2.2.2.1.1 0 0 none],fun x hx=>ZxU x.1 hx,Tryz.call116⟩
theorem Zry (st:Za7) (hpre:ZjM st):Zat Tryz.prog 122 [.ag (cellsOf ZbI st)] (.ag [.row 0 0, .row 1 0, .int .i64 st.2.2]) [.row Zak st.1 0 0 none, .row Zah st.2.1 0 0 none]:=by
  refine bc0 [ZkJ,Zei] [] [] [] L0 Tryz.func122 (fun hwf=>?_)
  refine Eq.mpr (β:=(T2 ((pt (true=true))∧(T6 ((pt (ZbO st.1))∧((pt (List.length st.2.1≤rowMax))∧(T2 (pt (((st.1=st.1)∧(st.2.1=st.2.1)∧(cI st.2.2 st.2.2)∧True)))))))))) (by kernel_rfl) ?_
  obtain ⟨hp1,hp2⟩:ZjM st:=hpre
  exact Zlx
def Zrz:ZaI Tryz.prog:=⟨122,[.s ZbI],fun x=>ZjM x.1,fun x=>.ag [.row 0 0, .row 1 0, .int .i64 x.1.2.2],fun x=>[.row Zak x.1.1 0 0 none, .row Zah x.1.2.1 0 0 none],fun x hx=>Zry x.1 hx,Tryz.call122⟩
def ZfH (st:Za7):Prop:=(T2 (pt (((st.1=st.1)∧((([]:List Zax) ++ st.2.1)=st.2.1)∧(cI st.2.2 st.2.2)∧True))))
def ZfI (st:Za7):Prop:=(True∧List.length ([]:List Zax) + List.length st.2.1≤rowMax)
def Zj9 (st:Za7):Prop:=(((ZfI st)∧(True∧(ZfH st)))∧((True∧((ZfI st)∧(ZfH st)))))
theorem ZxW (st:Za7) (hpre:ZjM st):Zat Tryz.prog 115 [.ag (cellsOf ZbI st)] (.ag [.row 0 0, .row 1 0, .int .i64 st.2.2]) [.row Zak st.1 0 0 none, .row Zah st.2.1 0 0 none]:=by
  refine bc0 [Ziw] [] [] [] L0 Tryz.func115 (fun hwf=>?_)
  refine Eq.mpr (β:=(T2 ((pt (true=true))∧(T4 (((pt (ZbO st.1))∧((True∧(((ZfI st)∧(T2 (ZfH st)))∧((True∧(Zj9 st)))))∧((True∧((True∧(Zj9 st))∧((T2 ((ZfI st)∧(ZfH st)))))))))∧((True∧(((pt (ZbO st.1))∧(((ZfI st)∧(T2 (ZfH st)))∧((True∧(Zj9 st)))))∧((True∧(((pt (ZbO st.1))∧(Zj9 st))∧((True∧((pt (ZbO st.1))∧((ZfI st)∧(ZfH st))))))))))∧((True∧(((pt (ZbO st.1))∧((True∧(Zj9 st))∧((T2 ((ZfI st)∧(ZfH st))))))∧((True∧(((pt (ZbO st.1))∧(Zj9 st))∧((True∧((pt (ZbO st.1))∧((ZfI st)∧(ZfH st)))))))∧((True∧(((pt (ZbO st.1))∧(True∧((ZfI st)∧(ZfH st))))∧((True∧((pt (ZbO st.1))∧((ZfI st)∧(ZfH st)))))))))))))))))) (by kernel_rfl) ?_
  unfold Zj9 ZfI ZfH T2 T4
  obtain ⟨hp1,hp2⟩:ZjM st:=hpre
  exact Zlx
def ZxX:ZaI Tryz.prog:=⟨115,[.s ZbI],fun x=>ZjM x.1,fun x=>.ag [.row 0 0, .row 1 0, .int .i64 x.1.2.2],fun x=>[.row Zak x.1.1 0 0 none, .row Zah x.1.2.1 0 0 none],fun x hx=>ZxW x.1 hx,Tryz.call115⟩
def ZpV (v:Za6):Nat→List AV→Mem→Zbn
  | 3,tm,M=>⟨Nat,fun y=>(ZcN (ZcV tm [(5, .any),(13, .c (.int .i64 ((y:Nat):Int)))]) 14 11,Zjs M [(4, .box [.row 2 0, .row 3 0, .int .i64 v.1.2.2, .row 5 0]),(5, .row Zae (List.take y v.2) 0 0 none)]),fun y=>(y≤List.length v.2),fun y=>(List.length v.2 - y)⟩
  | _,_,_=>⟨Unit,fun _=>([],[]),fun _=>False,fun _=>0⟩
def ZnA (v:Za6):List AC:=[.hs .no Zak v.1.1, .hs .no Zah v.1.2.1, .int .i64 v.1.2.2, .hs .no Zae v.2]
def Zka (y0:Nat) (v:Za6):Prop:=(True∧((True∧List.length (List.take y0 v.2) + List.length ([(Zaa v.2 y0)])≤rowMax)∧(T4 (∃ y0' : Nat,(y0'≤List.length v.2)∧(List.length v.2 - y0') < (List.length v.2 - y0)∧((lxs [.ag (ZnA v), .c (.bp 0 0), .c (.bp 1 0), .c (.bp 4 0), .tp []] (True∧lxs [.c (.bp 0 0), .ag [.hs .no Zak v.1.1, .hs .no Zah v.1.2.1, .int .i64 v.1.2.2], .ag [.row 2 0, .row 3 0, .int .i64 v.1.2.2], .ag [.row 2 0, .row 3 0, .int .i64 v.1.2.2, .raw (.slice none 0 0)], .c (.bp 0 3),hn Zae v.2,ci (List.length v.2)] (vI (w64 ((y0:Int) + 1)) y0'∧TN 11 (lxs [.tp []] True))))∧pt (lb (.box (ZnA v))∧lb (.box [.raw (.slice none 0 0), .raw (.slice none 0 0), .int .i64 0, .raw (.slice none 0 0)])∧lb (.row Zak v.1.1 0 0 none)∧lb (.row Zah v.1.2.1 0 0 none)∧lb (.box [.row 2 0, .row 3 0, .int .i64 v.1.2.2, .row 5 0])∧leB (.row Zae ((List.take y0 v.2) ++ [(Zaa v.2 y0)]) 0 0 none) (.row Zae (List.take y0' v.2) 0 0 none)∧True))))))
theorem ZpW (v:Za6) (hpre:Zc8 v):Zat Tryz.prog 49 [.ag (cellsOf Zbp v)] (.ag [.row 0 0, .row 1 0, .int .i64 v.1.2.2, .row 2 0]) [.row Zak v.1.1 0 0 none, .row Zah v.1.2.1 0 0 none, .row Zae v.2 0 0 none]:=by
  refine ZiS (T:=⟨[Zrz,Znz],[],[],[],none,fun i=>match i with | 3=>[⟨some 4,3,Zae⟩] | _=>[],0,[],[]⟩) (L:=(ZpV v)) Tryz.func49 ⟨⟨rfl,rfl⟩,rfl⟩ (fun hwf=>?_)
  refine Eq.mpr (β:=(T4 ((pt (ZjM v.1))∧(T7 ((∃ q:Nat,(q≤List.length v.2)∧((lxs [.ag (ZnA v), .c (.bp 0 0), .c (.bp 1 0), .c (.bp 4 0), .tp []] (True∧lxs [.c (.bp 0 0), .ag [.hs .no Zak v.1.1, .hs .no Zah v.1.2.1, .int .i64 v.1.2.2], .ag [.row 2 0, .row 3 0, .int .i64 v.1.2.2], .ag [.row 2 0, .row 3 0, .int .i64 v.1.2.2, .raw (.slice none 0 0)], .c (.bp 0 3),hn Zae v.2,ci (List.length v.2)] (vI 0 q∧TN 11 (lxs [.tp []] True))))∧pt (lb (.box (ZnA v))∧lb (.box [.raw (.slice none 0 0), .raw (.slice none 0 0), .int .i64 0, .raw (.slice none 0 0)])∧lb (.row Zak v.1.1 0 0 none)∧lb (.row Zah v.1.2.1 0 0 none)∧lb (.box [.row 2 0, .row 3 0, .int .i64 v.1.2.2, .row 5 0])∧leB (.row Zae ([]:List Zal) 0 0 none) (.row Zae (List.take q v.2) 0 0 none)∧True)))∧∀ y0:Nat,(y0≤List.length v.2)→(True∧(bif (ltI y0 (List.length v.2)) then ((ix 17 y0 (List.length v.2))∧(T3 ((pt (true=true))∧(True∧((True∧((True∧((pt (ZdB (Zaa v.2 y0)))∧(Zka y0 v)))∧(((pt (ZdB (Zaa v.2 y0)))∧((True∧(Zka y0 v))∧((True∧(Zka y0 v))))))))∧(((pt (ZdB (Zaa v.2 y0)))∧((True∧((True∧(Zka y0 v))∧((True∧(Zka y0 v)))))∧((T2 (Zka y0 v))))))))))) else (T2 (pt (((v.1.1=v.1.1)∧(v.1.2.1=v.1.2.1)∧(cI v.1.2.2 v.1.2.2)∧((List.take y0 v.2)=v.2)∧True))))))))))) (by kernel_rfl) ?_
  unfold Zka ZnA T2 T3 T4 T7
  exact ZvJ
def ZpX:ZaI Tryz.prog:=⟨49,[.s Zbp],fun x=>Zc8 x.1,fun x=>.ag [.row 0 0, .row 1 0, .int .i64 x.1.1.2.2, .row 2 0],fun x=>[.row Zak x.1.1.1 0 0 none, .row Zah x.1.1.2.1 0 0 none, .row Zae x.1.2 0 0 none],fun x hx=>ZpW x.1 hx,Tryz.call49⟩
def ZxY (v:Za6):Nat→List AV→Mem→Zbn
  | 3,tm,M=>⟨Nat,fun y=>(ZcN (ZcV tm [(4, .c (.int .i64 ((y:Nat):Int)))]) 9 18,Zjs M [(4, .box [.row 2 0, .row 3 0, .int .i64 v.1.2.2, .row 5 0]),(5, .row Zae (List.take y v.2) 0 0 none)]),fun y=>(y≤List.length v.2),fun y=>(List.length v.2 - y)⟩
  | _,_,_=>⟨Unit,fun _=>([],[]),fun _=>False,fun _=>0⟩
def ZnB (v:Za6):List AC:=[.hs .no Zak v.1.1, .hs .no Zah v.1.2.1, .int .i64 v.1.2.2, .hs .no Zae v.2]
def Zkb (y0:Nat) (v:Za6):Prop:=(True∧((True∧List.length (List.take y0 v.2) + List.length ([(Zaa v.2 y0)])≤rowMax)∧(T5 (∃ y0' : Nat,(y0'≤List.length v.2)∧(List.length v.2 - y0') < (List.length v.2 - y0)∧((lxs [.ag (ZnB v), .c (.bp 0 0), .c (.bp 1 0), .c (.bp 4 0)] (vI (w64 ((y0:Int) + 1)) y0'∧lxs [.c (.bp 0 0), .ag [.hs .no Zak v.1.1, .hs .no Zah v.1.2.1, .int .i64 v.1.2.2], .ag [.row 2 0, .row 3 0, .int .i64 v.1.2.2], .ag [.row 2 0, .row 3 0, .int .i64 v.1.2.2, .raw (.slice none 0 0)]] (TN 18 (lxs [.tp []] True))))∧pt (lb (.box (ZnB v))∧lb (.box [.raw (.slice none 0 0), .raw (.slice none 0 0), .int .i64 0, .raw (.slice none 0 0)])∧lb (.row Zak v.1.1 0 0 none)∧lb (.row Zah v.1.2.1 0 0 none)∧lb (.box [.row 2 0, .row 3 0, .int .i64 v.1.2.2, .row 5 0])∧leB (.row Zae ((List.take y0 v.2) ++ [(Zaa v.2 y0)]) 0 0 none) (.row Zae (List.take y0' v.2) 0 0 none)∧True))))))
theorem ZxZ (v:Za6) (hpre:Zc8 v):Zat Tryz.prog 45 [.ag (cellsOf Zbp v)] (.ag [.row 0 0, .row 1 0, .int .i64 v.1.2.2, .row 2 0]) [.row Zak v.1.1 0 0 none, .row Zah v.1.2.1 0 0 none, .row Zae v.2 0 0 none]:=by
  refine ZiS (T:=⟨[ZxX,ZxV],[],[],[],none,fun i=>match i with | 3=>[⟨some 4,3,Zae⟩] | _=>[],0,[],[]⟩) (L:=(ZxY v)) Tryz.func45 ⟨⟨rfl,rfl⟩,rfl⟩ (fun hwf=>?_)
  refine Eq.mpr (β:=(T4 ((pt (ZjM v.1))∧(T4 ((∃ q:Nat,(q≤List.length v.2)∧((lxs [.ag (ZnB v), .c (.bp 0 0), .c (.bp 1 0), .c (.bp 4 0)] (vI 0 q∧lxs [.c (.bp 0 0), .ag [.hs .no Zak v.1.1, .hs .no Zah v.1.2.1, .int .i64 v.1.2.2], .ag [.row 2 0, .row 3 0, .int .i64 v.1.2.2], .ag [.row 2 0, .row 3 0, .int .i64 v.1.2.2, .raw (.slice none 0 0)]] (TN 18 (lxs [.tp []] True))))∧pt (lb (.box (ZnB v))∧lb (.box [.raw (.slice none 0 0), .raw (.slice none 0 0), .int .i64 0, .raw (.slice none 0 0)])∧lb (.row Zak v.1.1 0 0 none)∧lb (.row Zah v.1.2.1 0 0 none)∧lb (.box [.row 2 0, .row 3 0, .int .i64 v.1.2.2, .row 5 0])∧leB (.row Zae ([]:List Zal) 0 0 none) (.row Zae (List.take q v.2) 0 0 none)∧True)))∧∀ y0:Nat,(y0≤List.length v.2)→(T5 (bif (ltI y0 (List.length v.2)) then ((pt (true=true))∧(T3 ((ix 17 y0 (List.length v.2))∧(True∧((True∧((True∧((pt (ZdB (Zaa v.2 y0)))∧(Zkb y0 v)))∧(((pt (ZdB (Zaa v.2 y0)))∧((True∧(Zkb y0 v))∧((True∧(Zkb y0 v))))))))∧(((pt (ZdB (Zaa v.2 y0)))∧((True∧((True∧(Zkb y0 v))∧((True∧(Zkb y0 v)))))∧((T2 (Zkb y0 v))))))))))) else (T2 (pt (((v.1.1=v.1.1)∧(v.1.2.1=v.1.2.1)∧(cI v.1.2.2 v.1.2.2)∧((List.take y0 v.2)=v.2)∧True))))))))))) (by kernel_rfl) ?_
  unfold Zkb ZnB T2 T3 T4 T5
  exact ZvJ
def Zx0:ZaI Tryz.prog:=⟨45,[.s Zbp],fun x=>Zc8 x.1,fun x=>.ag [.row 0 0, .row 1 0, .int .i64 x.1.1.2.2, .row 2 0],fun x=>[.row Zak x.1.1.1 0 0 none, .row Zah x.1.1.2.1 0 0 none, .row Zae x.1.2 0 0 none],fun x hx=>ZxZ x.1 hx,Tryz.call45⟩
end Go.Proofs.YtkompmgleojmlaaGreat
