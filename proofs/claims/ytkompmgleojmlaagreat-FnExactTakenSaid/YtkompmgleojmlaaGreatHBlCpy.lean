import Derived.Test.YtkompmgleojmlaaGreatHBlApp
import Derived.Test.YtkompmgleojmlaaGreatHBmRw
set_option linter.unusedSimpArgs false
set_option linter.unusedVariables false
set_option maxRecDepth 100000
set_option maxHeartbeats 4000000
namespace Go.Proofs.YtkompmgleojmlaaGreat
open Go.ChangeShapes Go.WideShapes Go.ChangeAt Go.RowKit Go.Joins Go.Deep
open GoRep (rep bulk)
def Zl7 (f:Zb3):Prop:=f.2.length≤1048576∧∀ x ∈ f.2,x.2.1.length≤1048576
def Zhq (s:Zad):Prop:=s.2.2.2.2.1.length≤1048576∧Zl7 s.2.2.2.2.2.1∧s.2.2.2.2.2.2.2.2.1.1.length≤1048576
def ZkV (st:ZaI):Prop:=Zb1 st.1∧st.2.1.length≤1048576
def ZcD (v:ZaE):Prop:=ZkV v.1∧v.2.length≤1048576∧∀ x ∈ v.2,Zhq x
theorem ZkW {l:List ZaZ} {k:Nat} (h:k < l.length):List.take k l ++ [Zaq l k]=List.take (k + 1) l:=by
 rw [List.take_add_one,show l[k]?=some (Zaq l k) from Zau (t:=Zak) h]
 rfl
theorem Zon {l:List Zad} {k:Nat} (h:k < l.length):List.take k l ++ [Zaa l k]=List.take (k + 1) l:=by
 rw [List.take_add_one,show l[k]?=some (Zaa l k) from Zau (t:=Zae) h]
 rfl
theorem Zwh (v:List ZbX) (hpre:List.length v≤rowMax):Zam Tryz.prog 200 [.ag [.hs .no Zay v]] (.ag [.row 0 0]) [.row Zay v 0 0 none]:=by
 refine bc0 [Zf9] [] [] [] L0 Tryz.func200 (fun hwf=>?_)
 refine Eq.mpr (β:=T4 (pt (v.length≤rowMax)∧T2 (pt ((v=v∧True))))) (by kernel_rfl) ?_
 exact ZeW
def Zwi:ZaC Tryz.prog:=⟨200,[.s (.list Zay)],fun x=>List.length x.1≤rowMax,fun x=>.ag [.row 0 0],fun x=>[.row Zay x.1 0 0 none],fun x hx=>Zwh x.1 hx,Tryz.call200⟩
theorem ZBK (v:List ZbX) (hpre:List.length v≤rowMax):Zam Tryz.prog 196 [.ag [.hs .no Zay v]] (.ag [.row 0 0]) [.row Zay v 0 0 none]:=by
 refine bc0 [] [] [] [] L0 Tryz.func196 (fun hwf=>?_)
 refine Eq.mpr (β:=T5 ((True∧List.length ([]:List ZbX) + v.length≤rowMax)∧T2 (pt (((([]:List ZbX) ++ v)=v∧True))))) (by kernel_rfl) ?_
 exact ZeW
def ZBL:ZaC Tryz.prog:=⟨196,[.s (.list Zay)],fun x=>List.length x.1≤rowMax,fun x=>.ag [.row 0 0],fun x=>[.row Zay x.1 0 0 none],fun x hx=>ZBK x.1 hx,Tryz.call196⟩
def Zr3 (f:Zb3):Nat→List AV→Mem→Zbj
 | 3,tm,M=>⟨Nat,fun y=>(Zcn (ZcC tm [(5, .any),(12, .c (.int .i64 ((y:Nat):Int)))]) 13 14,ZlQ M [(2, .box [.bool f.1, .row 3 0]),(3, .row Zak (List.take y f.2) 0 0 none)]),fun y=>(y≤List.length f.2),fun y=>(List.length f.2 - y)⟩
 | _,_,_=>⟨Unit,fun _=>([],[]),fun _=>False,fun _=>0⟩
theorem Zr4 (f:Zb3) (hpre:Zl7 f):Zam Tryz.prog 201 [.ag [.bool f.1, .hs .no Zak f.2]] (.ag [.bool f.1, .row 0 0]) [.row Zak f.2 0 0 none]:=by
 refine ZcY (T:=⟨[Zgb],[],[],[],none,fun i=>match i with | 3=>[⟨some 2,1,Zak⟩] | _=>[],0,[],[]⟩) (L:=(Zr3 f)) Tryz.func201 ⟨⟨rfl,rfl⟩,rfl⟩ (fun hwf=>?_)
 refine Eq.mpr (β:=T11 ((∃ q:Nat,(q≤f.2.length)∧lxs [.ag [.bool f.1, .hs .no Zak f.2], .c (.bp 0 0), .c (.bp 1 0), .c (.bp 2 0), .tp []] (True∧lxs [.c (.bp 0 0), .c (.bool f.1), .ag [.bool f.1, .raw (.slice none 0 0)], .c (.bp 0 1),hn Zak f.2,ci f.2.length] (vI 0 q∧TN 14 (lxs [.tp []] True)))∧pt (lb (.box [.bool f.1, .hs .no Zak f.2])∧lb (.box [.bool false, .raw (.slice none 0 0)])∧lb (.box [.bool f.1, .row 3 0])∧leB (.row Zak ([]:List ZaZ) 0 0 none) (.row Zak (List.take q f.2) 0 0 none)∧True))∧∀ y0:Nat,(y0≤f.2.length)→True∧bif ltI y0 f.2.length then ix 3 y0 f.2.length∧T5 (pt (List.length (Zaq f.2 y0).2.1≤rowMax)∧T6 ((True∧List.length (List.take y0 f.2) + List.length ([(Zaq f.2 y0)])≤rowMax)∧T4 (∃ y0' : Nat,(y0'≤f.2.length)∧(f.2.length - y0') < (f.2.length - y0)∧lxs [.ag [.bool f.1, .hs .no Zak f.2], .c (.bp 0 0), .c (.bp 1 0), .c (.bp 2 0), .tp []] (True∧lxs [.c (.bp 0 0), .c (.bool f.1), .ag [.bool f.1, .raw (.slice none 0 0)], .c (.bp 0 1),hn Zak f.2,ci f.2.length] (vI (w64 ((y0:Int) + 1)) y0'∧TN 14 (lxs [.tp []] True)))∧pt (lb (.box [.bool f.1, .hs .no Zak f.2])∧lb (.box [.bool false, .raw (.slice none 0 0)])∧lb (.box [.bool f.1, .row 3 0])∧leB (.row Zak ((List.take y0 f.2) ++ [(Zaq f.2 y0)]) 0 0 none) (.row Zak (List.take y0' f.2) 0 0 none)∧True)))) else T2 (pt ((cB f.1 f.1∧(List.take y0 f.2)=f.2∧True))))) (by kernel_rfl) ?_
 unfold T11 T2 T4 T5 T6
 obtain ⟨hp1,hp2⟩:Zl7 f:=hpre
 exact ZmW
def Zr5:ZaC Tryz.prog:=⟨201,[.s Zdd],fun x=>Zl7 x.1,fun x=>.ag [.bool x.1.1, .row 0 0],fun x=>[.row Zak x.1.2 0 0 none],fun x hx=>Zr4 x.1 hx,Tryz.call201⟩
def ZFI (f:Zb3):Nat→List AV→Mem→Zbj
 | 3,tm,M=>⟨Nat,fun y=>(Zcn (ZcC tm [(4, .c (.int .i64 ((y:Nat):Int))),(5, .any)]) 9 23,ZlQ M [(2, .box [.bool f.1, .row 3 0]),(3, .row Zak (List.take y f.2) 0 0 none)]),fun y=>(y≤List.length f.2),fun y=>(List.length f.2 - y)⟩
 | _,_,_=>⟨Unit,fun _=>([],[]),fun _=>False,fun _=>0⟩
theorem ZFJ (f:Zb3) (hpre:Zl7 f):Zam Tryz.prog 197 [.ag [.bool f.1, .hs .no Zak f.2]] (.ag [.bool f.1, .row 0 0]) [.row Zak f.2 0 0 none]:=by
 refine ZcY (T:=⟨[],[],[],[],none,fun i=>match i with | 3=>[⟨some 2,1,Zak⟩] | _=>[],0,[],[]⟩) (L:=(ZFI f)) Tryz.func197 ⟨⟨rfl,rfl⟩,rfl⟩ (fun hwf=>?_)
 refine Eq.mpr (β:=T8 ((∃ q:Nat,(q≤f.2.length)∧lxs [.ag [.bool f.1, .hs .no Zak f.2], .c (.bp 0 0), .c (.bp 1 0), .c (.bp 2 0)] (vI 0 q∧True∧lxs [.c (.bp 0 0), .c (.bool f.1), .ag [.bool f.1, .raw (.slice none 0 0)]] (TN 23 (lxs [.tp []] True)))∧pt (lb (.box [.bool f.1, .hs .no Zak f.2])∧lb (.box [.bool false, .raw (.slice none 0 0)])∧lb (.box [.bool f.1, .row 3 0])∧leB (.row Zak ([]:List ZaZ) 0 0 none) (.row Zak (List.take q f.2) 0 0 none)∧True))∧∀ y0:Nat,(y0≤f.2.length)→T5 (bif ltI y0 f.2.length then T3 (ix 3 y0 f.2.length∧T6 ((True∧List.length ([]:List ByteArray) + List.length (Zaq f.2 y0).2.1≤rowMax)∧T6 ((True∧List.length (List.take y0 f.2) + List.length ([((Zaq f.2 y0).1,(([]:List ByteArray) ++ (Zaq f.2 y0).2.1),(Zaq f.2 y0).2.2)])≤rowMax)∧T5 (∃ y0' : Nat,(y0'≤f.2.length)∧(f.2.length - y0') < (f.2.length - y0)∧lxs [.ag [.bool f.1, .hs .no Zak f.2], .c (.bp 0 0), .c (.bp 1 0), .c (.bp 2 0)] (vI (w64 ((y0:Int) + 1)) y0'∧True∧lxs [.c (.bp 0 0), .c (.bool f.1), .ag [.bool f.1, .raw (.slice none 0 0)]] (TN 23 (lxs [.tp []] True)))∧pt (lb (.box [.bool f.1, .hs .no Zak f.2])∧lb (.box [.bool false, .raw (.slice none 0 0)])∧lb (.box [.bool f.1, .row 3 0])∧leB (.row Zak ((List.take y0 f.2) ++ [((Zaq f.2 y0).1,(([]:List ByteArray) ++ (Zaq f.2 y0).2.1),(Zaq f.2 y0).2.2)]) 0 0 none) (.row Zak (List.take y0' f.2) 0 0 none)∧True))))) else T2 (pt ((cB f.1 f.1∧(List.take y0 f.2)=f.2∧True)))))) (by kernel_rfl) ?_
 unfold T2 T3 T5 T6 T8
 obtain ⟨hp1,hp2⟩:Zl7 f:=hpre
 exact ZmW
def ZFK:ZaC Tryz.prog:=⟨197,[.s Zdd],fun x=>Zl7 x.1,fun x=>.ag [.bool x.1.1, .row 0 0],fun x=>[.row Zak x.1.2 0 0 none],fun x hx=>ZFJ x.1 hx,Tryz.call197⟩
theorem Zpb (s:Zad) (hpre:Zhq s):Zam Tryz.prog 123 [.ag (cellsOf Zae s)] (.ag [.bool s.1, .int .i64 s.2.1, .int .i64 s.2.2.1, .int .i64 s.2.2.2.1, .row 0 0, .bool s.2.2.2.2.2.1.1, .row 1 0, .str s.2.2.2.2.2.2.1, .str s.2.2.2.2.2.2.2.1, .row 2 0, .bool s.2.2.2.2.2.2.2.2.1.2.1, .bool s.2.2.2.2.2.2.2.2.1.2.2, .str s.2.2.2.2.2.2.2.2.2.1.1, .bool s.2.2.2.2.2.2.2.2.2.1.2, .str s.2.2.2.2.2.2.2.2.2.2.1.1, .str s.2.2.2.2.2.2.2.2.2.2.1.2, .int .i64 s.2.2.2.2.2.2.2.2.2.2.2]) [.row Zay s.2.2.2.2.1 0 0 none, .row Zak s.2.2.2.2.2.1.2 0 0 none, .row Zal s.2.2.2.2.2.2.2.2.1.1 0 0 none]:=by
 refine bc0 [Zwi,Zr5,Zuc] [] [] [] L0 Tryz.func123 (fun hwf=>?_)
 refine Eq.mpr (β:=T2 (pt (true=true)∧T6 (pt (s.2.2.2.2.1.length≤rowMax)∧True∧pt (Zl7 s.2.2.2.2.2.1)∧pt (s.2.2.2.2.2.2.2.2.1.1.length≤rowMax)∧T7 (pt ((cB s.1 s.1∧cI s.2.1 s.2.1∧cI s.2.2.1 s.2.2.1∧cI s.2.2.2.1 s.2.2.2.1∧s.2.2.2.2.1=s.2.2.2.2.1∧cB s.2.2.2.2.2.1.1 s.2.2.2.2.2.1.1∧s.2.2.2.2.2.1.2=s.2.2.2.2.2.1.2∧cS s.2.2.2.2.2.2.1 s.2.2.2.2.2.2.1∧cS s.2.2.2.2.2.2.2.1 s.2.2.2.2.2.2.2.1∧s.2.2.2.2.2.2.2.2.1.1=s.2.2.2.2.2.2.2.2.1.1∧cB s.2.2.2.2.2.2.2.2.1.2.1 s.2.2.2.2.2.2.2.2.1.2.1∧cB s.2.2.2.2.2.2.2.2.1.2.2 s.2.2.2.2.2.2.2.2.1.2.2∧cS s.2.2.2.2.2.2.2.2.2.1.1 s.2.2.2.2.2.2.2.2.2.1.1∧cB s.2.2.2.2.2.2.2.2.2.1.2 s.2.2.2.2.2.2.2.2.2.1.2∧cS s.2.2.2.2.2.2.2.2.2.2.1.1 s.2.2.2.2.2.2.2.2.2.2.1.1∧cS s.2.2.2.2.2.2.2.2.2.2.1.2 s.2.2.2.2.2.2.2.2.2.2.1.2∧cI s.2.2.2.2.2.2.2.2.2.2.2 s.2.2.2.2.2.2.2.2.2.2.2∧True)))))) (by kernel_rfl) ?_
 unfold T2 T6 T7
 exact ZyY
def Zpc:ZaC Tryz.prog:=⟨123,[.s Zae],fun x=>Zhq x.1,fun x=>.ag [.bool x.1.1, .int .i64 x.1.2.1, .int .i64 x.1.2.2.1, .int .i64 x.1.2.2.2.1, .row 0 0, .bool x.1.2.2.2.2.2.1.1, .row 1 0, .str x.1.2.2.2.2.2.2.1, .str x.1.2.2.2.2.2.2.2.1, .row 2 0, .bool x.1.2.2.2.2.2.2.2.2.1.2.1, .bool x.1.2.2.2.2.2.2.2.2.1.2.2, .str x.1.2.2.2.2.2.2.2.2.2.1.1, .bool x.1.2.2.2.2.2.2.2.2.2.1.2, .str x.1.2.2.2.2.2.2.2.2.2.2.1.1, .str x.1.2.2.2.2.2.2.2.2.2.2.1.2, .int .i64 x.1.2.2.2.2.2.2.2.2.2.2.2],fun x=>[.row Zay x.1.2.2.2.2.1 0 0 none, .row Zak x.1.2.2.2.2.2.1.2 0 0 none, .row Zal x.1.2.2.2.2.2.2.2.2.1.1 0 0 none],fun x hx=>Zpb x.1 hx,Tryz.call123⟩
theorem ZBM (s:Zad) (hpre:Zhq s):Zam Tryz.prog 116 [.ag (cellsOf Zae s)] (.ag [.bool s.1, .int .i64 s.2.1, .int .i64 s.2.2.1, .int .i64 s.2.2.2.1, .row 0 0, .bool s.2.2.2.2.2.1.1, .row 1 0, .str s.2.2.2.2.2.2.1, .str s.2.2.2.2.2.2.2.1, .row 2 0, .bool s.2.2.2.2.2.2.2.2.1.2.1, .bool s.2.2.2.2.2.2.2.2.1.2.2, .str s.2.2.2.2.2.2.2.2.2.1.1, .bool s.2.2.2.2.2.2.2.2.2.1.2, .str s.2.2.2.2.2.2.2.2.2.2.1.1, .str s.2.2.2.2.2.2.2.2.2.2.1.2, .int .i64 s.2.2.2.2.2.2.2.2.2.2.2]) [.row Zay s.2.2.2.2.1 0 0 none, .row Zak s.2.2.2.2.2.1.2 0 0 none, .row Zal s.2.2.2.2.2.2.2.2.1.1 0 0 none]:=by
 refine bc0 [ZBL,ZFK,ZBT] [] [] [] L0 Tryz.func116 (fun hwf=>?_)
 refine Eq.mpr (β:=T4 (pt (s.2.2.2.2.1.length≤rowMax)∧T4 (pt (Zl7 s.2.2.2.2.2.1)∧T4 (pt (s.2.2.2.2.2.2.2.2.1.1.length≤rowMax)∧T4 (pt ((cB s.1 s.1∧cI s.2.1 s.2.1∧cI s.2.2.1 s.2.2.1∧cI s.2.2.2.1 s.2.2.2.1∧s.2.2.2.2.1=s.2.2.2.2.1∧cB s.2.2.2.2.2.1.1 s.2.2.2.2.2.1.1∧s.2.2.2.2.2.1.2=s.2.2.2.2.2.1.2∧cS s.2.2.2.2.2.2.1 s.2.2.2.2.2.2.1∧cS s.2.2.2.2.2.2.2.1 s.2.2.2.2.2.2.2.1∧s.2.2.2.2.2.2.2.2.1.1=s.2.2.2.2.2.2.2.2.1.1∧cB s.2.2.2.2.2.2.2.2.1.2.1 s.2.2.2.2.2.2.2.2.1.2.1∧cB s.2.2.2.2.2.2.2.2.1.2.2 s.2.2.2.2.2.2.2.2.1.2.2∧cS s.2.2.2.2.2.2.2.2.2.1.1 s.2.2.2.2.2.2.2.2.2.1.1∧cB s.2.2.2.2.2.2.2.2.2.1.2 s.2.2.2.2.2.2.2.2.2.1.2∧cS s.2.2.2.2.2.2.2.2.2.2.1.1 s.2.2.2.2.2.2.2.2.2.2.1.1∧cS s.2.2.2.2.2.2.2.2.2.2.1.2 s.2.2.2.2.2.2.2.2.2.2.1.2∧cI s.2.2.2.2.2.2.2.2.2.2.2 s.2.2.2.2.2.2.2.2.2.2.2∧True))))))) (by kernel_rfl) ?_
 unfold T4
 exact ZyY
def ZBN:ZaC Tryz.prog:=⟨116,[.s Zae],fun x=>Zhq x.1,fun x=>.ag [.bool x.1.1, .int .i64 x.1.2.1, .int .i64 x.1.2.2.1, .int .i64 x.1.2.2.2.1, .row 0 0, .bool x.1.2.2.2.2.2.1.1, .row 1 0, .str x.1.2.2.2.2.2.2.1, .str x.1.2.2.2.2.2.2.2.1, .row 2 0, .bool x.1.2.2.2.2.2.2.2.2.1.2.1, .bool x.1.2.2.2.2.2.2.2.2.1.2.2, .str x.1.2.2.2.2.2.2.2.2.2.1.1, .bool x.1.2.2.2.2.2.2.2.2.2.1.2, .str x.1.2.2.2.2.2.2.2.2.2.2.1.1, .str x.1.2.2.2.2.2.2.2.2.2.2.1.2, .int .i64 x.1.2.2.2.2.2.2.2.2.2.2.2],fun x=>[.row Zay x.1.2.2.2.2.1 0 0 none, .row Zak x.1.2.2.2.2.2.1.2 0 0 none, .row Zal x.1.2.2.2.2.2.2.2.2.1.1 0 0 none],fun x hx=>ZBM x.1 hx,Tryz.call116⟩
theorem Zt9 (st:ZaI) (hpre:ZkV st):Zam Tryz.prog 122 [.ag (cellsOf ZbJ st)] (.ag [.row 0 0, .row 1 0, .int .i64 st.2.2]) [.row Zaj st.1 0 0 none, .row Zag st.2.1 0 0 none]:=by
 refine bc0 [Zl1,Ze1] [] [] [] L0 Tryz.func122 (fun hwf=>?_)
 refine Eq.mpr (β:=T2 (pt (true=true)∧T6 (pt (Zb1 st.1)∧pt (st.2.1.length≤rowMax)∧T2 (pt ((st.1=st.1∧st.2.1=st.2.1∧cI st.2.2 st.2.2∧True)))))) (by kernel_rfl) ?_
 obtain ⟨hp1,hp2⟩:ZkV st:=hpre
 exact ZmW
def Zua:ZaC Tryz.prog:=⟨122,[.s ZbJ],fun x=>ZkV x.1,fun x=>.ag [.row 0 0, .row 1 0, .int .i64 x.1.2.2],fun x=>[.row Zaj x.1.1 0 0 none, .row Zag x.1.2.1 0 0 none],fun x hx=>Zt9 x.1 hx,Tryz.call122⟩
def ZgC (st:ZaI):Prop:=T2 (pt ((st.1=st.1∧(([]:List Zax) ++ st.2.1)=st.2.1∧cI st.2.2 st.2.2∧True)))
def ZgD (st:ZaI):Prop:=True∧List.length ([]:List Zax) + st.2.1.length≤rowMax
def Zll (st:ZaI):Prop:=(ZgD st∧True∧ZgC st)∧(True∧ZgD st∧ZgC st)
theorem ZBO (st:ZaI) (hpre:ZkV st):Zam Tryz.prog 115 [.ag (cellsOf ZbJ st)] (.ag [.row 0 0, .row 1 0, .int .i64 st.2.2]) [.row Zaj st.1 0 0 none, .row Zag st.2.1 0 0 none]:=by
 refine bc0 [Zjs] [] [] [] L0 Tryz.func115 (fun hwf=>?_)
 refine Eq.mpr (β:=T2 (pt (true=true)∧T4 ((pt (Zb1 st.1)∧(True∧(ZgD st∧T2 (ZgC st))∧(True∧Zll st))∧(True∧(True∧Zll st)∧(T2 (ZgD st∧ZgC st))))∧(True∧(pt (Zb1 st.1)∧(ZgD st∧T2 (ZgC st))∧(True∧Zll st))∧(True∧(pt (Zb1 st.1)∧Zll st)∧(True∧pt (Zb1 st.1)∧ZgD st∧ZgC st)))∧(True∧(pt (Zb1 st.1)∧(True∧Zll st)∧(T2 (ZgD st∧ZgC st)))∧(True∧(pt (Zb1 st.1)∧Zll st)∧(True∧pt (Zb1 st.1)∧ZgD st∧ZgC st))∧(True∧(pt (Zb1 st.1)∧True∧ZgD st∧ZgC st)∧(True∧pt (Zb1 st.1)∧ZgD st∧ZgC st)))))) (by kernel_rfl) ?_
 unfold Zll ZgD ZgC T2 T4
 obtain ⟨hp1,hp2⟩:ZkV st:=hpre
 exact ZmW
def ZBP:ZaC Tryz.prog:=⟨115,[.s ZbJ],fun x=>ZkV x.1,fun x=>.ag [.row 0 0, .row 1 0, .int .i64 x.1.2.2],fun x=>[.row Zaj x.1.1 0 0 none, .row Zag x.1.2.1 0 0 none],fun x hx=>ZBO x.1 hx,Tryz.call115⟩
def Zr6 (v:ZaE):Nat→List AV→Mem→Zbj
 | 3,tm,M=>⟨Nat,fun y=>(Zcn (ZcC tm [(5, .any),(13, .c (.int .i64 ((y:Nat):Int)))]) 14 11,ZlQ M [(4, .box [.row 2 0, .row 3 0, .int .i64 v.1.2.2, .row 5 0]),(5, .row Zae (List.take y v.2) 0 0 none)]),fun y=>(y≤List.length v.2),fun y=>(List.length v.2 - y)⟩
 | _,_,_=>⟨Unit,fun _=>([],[]),fun _=>False,fun _=>0⟩
def Zpd (v:ZaE):List AC:=[.hs .no Zaj v.1.1, .hs .no Zag v.1.2.1, .int .i64 v.1.2.2, .hs .no Zae v.2]
def Zlm (y0:Nat) (v:ZaE):Prop:=True∧(True∧List.length (List.take y0 v.2) + List.length ([(Zaa v.2 y0)])≤rowMax)∧T4 (∃ y0' : Nat,(y0'≤v.2.length)∧(v.2.length - y0') < (v.2.length - y0)∧lxs [.ag (Zpd v), .c (.bp 0 0), .c (.bp 1 0), .c (.bp 4 0), .tp []] (True∧lxs [.c (.bp 0 0), .ag [.hs .no Zaj v.1.1, .hs .no Zag v.1.2.1, .int .i64 v.1.2.2], .ag [.row 2 0, .row 3 0, .int .i64 v.1.2.2], .ag [.row 2 0, .row 3 0, .int .i64 v.1.2.2, .raw (.slice none 0 0)], .c (.bp 0 3),hn Zae v.2,ci v.2.length] (vI (w64 ((y0:Int) + 1)) y0'∧TN 11 (lxs [.tp []] True)))∧pt (lb (.box (Zpd v))∧lb (.box [.raw (.slice none 0 0), .raw (.slice none 0 0), .int .i64 0, .raw (.slice none 0 0)])∧lb (.row Zaj v.1.1 0 0 none)∧lb (.row Zag v.1.2.1 0 0 none)∧lb (.box [.row 2 0, .row 3 0, .int .i64 v.1.2.2, .row 5 0])∧leB (.row Zae ((List.take y0 v.2) ++ [(Zaa v.2 y0)]) 0 0 none) (.row Zae (List.take y0' v.2) 0 0 none)∧True))
theorem Zr7 (v:ZaE) (hpre:ZcD v):Zam Tryz.prog 49 [.ag (cellsOf ZaV v)] (.ag [.row 0 0, .row 1 0, .int .i64 v.1.2.2, .row 2 0]) [.row Zaj v.1.1 0 0 none, .row Zag v.1.2.1 0 0 none, .row Zae v.2 0 0 none]:=by
 refine ZcY (T:=⟨[Zua,Zpc],[],[],[],none,fun i=>match i with | 3=>[⟨some 4,3,Zae⟩] | _=>[],0,[],[]⟩) (L:=(Zr6 v)) Tryz.func49 ⟨⟨rfl,rfl⟩,rfl⟩ (fun hwf=>?_)
 refine Eq.mpr (β:=T4 (pt (ZkV v.1)∧T7 ((∃ q:Nat,(q≤v.2.length)∧lxs [.ag (Zpd v), .c (.bp 0 0), .c (.bp 1 0), .c (.bp 4 0), .tp []] (True∧lxs [.c (.bp 0 0), .ag [.hs .no Zaj v.1.1, .hs .no Zag v.1.2.1, .int .i64 v.1.2.2], .ag [.row 2 0, .row 3 0, .int .i64 v.1.2.2], .ag [.row 2 0, .row 3 0, .int .i64 v.1.2.2, .raw (.slice none 0 0)], .c (.bp 0 3),hn Zae v.2,ci v.2.length] (vI 0 q∧TN 11 (lxs [.tp []] True)))∧pt (lb (.box (Zpd v))∧lb (.box [.raw (.slice none 0 0), .raw (.slice none 0 0), .int .i64 0, .raw (.slice none 0 0)])∧lb (.row Zaj v.1.1 0 0 none)∧lb (.row Zag v.1.2.1 0 0 none)∧lb (.box [.row 2 0, .row 3 0, .int .i64 v.1.2.2, .row 5 0])∧leB (.row Zae ([]:List Zad) 0 0 none) (.row Zae (List.take q v.2) 0 0 none)∧True))∧∀ y0:Nat,(y0≤v.2.length)→True∧bif ltI y0 v.2.length then ix 17 y0 v.2.length∧T3 (pt (true=true)∧True∧(True∧(True∧pt (Zhq (Zaa v.2 y0))∧Zlm y0 v)∧(pt (Zhq (Zaa v.2 y0))∧(True∧Zlm y0 v)∧(True∧Zlm y0 v)))∧(pt (Zhq (Zaa v.2 y0))∧(True∧(True∧Zlm y0 v)∧(True∧Zlm y0 v))∧(T2 (Zlm y0 v)))) else T2 (pt ((v.1.1=v.1.1∧v.1.2.1=v.1.2.1∧cI v.1.2.2 v.1.2.2∧(List.take y0 v.2)=v.2∧True)))))) (by kernel_rfl) ?_
 unfold Zlm Zpd T2 T3 T4 T7
 exact ZyT
def ZhN:ZaC Tryz.prog:=⟨49,[.s ZaV],fun x=>ZcD x.1,fun x=>.ag [.row 0 0, .row 1 0, .int .i64 x.1.1.2.2, .row 2 0],fun x=>[.row Zaj x.1.1.1 0 0 none, .row Zag x.1.1.2.1 0 0 none, .row Zae x.1.2 0 0 none],fun x hx=>Zr7 x.1 hx,Tryz.call49⟩
def ZBQ (v:ZaE):Nat→List AV→Mem→Zbj
 | 3,tm,M=>⟨Nat,fun y=>(Zcn (ZcC tm [(4, .c (.int .i64 ((y:Nat):Int)))]) 9 18,ZlQ M [(4, .box [.row 2 0, .row 3 0, .int .i64 v.1.2.2, .row 5 0]),(5, .row Zae (List.take y v.2) 0 0 none)]),fun y=>(y≤List.length v.2),fun y=>(List.length v.2 - y)⟩
 | _,_,_=>⟨Unit,fun _=>([],[]),fun _=>False,fun _=>0⟩
def Zpe (v:ZaE):List AC:=[.hs .no Zaj v.1.1, .hs .no Zag v.1.2.1, .int .i64 v.1.2.2, .hs .no Zae v.2]
def Zln (y0:Nat) (v:ZaE):Prop:=True∧(True∧List.length (List.take y0 v.2) + List.length ([(Zaa v.2 y0)])≤rowMax)∧T5 (∃ y0' : Nat,(y0'≤v.2.length)∧(v.2.length - y0') < (v.2.length - y0)∧lxs [.ag (Zpe v), .c (.bp 0 0), .c (.bp 1 0), .c (.bp 4 0)] (vI (w64 ((y0:Int) + 1)) y0'∧lxs [.c (.bp 0 0), .ag [.hs .no Zaj v.1.1, .hs .no Zag v.1.2.1, .int .i64 v.1.2.2], .ag [.row 2 0, .row 3 0, .int .i64 v.1.2.2], .ag [.row 2 0, .row 3 0, .int .i64 v.1.2.2, .raw (.slice none 0 0)]] (TN 18 (lxs [.tp []] True)))∧pt (lb (.box (Zpe v))∧lb (.box [.raw (.slice none 0 0), .raw (.slice none 0 0), .int .i64 0, .raw (.slice none 0 0)])∧lb (.row Zaj v.1.1 0 0 none)∧lb (.row Zag v.1.2.1 0 0 none)∧lb (.box [.row 2 0, .row 3 0, .int .i64 v.1.2.2, .row 5 0])∧leB (.row Zae ((List.take y0 v.2) ++ [(Zaa v.2 y0)]) 0 0 none) (.row Zae (List.take y0' v.2) 0 0 none)∧True))
theorem ZBR (v:ZaE) (hpre:ZcD v):Zam Tryz.prog 45 [.ag (cellsOf ZaV v)] (.ag [.row 0 0, .row 1 0, .int .i64 v.1.2.2, .row 2 0]) [.row Zaj v.1.1 0 0 none, .row Zag v.1.2.1 0 0 none, .row Zae v.2 0 0 none]:=by
 refine ZcY (T:=⟨[ZBP,ZBN],[],[],[],none,fun i=>match i with | 3=>[⟨some 4,3,Zae⟩] | _=>[],0,[],[]⟩) (L:=(ZBQ v)) Tryz.func45 ⟨⟨rfl,rfl⟩,rfl⟩ (fun hwf=>?_)
 refine Eq.mpr (β:=T4 (pt (ZkV v.1)∧T4 ((∃ q:Nat,(q≤v.2.length)∧lxs [.ag (Zpe v), .c (.bp 0 0), .c (.bp 1 0), .c (.bp 4 0)] (vI 0 q∧lxs [.c (.bp 0 0), .ag [.hs .no Zaj v.1.1, .hs .no Zag v.1.2.1, .int .i64 v.1.2.2], .ag [.row 2 0, .row 3 0, .int .i64 v.1.2.2], .ag [.row 2 0, .row 3 0, .int .i64 v.1.2.2, .raw (.slice none 0 0)]] (TN 18 (lxs [.tp []] True)))∧pt (lb (.box (Zpe v))∧lb (.box [.raw (.slice none 0 0), .raw (.slice none 0 0), .int .i64 0, .raw (.slice none 0 0)])∧lb (.row Zaj v.1.1 0 0 none)∧lb (.row Zag v.1.2.1 0 0 none)∧lb (.box [.row 2 0, .row 3 0, .int .i64 v.1.2.2, .row 5 0])∧leB (.row Zae ([]:List Zad) 0 0 none) (.row Zae (List.take q v.2) 0 0 none)∧True))∧∀ y0:Nat,(y0≤v.2.length)→T5 (bif ltI y0 v.2.length then pt (true=true)∧T3 (ix 17 y0 v.2.length∧True∧(True∧(True∧pt (Zhq (Zaa v.2 y0))∧Zln y0 v)∧(pt (Zhq (Zaa v.2 y0))∧(True∧Zln y0 v)∧(True∧Zln y0 v)))∧(pt (Zhq (Zaa v.2 y0))∧(True∧(True∧Zln y0 v)∧(True∧Zln y0 v))∧(T2 (Zln y0 v)))) else T2 (pt ((v.1.1=v.1.1∧v.1.2.1=v.1.2.1∧cI v.1.2.2 v.1.2.2∧(List.take y0 v.2)=v.2∧True))))))) (by kernel_rfl) ?_
 unfold Zln Zpe T2 T3 T4 T5
 exact ZyT
def Zlo:ZaC Tryz.prog:=⟨45,[.s ZaV],fun x=>ZcD x.1,fun x=>.ag [.row 0 0, .row 1 0, .int .i64 x.1.1.2.2, .row 2 0],fun x=>[.row Zaj x.1.1.1 0 0 none, .row Zag x.1.1.2.1 0 0 none, .row Zae x.1.2 0 0 none],fun x hx=>ZBR x.1 hx,Tryz.call45⟩
end Go.Proofs.YtkompmgleojmlaaGreat
