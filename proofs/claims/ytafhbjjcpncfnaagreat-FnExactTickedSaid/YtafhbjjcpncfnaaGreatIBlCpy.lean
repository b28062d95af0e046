import Derived.Test.YtafhbjjcpncfnaaGreatIBlApp
import Derived.Test.YtafhbjjcpncfnaaGreatIBmRw
set_option linter.unusedSimpArgs false
set_option linter.unusedVariables false
set_option maxRecDepth 100000
set_option maxHeartbeats 4000000
namespace Go.Proofs.YtafhbjjcpncfnaaGreat
open Go.ChangeShapes Go.WideShapes Go.ChangeAt Go.RowKit Go.Joins Go.Deep
open GoRep (rep bulk)
def Zl0 (f:Zb1):Prop:=f.2.length≤1048576∧∀ x ∈ f.2,x.2.1.length≤1048576
def Zhu (s:Zad):Prop:=s.2.2.2.2.1.length≤1048576∧Zl0 s.2.2.2.2.2.1∧s.2.2.2.2.2.2.2.2.1.1.length≤1048576
def ZkU (st:ZaI):Prop:=ZbZ st.1∧st.2.1.length≤1048576
def ZfA (v:ZaT):Prop:=ZkU v.1∧v.2.length≤1048576∧∀ x ∈ v.2,Zhu x
theorem ZkV {l:List ZaW} {k:Nat} (h:k < l.length):List.take k l ++ [Zas l k]=List.take (k + 1) l:=by
 rw [List.take_add_one,show l[k]?=some (Zas l k) from Zat (t:=Zak) h]
 rfl
theorem Zol {l:List Zad} {k:Nat} (h:k < l.length):List.take k l ++ [Zaa l k]=List.take (k + 1) l:=by
 rw [List.take_add_one,show l[k]?=some (Zaa l k) from Zat (t:=Zae) h]
 rfl
theorem Zwa (v:List ZbT) (hpre:List.length v≤rowMax):Zao Tryz.prog 104 [.ag [.hs .no Zay v]] (.ag [.row 0 0]) [.row Zay v 0 0 none]:=by
 refine bc0 [Zf7] [] [] [] L0 Tryz.func104 (fun hwf=>?_)
 refine Eq.mpr (β:=T4 (pt (v.length≤rowMax)∧T2 (pt ((v=v∧True))))) (by kernel_rfl) ?_
 exact ZeY
def Zwb:ZaE Tryz.prog:=⟨104,[.s (.list Zay)],fun x=>List.length x.1≤rowMax,fun x=>.ag [.row 0 0],fun x=>[.row Zay x.1 0 0 none],fun x hx=>Zwa x.1 hx,Tryz.call104⟩
theorem ZBA (v:List ZbT) (hpre:List.length v≤rowMax):Zao Tryz.prog 73 [.ag [.hs .no Zay v]] (.ag [.row 0 0]) [.row Zay v 0 0 none]:=by
 refine bc0 [] [] [] [] L0 Tryz.func73 (fun hwf=>?_)
 refine Eq.mpr (β:=T5 ((True∧List.length ([]:List ZbT) + v.length≤rowMax)∧T2 (pt (((([]:List ZbT) ++ v)=v∧True))))) (by kernel_rfl) ?_
 exact ZeY
def ZBB:ZaE Tryz.prog:=⟨73,[.s (.list Zay)],fun x=>List.length x.1≤rowMax,fun x=>.ag [.row 0 0],fun x=>[.row Zay x.1 0 0 none],fun x hx=>ZBA x.1 hx,Tryz.call73⟩
def ZrS (f:Zb1):Nat→List AV→Mem→Zbd
 | 3,tm,M=>⟨Nat,fun y=>(Zcf (Zct tm [(5, .any),(12, .c (.int .i64 ((y:Nat):Int)))]) 13 14,Zky M [(2, .box [.bool f.1, .row 3 0]),(3, .row Zak (List.take y f.2) 0 0 none)]),fun y=>(y≤List.length f.2),fun y=>(List.length f.2 - y)⟩
 | _,_,_=>⟨Unit,fun _=>([],[]),fun _=>False,fun _=>0⟩
theorem ZrT (f:Zb1) (hpre:Zl0 f):Zao Tryz.prog 105 [.ag [.bool f.1, .hs .no Zak f.2]] (.ag [.bool f.1, .row 0 0]) [.row Zak f.2 0 0 none]:=by
 refine ZcS (T:=⟨[Zf9],[],[],[],none,fun i=>match i with | 3=>[⟨some 2,1,Zak⟩] | _=>[],0,[],[]⟩) (L:=(ZrS f)) Tryz.func105 ⟨⟨rfl,rfl⟩,rfl⟩ (fun hwf=>?_)
 refine Eq.mpr (β:=T11 ((∃ q:Nat,(q≤f.2.length)∧lxs [.ag [.bool f.1, .hs .no Zak f.2], .c (.bp 0 0), .c (.bp 1 0), .c (.bp 2 0), .tp []] (True∧lxs [.c (.bp 0 0), .c (.bool f.1), .ag [.bool f.1, .raw (.slice none 0 0)], .c (.bp 0 1),hn Zak f.2,ci f.2.length] (vI 0 q∧TN 14 (lxs [.tp []] True)))∧pt (lb (.box [.bool f.1, .hs .no Zak f.2])∧lb (.box [.bool false, .raw (.slice none 0 0)])∧lb (.box [.bool f.1, .row 3 0])∧leB (.row Zak ([]:List ZaW) 0 0 none) (.row Zak (List.take q f.2) 0 0 none)∧True))∧∀ y0:Nat,(y0≤f.2.length)→True∧bif ltI y0 f.2.length then ix 3 y0 f.2.length∧T5 (pt (List.length (Zas f.2 y0).2.1≤rowMax)∧T6 ((True∧List.length (List.take y0 f.2) + List.length ([(Zas f.2 y0)])≤rowMax)∧T4 (∃ y0' : Nat,(y0'≤f.2.length)∧(f.2.length - y0') < (f.2.length - y0)∧lxs [.ag [.bool f.1, .hs .no Zak f.2], .c (.bp 0 0), .c (.bp 1 0), .c (.bp 2 0), .tp []] (True∧lxs [.c (.bp 0 0), .c (.bool f.1), .ag [.bool f.1, .raw (.slice none 0 0)], .c (.bp 0 1),hn Zak f.2,ci f.2.length] (vI (w64 ((y0:Int) + 1)) y0'∧TN 14 (lxs [.tp []] True)))∧pt (lb (.box [.bool f.1, .hs .no Zak f.2])∧lb (.box [.bool false, .raw (.slice none 0 0)])∧lb (.box [.bool f.1, .row 3 0])∧leB (.row Zak ((List.take y0 f.2) ++ [(Zas f.2 y0)]) 0 0 none) (.row Zak (List.take y0' f.2) 0 0 none)∧True)))) else T2 (pt ((cB f.1 f.1∧(List.take y0 f.2)=f.2∧True))))) (by kernel_rfl) ?_
 unfold T11 T2 T4 T5 T6
 obtain ⟨hp1,hp2⟩:Zl0 f:=hpre
 exact ZmQ
def ZrU:ZaE Tryz.prog:=⟨105,[.s Zdd],fun x=>Zl0 x.1,fun x=>.ag [.bool x.1.1, .row 0 0],fun x=>[.row Zak x.1.2 0 0 none],fun x hx=>ZrT x.1 hx,Tryz.call105⟩
def ZFn (f:Zb1):Nat→List AV→Mem→Zbd
 | 3,tm,M=>⟨Nat,fun y=>(Zcf (Zct tm [(4, .c (.int .i64 ((y:Nat):Int))),(5, .any)]) 9 23,Zky M [(2, .box [.bool f.1, .row 3 0]),(3, .row Zak (List.take y f.2) 0 0 none)]),fun y=>(y≤List.length f.2),fun y=>(List.length f.2 - y)⟩
 | _,_,_=>⟨Unit,fun _=>([],[]),fun _=>False,fun _=>0⟩
theorem ZFo (f:Zb1) (hpre:Zl0 f):Zao Tryz.prog 74 [.ag [.bool f.1, .hs .no Zak f.2]] (.ag [.bool f.1, .row 0 0]) [.row Zak f.2 0 0 none]:=by
 refine ZcS (T:=⟨[],[],[],[],none,fun i=>match i with | 3=>[⟨some 2,1,Zak⟩] | _=>[],0,[],[]⟩) (L:=(ZFn f)) Tryz.func74 ⟨⟨rfl,rfl⟩,rfl⟩ (fun hwf=>?_)
 refine Eq.mpr (β:=T8 ((∃ q:Nat,(q≤f.2.length)∧lxs [.ag [.bool f.1, .hs .no Zak f.2], .c (.bp 0 0), .c (.bp 1 0), .c (.bp 2 0)] (vI 0 q∧True∧lxs [.c (.bp 0 0), .c (.bool f.1), .ag [.bool f.1, .raw (.slice none 0 0)]] (TN 23 (lxs [.tp []] True)))∧pt (lb (.box [.bool f.1, .hs .no Zak f.2])∧lb (.box [.bool false, .raw (.slice none 0 0)])∧lb (.box [.bool f.1, .row 3 0])∧leB (.row Zak ([]:List ZaW) 0 0 none) (.row Zak (List.take q f.2) 0 0 none)∧True))∧∀ y0:Nat,(y0≤f.2.length)→T5 (bif ltI y0 f.2.length then T3 (ix 3 y0 f.2.length∧T6 ((True∧List.length ([]:List ByteArray) + List.length (Zas f.2 y0).2.1≤rowMax)∧T6 ((True∧List.length (List.take y0 f.2) + List.length ([((Zas f.2 y0).1,(([]:List ByteArray) ++ (Zas f.2 y0).2.1),(Zas f.2 y0).2.2)])≤rowMax)∧T5 (∃ y0' : Nat,(y0'≤f.2.length)∧(f.2.length - y0') < (f.2.length - y0)∧lxs [.ag [.bool f.1, .hs .no Zak f.2], .c (.bp 0 0), .c (.bp 1 0), .c (.bp 2 0)] (vI (w64 ((y0:Int) + 1)) y0'∧True∧lxs [.c (.bp 0 0), .c (.bool f.1), .ag [.bool f.1, .raw (.slice none 0 0)]] (TN 23 (lxs [.tp []] True)))∧pt (lb (.box [.bool f.1, .hs .no Zak f.2])∧lb (.box [.bool false, .raw (.slice none 0 0)])∧lb (.box [.bool f.1, .row 3 0])∧leB (.row Zak ((List.take y0 f.2) ++ [((Zas f.2 y0).1,(([]:List ByteArray) ++ (Zas f.2 y0).2.1),(Zas f.2 y0).2.2)]) 0 0 none) (.row Zak (List.take y0' f.2) 0 0 none)∧True))))) else T2 (pt ((cB f.1 f.1∧(List.take y0 f.2)=f.2∧True)))))) (by kernel_rfl) ?_
 unfold T2 T3 T5 T6 T8
 obtain ⟨hp1,hp2⟩:Zl0 f:=hpre
 exact ZmQ
def ZFp:ZaE Tryz.prog:=⟨74,[.s Zdd],fun x=>Zl0 x.1,fun x=>.ag [.bool x.1.1, .row 0 0],fun x=>[.row Zak x.1.2 0 0 none],fun x hx=>ZFo x.1 hx,Tryz.call74⟩
theorem Zo6 (s:Zad) (hpre:Zhu s):Zao Tryz.prog 43 [.ag (cellsOf Zae s)] (.ag [.bool s.1, .int .i64 s.2.1, .int .i64 s.2.2.1, .int .i64 s.2.2.2.1, .row 0 0, .bool s.2.2.2.2.2.1.1, .row 1 0, .str s.2.2.2.2.2.2.1, .str s.2.2.2.2.2.2.2.1, .row 2 0, .bool s.2.2.2.2.2.2.2.2.1.2.1, .bool s.2.2.2.2.2.2.2.2.1.2.2, .str s.2.2.2.2.2.2.2.2.2.1.1, .bool s.2.2.2.2.2.2.2.2.2.1.2, .str s.2.2.2.2.2.2.2.2.2.2.1.1, .str s.2.2.2.2.2.2.2.2.2.2.1.2, .int .i64 s.2.2.2.2.2.2.2.2.2.2.2]) [.row Zay s.2.2.2.2.1 0 0 none, .row Zak s.2.2.2.2.2.1.2 0 0 none, .row Zal s.2.2.2.2.2.2.2.2.1.1 0 0 none]:=by
 refine bc0 [Zwb,ZrU,Zt2] [] [] [] L0 Tryz.func43 (fun hwf=>?_)
 refine Eq.mpr (β:=T2 (pt (true=true)∧T6 (pt (s.2.2.2.2.1.length≤rowMax)∧True∧pt (Zl0 s.2.2.2.2.2.1)∧pt (s.2.2.2.2.2.2.2.2.1.1.length≤rowMax)∧T7 (pt ((cB s.1 s.1∧cI s.2.1 s.2.1∧cI s.2.2.1 s.2.2.1∧cI s.2.2.2.1 s.2.2.2.1∧s.2.2.2.2.1=s.2.2.2.2.1∧cB s.2.2.2.2.2.1.1 s.2.2.2.2.2.1.1∧s.2.2.2.2.2.1.2=s.2.2.2.2.2.1.2∧cS s.2.2.2.2.2.2.1 s.2.2.2.2.2.2.1∧cS s.2.2.2.2.2.2.2.1 s.2.2.2.2.2.2.2.1∧s.2.2.2.2.2.2.2.2.1.1=s.2.2.2.2.2.2.2.2.1.1∧cB s.2.2.2.2.2.2.2.2.1.2.1 s.2.2.2.2.2.2.2.2.1.2.1∧cB s.2.2.2.2.2.2.2.2.1.2.2 s.2.2.2.2.2.2.2.2.1.2.2∧cS s.2.2.2.2.2.2.2.2.2.1.1 s.2.2.2.2.2.2.2.2.2.1.1∧cB s.2.2.2.2.2.2.2.2.2.1.2 s.2.2.2.2.2.2.2.2.2.1.2∧cS s.2.2.2.2.2.2.2.2.2.2.1.1 s.2.2.2.2.2.2.2.2.2.2.1.1∧cS s.2.2.2.2.2.2.2.2.2.2.1.2 s.2.2.2.2.2.2.2.2.2.2.1.2∧cI s.2.2.2.2.2.2.2.2.2.2.2 s.2.2.2.2.2.2.2.2.2.2.2∧True)))))) (by kernel_rfl) ?_
 unfold T2 T6 T7
 exact ZyZ
def Zo7:ZaE Tryz.prog:=⟨43,[.s Zae],fun x=>Zhu x.1,fun x=>.ag [.bool x.1.1, .int .i64 x.1.2.1, .int .i64 x.1.2.2.1, .int .i64 x.1.2.2.2.1, .row 0 0, .bool x.1.2.2.2.2.2.1.1, .row 1 0, .str x.1.2.2.2.2.2.2.1, .str x.1.2.2.2.2.2.2.2.1, .row 2 0, .bool x.1.2.2.2.2.2.2.2.2.1.2.1, .bool x.1.2.2.2.2.2.2.2.2.1.2.2, .str x.1.2.2.2.2.2.2.2.2.2.1.1, .bool x.1.2.2.2.2.2.2.2.2.2.1.2, .str x.1.2.2.2.2.2.2.2.2.2.2.1.1, .str x.1.2.2.2.2.2.2.2.2.2.2.1.2, .int .i64 x.1.2.2.2.2.2.2.2.2.2.2.2],fun x=>[.row Zay x.1.2.2.2.2.1 0 0 none, .row Zak x.1.2.2.2.2.2.1.2 0 0 none, .row Zal x.1.2.2.2.2.2.2.2.2.1.1 0 0 none],fun x hx=>Zo6 x.1 hx,Tryz.call43⟩
theorem ZBC (s:Zad) (hpre:Zhu s):Zao Tryz.prog 34 [.ag (cellsOf Zae s)] (.ag [.bool s.1, .int .i64 s.2.1, .int .i64 s.2.2.1, .int .i64 s.2.2.2.1, .row 0 0, .bool s.2.2.2.2.2.1.1, .row 1 0, .str s.2.2.2.2.2.2.1, .str s.2.2.2.2.2.2.2.1, .row 2 0, .bool s.2.2.2.2.2.2.2.2.1.2.1, .bool s.2.2.2.2.2.2.2.2.1.2.2, .str s.2.2.2.2.2.2.2.2.2.1.1, .bool s.2.2.2.2.2.2.2.2.2.1.2, .str s.2.2.2.2.2.2.2.2.2.2.1.1, .str s.2.2.2.2.2.2.2.2.2.2.1.2, .int .i64 s.2.2.2.2.2.2.2.2.2.2.2]) [.row Zay s.2.2.2.2.1 0 0 none, .row Zak s.2.2.2.2.2.1.2 0 0 none, .row Zal s.2.2.2.2.2.2.2.2.1.1 0 0 none]:=by
 refine bc0 [ZBB,ZFp,ZBK] [] [] [] L0 Tryz.func34 (fun hwf=>?_)
 refine Eq.mpr (β:=T4 (pt (s.2.2.2.2.1.length≤rowMax)∧T4 (pt (Zl0 s.2.2.2.2.2.1)∧T4 (pt (s.2.2.2.2.2.2.2.2.1.1.length≤rowMax)∧T4 (pt ((cB s.1 s.1∧cI s.2.1 s.2.1∧cI s.2.2.1 s.2.2.1∧cI s.2.2.2.1 s.2.2.2.1∧s.2.2.2.2.1=s.2.2.2.2.1∧cB s.2.2.2.2.2.1.1 s.2.2.2.2.2.1.1∧s.2.2.2.2.2.1.2=s.2.2.2.2.2.1.2∧cS s.2.2.2.2.2.2.1 s.2.2.2.2.2.2.1∧cS s.2.2.2.2.2.2.2.1 s.2.2.2.2.2.2.2.1∧s.2.2.2.2.2.2.2.2.1.1=s.2.2.2.2.2.2.2.2.1.1∧cB s.2.2.2.2.2.2.2.2.1.2.1 s.2.2.2.2.2.2.2.2.1.2.1∧cB s.2.2.2.2.2.2.2.2.1.2.2 s.2.2.2.2.2.2.2.2.1.2.2∧cS s.2.2.2.2.2.2.2.2.2.1.1 s.2.2.2.2.2.2.2.2.2.1.1∧cB s.2.2.2.2.2.2.2.2.2.1.2 s.2.2.2.2.2.2.2.2.2.1.2∧cS s.2.2.2.2.2.2.2.2.2.2.1.1 s.2.2.2.2.2.2.2.2.2.2.1.1∧cS s.2.2.2.2.2.2.2.2.2.2.1.2 s.2.2.2.2.2.2.2.2.2.2.1.2∧cI s.2.2.2.2.2.2.2.2.2.2.2 s.2.2.2.2.2.2.2.2.2.2.2∧True))))))) (by kernel_rfl) ?_
 unfold T4
 exact ZyZ
def ZBD:ZaE Tryz.prog:=⟨34,[.s Zae],fun x=>Zhu x.1,fun x=>.ag [.bool x.1.1, .int .i64 x.1.2.1, .int .i64 x.1.2.2.1, .int .i64 x.1.2.2.2.1, .row 0 0, .bool x.1.2.2.2.2.2.1.1, .row 1 0, .str x.1.2.2.2.2.2.2.1, .str x.1.2.2.2.2.2.2.2.1, .row 2 0, .bool x.1.2.2.2.2.2.2.2.2.1.2.1, .bool x.1.2.2.2.2.2.2.2.2.1.2.2, .str x.1.2.2.2.2.2.2.2.2.2.1.1, .bool x.1.2.2.2.2.2.2.2.2.2.1.2, .str x.1.2.2.2.2.2.2.2.2.2.2.1.1, .str x.1.2.2.2.2.2.2.2.2.2.2.1.2, .int .i64 x.1.2.2.2.2.2.2.2.2.2.2.2],fun x=>[.row Zay x.1.2.2.2.2.1 0 0 none, .row Zak x.1.2.2.2.2.2.1.2 0 0 none, .row Zal x.1.2.2.2.2.2.2.2.2.1.1 0 0 none],fun x hx=>ZBC x.1 hx,Tryz.call34⟩
theorem ZtZ (st:ZaI) (hpre:ZkU st):Zao Tryz.prog 42 [.ag (cellsOf ZbJ st)] (.ag [.row 0 0, .row 1 0, .int .i64 st.2.2]) [.row Zaj st.1 0 0 none, .row Zag st.2.1 0 0 none]:=by
 refine bc0 [ZlU,Ze4] [] [] [] L0 Tryz.func42 (fun hwf=>?_)
 refine Eq.mpr (β:=T2 (pt (true=true)∧T6 (pt (ZbZ st.1)∧pt (st.2.1.length≤rowMax)∧T2 (pt ((st.1=st.1∧st.2.1=st.2.1∧cI st.2.2 st.2.2∧True)))))) (by kernel_rfl) ?_
 obtain ⟨hp1,hp2⟩:ZkU st:=hpre
 exact ZmQ
def Zt0:ZaE Tryz.prog:=⟨42,[.s ZbJ],fun x=>ZkU x.1,fun x=>.ag [.row 0 0, .row 1 0, .int .i64 x.1.2.2],fun x=>[.row Zaj x.1.1 0 0 none, .row Zag x.1.2.1 0 0 none],fun x hx=>ZtZ x.1 hx,Tryz.call42⟩
def ZgD (st:ZaI):Prop:=T2 (pt ((st.1=st.1∧(([]:List ZaA) ++ st.2.1)=st.2.1∧cI st.2.2 st.2.2∧True)))
def ZgE (st:ZaI):Prop:=True∧List.length ([]:List ZaA) + st.2.1.length≤rowMax
def Zll (st:ZaI):Prop:=(ZgE st∧True∧ZgD st)∧(True∧ZgE st∧ZgD st)
theorem ZBE (st:ZaI) (hpre:ZkU st):Zao Tryz.prog 33 [.ag (cellsOf ZbJ st)] (.ag [.row 0 0, .row 1 0, .int .i64 st.2.2]) [.row Zaj st.1 0 0 none, .row Zag st.2.1 0 0 none]:=by
 refine bc0 [Zjr] [] [] [] L0 Tryz.func33 (fun hwf=>?_)
 refine Eq.mpr (β:=T2 (pt (true=true)∧T4 ((pt (ZbZ st.1)∧(True∧(ZgE st∧T2 (ZgD st))∧(True∧Zll st))∧(True∧(True∧Zll st)∧(T2 (ZgE st∧ZgD st))))∧(True∧(pt (ZbZ st.1)∧(ZgE st∧T2 (ZgD st))∧(True∧Zll st))∧(True∧(pt (ZbZ st.1)∧Zll st)∧(True∧pt (ZbZ st.1)∧ZgE st∧ZgD st)))∧(True∧(pt (ZbZ st.1)∧(True∧Zll st)∧(T2 (ZgE st∧ZgD st)))∧(True∧(pt (ZbZ st.1)∧Zll st)∧(True∧pt (ZbZ st.1)∧ZgE st∧ZgD st))∧(True∧(pt (ZbZ st.1)∧True∧ZgE st∧ZgD st)∧(True∧pt (ZbZ st.1)∧ZgE st∧ZgD st)))))) (by kernel_rfl) ?_
 unfold Zll ZgE ZgD T2 T4
 obtain ⟨hp1,hp2⟩:ZkU st:=hpre
 exact ZmQ
def ZBF:ZaE Tryz.prog:=⟨33,[.s ZbJ],fun x=>ZkU x.1,fun x=>.ag [.row 0 0, .row 1 0, .int .i64 x.1.2.2],fun x=>[.row Zaj x.1.1 0 0 none, .row Zag x.1.2.1 0 0 none],fun x hx=>ZBE x.1 hx,Tryz.call33⟩
def ZrV (v:ZaT):Nat→List AV→Mem→Zbd
 | 3,tm,M=>⟨Nat,fun y=>(Zcf (Zct tm [(5, .any),(13, .c (.int .i64 ((y:Nat):Int)))]) 14 11,Zky M [(4, .box [.row 2 0, .row 3 0, .int .i64 v.1.2.2, .row 5 0]),(5, .row Zae (List.take y v.2) 0 0 none)]),fun y=>(y≤List.length v.2),fun y=>(List.length v.2 - y)⟩
 | _,_,_=>⟨Unit,fun _=>([],[]),fun _=>False,fun _=>0⟩
def Zo8 (v:ZaT):List AC:=[.hs .no Zaj v.1.1, .hs .no Zag v.1.2.1, .int .i64 v.1.2.2, .hs .no Zae v.2]
def Zlm (y0:Nat) (v:ZaT):Prop:=True∧(True∧List.length (List.take y0 v.2) + List.length ([(Zaa v.2 y0)])≤rowMax)∧T4 (∃ y0' : Nat,(y0'≤v.2.length)∧(v.2.length - y0') < (v.2.length - y0)∧lxs [.ag (Zo8 v), .c (.bp 0 0), .c (.bp 1 0), .c (.bp 4 0), .tp []] (True∧lxs [.c (.bp 0 0), .ag [.hs .no Zaj v.1.1, .hs .no Zag v.1.2.1, .int .i64 v.1.2.2], .ag [.row 2 0, .row 3 0, .int .i64 v.1.2.2], .ag [.row 2 0, .row 3 0, .int .i64 v.1.2.2, .raw (.slice none 0 0)], .c (.bp 0 3),hn Zae v.2,ci v.2.length] (vI (w64 ((y0:Int) + 1)) y0'∧TN 11 (lxs [.tp []] True)))∧pt (lb (.box (Zo8 v))∧lb (.box [.raw (.slice none 0 0), .raw (.slice none 0 0), .int .i64 0, .raw (.slice none 0 0)])∧lb (.row Zaj v.1.1 0 0 none)∧lb (.row Zag v.1.2.1 0 0 none)∧lb (.box [.row 2 0, .row 3 0, .int .i64 v.1.2.2, .row 5 0])∧leB (.row Zae ((List.take y0 v.2) ++ [(Zaa v.2 y0)]) 0 0 none) (.row Zae (List.take y0' v.2) 0 0 none)∧True))
theorem ZrW (v:ZaT) (hpre:ZfA v):Zao Tryz.prog 21 [.ag (cellsOf Zbm v)] (.ag [.row 0 0, .row 1 0, .int .i64 v.1.2.2, .row 2 0]) [.row Zaj v.1.1 0 0 none, .row Zag v.1.2.1 0 0 none, .row Zae v.2 0 0 none]:=by
 refine ZcS (T:=⟨[Zt0,Zo7],[],[],[],none,fun i=>match i with | 3=>[⟨some 4,3,Zae⟩] | _=>[],0,[],[]⟩) (L:=(ZrV v)) Tryz.func21 ⟨⟨rfl,rfl⟩,rfl⟩ (fun hwf=>?_)
 refine Eq.mpr (β:=T4 (pt (ZkU v.1)∧T7 ((∃ q:Nat,(q≤v.2.length)∧lxs [.ag (Zo8 v), .c (.bp 0 0), .c (.bp 1 0), .c (.bp 4 0), .tp []] (True∧lxs [.c (.bp 0 0), .ag [.hs .no Zaj v.1.1, .hs .no Zag v.1.2.1, .int .i64 v.1.2.2], .ag [.row 2 0, .row 3 0, .int .i64 v.1.2.2], .ag [.row 2 0, .row 3 0, .int .i64 v.1.2.2, .raw (.slice none 0 0)], .c (.bp 0 3),hn Zae v.2,ci v.2.length] (vI 0 q∧TN 11 (lxs [.tp []] True)))∧pt (lb (.box (Zo8 v))∧lb (.box [.raw (.slice none 0 0), .raw (.slice none 0 0), .int .i64 0, .raw (.slice none 0 0)])∧lb (.row Zaj v.1.1 0 0 none)∧lb (.row Zag v.1.2.1 0 0 none)∧lb (.box [.row 2 0, .row 3 0, .int .i64 v.1.2.2, .row 5 0])∧leB (.row Zae ([]:List Zad) 0 0 none) (.row Zae (List.take q v.2) 0 0 none)∧True))∧∀ y0:Nat,(y0≤v.2.length)→True∧bif ltI y0 v.2.length then ix 17 y0 v.2.length∧T3 (pt (true=true)∧True∧(True∧(True∧pt (Zhu (Zaa v.2 y0))∧Zlm y0 v)∧(pt (Zhu (Zaa v.2 y0))∧(True∧Zlm y0 v)∧(True∧Zlm y0 v)))∧(pt (Zhu (Zaa v.2 y0))∧(True∧(True∧Zlm y0 v)∧(True∧Zlm y0 v))∧(T2 (Zlm y0 v)))) else T2 (pt ((v.1.1=v.1.1∧v.1.2.1=v.1.2.1∧cI v.1.2.2 v.1.2.2∧(List.take y0 v.2)=v.2∧True)))))) (by kernel_rfl) ?_
 unfold Zlm Zo8 T2 T3 T4 T7
 exact ZyU
def ZrX:ZaE Tryz.prog:=⟨21,[.s Zbm],fun x=>ZfA x.1,fun x=>.ag [.row 0 0, .row 1 0, .int .i64 x.1.1.2.2, .row 2 0],fun x=>[.row Zaj x.1.1.1 0 0 none, .row Zag x.1.1.2.1 0 0 none, .row Zae x.1.2 0 0 none],fun x hx=>ZrW x.1 hx,Tryz.call21⟩
def ZBG (v:ZaT):Nat→List AV→Mem→Zbd
 | 3,tm,M=>⟨Nat,fun y=>(Zcf (Zct tm [(4, .c (.int .i64 ((y:Nat):Int)))]) 9 18,Zky M [(4, .box [.row 2 0, .row 3 0, .int .i64 v.1.2.2, .row 5 0]),(5, .row Zae (List.take y v.2) 0 0 none)]),fun y=>(y≤List.length v.2),fun y=>(List.length v.2 - y)⟩
 | _,_,_=>⟨Unit,fun _=>([],[]),fun _=>False,fun _=>0⟩
def Zo9 (v:ZaT):List AC:=[.hs .no Zaj v.1.1, .hs .no Zag v.1.2.1, .int .i64 v.1.2.2, .hs .no Zae v.2]
def Zln (y0:Nat) (v:ZaT):Prop:=True∧(True∧List.length (List.take y0 v.2) + List.length ([(Zaa v.2 y0)])≤rowMax)∧T5 (∃ y0' : Nat,(y0'≤v.2.length)∧(v.2.length - y0') < (v.2.length - y0)∧lxs [.ag (Zo9 v), .c (.bp 0 0), .c (.bp 1 0), .c (.bp 4 0)] (vI (w64 ((y0:Int) + 1)) y0'∧lxs [.c (.bp 0 0), .ag [.hs .no Zaj v.1.1, .hs .no Zag v.1.2.1, .int .i64 v.1.2.2], .ag [.row 2 0, .row 3 0, .int .i64 v.1.2.2], .ag [.row 2 0, .row 3 0, .int .i64 v.1.2.2, .raw (.slice none 0 0)]] (TN 18 (lxs [.tp []] True)))∧pt (lb (.box (Zo9 v))∧lb (.box [.raw (.slice none 0 0), .raw (.slice none 0 0), .int .i64 0, .raw (.slice none 0 0)])∧lb (.row Zaj v.1.1 0 0 none)∧lb (.row Zag v.1.2.1 0 0 none)∧lb (.box [.row 2 0, .row 3 0, .int .i64 v.1.2.2, .row 5 0])∧leB (.row Zae ((List.take y0 v.2) ++ [(Zaa v.2 y0)]) 0 0 none) (.row Zae (List.take y0' v.2) 0 0 none)∧True))
theorem ZBH (v:ZaT) (hpre:ZfA v):Zao Tryz.prog 16 [.ag (cellsOf Zbm v)] (.ag [.row 0 0, .row 1 0, .int .i64 v.1.2.2, .row 2 0]) [.row Zaj v.1.1 0 0 none, .row Zag v.1.2.1 0 0 none, .row Zae v.2 0 0 none]:=by
 refine ZcS (T:=⟨[ZBF,ZBD],[],[],[],none,fun i=>match i with | 3=>[⟨some 4,3,Zae⟩] | _=>[],0,[],[]⟩) (L:=(ZBG v)) Tryz.func16 ⟨⟨rfl,rfl⟩,rfl⟩ (fun hwf=>?_)
 refine Eq.mpr (β:=T4 (pt (ZkU v.1)∧T4 ((∃ q:Nat,(q≤v.2.length)∧lxs [.ag (Zo9 v), .c (.bp 0 0), .c (.bp 1 0), .c (.bp 4 0)] (vI 0 q∧lxs [.c (.bp 0 0), .ag [.hs .no Zaj v.1.1, .hs .no Zag v.1.2.1, .int .i64 v.1.2.2], .ag [.row 2 0, .row 3 0, .int .i64 v.1.2.2], .ag [.row 2 0, .row 3 0, .int .i64 v.1.2.2, .raw (.slice none 0 0)]] (TN 18 (lxs [.tp []] True)))∧pt (lb (.box (Zo9 v))∧lb (.box [.raw (.slice none 0 0), .raw (.slice none 0 0), .int .i64 0, .raw (.slice none 0 0)])∧lb (.row Zaj v.1.1 0 0 none)∧lb (.row Zag v.1.2.1 0 0 none)∧lb (.box [.row 2 0, .row 3 0, .int .i64 v.1.2.2, .row 5 0])∧leB (.row Zae ([]:List Zad) 0 0 none) (.row Zae (List.take q v.2) 0 0 none)∧True))∧∀ y0:Nat,(y0≤v.2.length)→T5 (bif ltI y0 v.2.length then pt (true=true)∧T3 (ix 17 y0 v.2.length∧True∧(True∧(True∧pt (Zhu (Zaa v.2 y0))∧Zln y0 v)∧(pt (Zhu (Zaa v.2 y0))∧(True∧Zln y0 v)∧(True∧Zln y0 v)))∧(pt (Zhu (Zaa v.2 y0))∧(True∧(True∧Zln y0 v)∧(True∧Zln y0 v))∧(T2 (Zln y0 v)))) else T2 (pt ((v.1.1=v.1.1∧v.1.2.1=v.1.2.1∧cI v.1.2.2 v.1.2.2∧(List.take y0 v.2)=v.2∧True))))))) (by kernel_rfl) ?_
 unfold Zln Zo9 T2 T3 T4 T5
 exact ZyU
def ZBI:ZaE Tryz.prog:=⟨16,[.s Zbm],fun x=>ZfA x.1,fun x=>.ag [.row 0 0, .row 1 0, .int .i64 x.1.1.2.2, .row 2 0],fun x=>[.row Zaj x.1.1.1 0 0 none, .row Zag x.1.1.2.1 0 0 none, .row Zae x.1.2 0 0 none],fun x hx=>ZBH x.1 hx,Tryz.call16⟩
end Go.Proofs.YtafhbjjcpncfnaaGreat
