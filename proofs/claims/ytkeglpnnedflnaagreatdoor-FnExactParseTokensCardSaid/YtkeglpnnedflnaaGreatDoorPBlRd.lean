import Derived.Test.YtkeglpnnedflnaaGreatDoorPBlCmd3
set_option linter.unusedSimpArgs false
set_option linter.unusedVariables false
set_option maxRecDepth 100000
set_option maxHeartbeats 4000000
namespace Go.Proofs.YtkeglpnnedflnaaGreatDoor
open Go.ChangeShapes Go.WideShapes Go.ChangeAt Go.RowKit Go.Joins Go.Deep
open GoRep (rep bulk)
def Zx2 (ws:List ByteArray) (b:Int):Nat→List AV→Mem→Zbe
 | 3,tm,M=>⟨Nat,fun y=>(Zcp (Zcp (ZcG tm [(5, .c (.row 0 0)),(11, .c (.int .i64 ((y:Nat):Int)))]) 6 3) 12 14,ZgY M [(0, .row Zah (ZaO ws b y) 0 0 none)]),fun y=>(y≤List.length ws),fun y=>(List.length ws - y)⟩
 | _,_,_=>⟨Unit,fun _=>([],[]),fun _=>False,fun _=>0⟩
theorem Zx3 (ws:List ByteArray) (b:Int) (hpre:List.length ws≤1048576):Zaq Tryz.prog 65 [.c (.hs .no Zah ws), .c (.int .i64 b)] (.c (.row 0 0)) [.row Zah (ZaO ws b (List.length ws)) 0 0 none]:=by
 refine bc0 [] [] [] [] (Zx2 ws b) Tryz.func65 (fun hwf=>?_)
 refine Eq.mpr (β:=T6 ((∃ q:Nat,(q≤ws.length)∧lxs [hn Zah ws,ci b, .tp [], .tp [], .c (.raw (.slice none 0 0)), .c (.row 0 0)] (TN 3 (lxs [hn Zah ws,ci ws.length] (vI 0 q∧TN 14 (lxs [.tp []] True))))∧pt (leB (.row Zah ([]:List ByteArray) 0 0 none) (.row Zah (ZaO ws b q) 0 0 none)∧True))∧∀ y0:Nat,(y0≤ws.length)→True∧bif ltI y0 ws.length then True∧ix 1 y0 ws.length∧T5 ((0:Int)≤(y0:Int)∧T2 (bif eqI (w64 (((BitVec.ofInt (IntKind.bits .i64) (ZB7 .i64 b (y0:Int)) &&& BitVec.ofInt (IntKind.bits .i64) 1).toNat:Nat))) 1 then T3 ((True∧List.length (ZaO ws b y0) + List.length ([(Zaa ws y0)])≤rowMax)∧T3 (∃ y0' : Nat,(y0'≤ws.length)∧(ws.length - y0') < (ws.length - y0)∧lxs [hn Zah ws,ci b, .tp [], .tp [], .c (.raw (.slice none 0 0)), .c (.row 0 0)] (TN 3 (lxs [hn Zah ws,ci ws.length] (vI (w64 ((y0:Int) + 1)) y0'∧TN 14 (lxs [.tp []] True))))∧pt (leB (.row Zah ((ZaO ws b y0) ++ [(Zaa ws y0)]) 0 0 none) (.row Zah (ZaO ws b y0') 0 0 none)∧True))) else T2 (∃ y0' : Nat,(y0'≤ws.length)∧(ws.length - y0') < (ws.length - y0)∧lxs [hn Zah ws,ci b, .tp [], .tp [], .c (.raw (.slice none 0 0)), .c (.row 0 0)] (TN 3 (lxs [hn Zah ws,ci ws.length] (vI (w64 ((y0:Int) + 1)) y0'∧TN 14 (lxs [.tp []] True))))∧pt (leB (.row Zah (ZaO ws b y0) 0 0 none) (.row Zah (ZaO ws b y0') 0 0 none)∧True)))) else T2 (pt ((ZaO ws b y0)=ZaO ws b ws.length)))) (by kernel_rfl) ?_
 unfold T2 T3 T5 T6
 simp only [Zbf,Zaz,Zbi,ZaC,Bool.not_true,Bool.not_false,Zdj,eq_self]
 refine ⟨⟨0,Nat.zero_le _,rfl,rfl⟩,fun y hy=>?_⟩
 have hl:=Zf6 ws b y
 repeat' (with_reducible first | exact trivial | apply And.intro | intro _)
 all_goals first
  | (with_reducible trivial)
  | omega
  | (with_reducible assumption)
  | ((try simp only [List.length_append,List.length_cons,List.length_nil,ZeA]); (first | unfold rowMax | unfold maxLen); omega)
  | exact ⟨y + 1,by omega,by omega,Zbm (by unfold maxLen; omega),(ZH0 (ZaE.2 (by assumption))).symm⟩
  | exact ⟨y + 1,by omega,by omega,Zbm (by unfold maxLen; omega),(ZH1 (Zba.2 (by assumption))).symm⟩
  | (obtain rfl:y=List.length ws:=by omega
     rfl)
def Znx:ZaD Tryz.prog:=⟨65,[.v (.list Zah), .v ZaF],fun x=>List.length x.1≤1048576,fun x=>.c (.row 0 0),fun x=>[.row Zah (ZaO x.1 x.2.1 (List.length x.1)) 0 0 none],fun x hx=>Zx3 x.1 x.2.1 hx,Tryz.call65⟩
theorem ZFK (s:ByteArray):Zaq Tryz.prog 60 [.c (.str s)] (.ag [.int .i64 (Zan s).1, .str (Zan s).2]) []:=by
 refine bc0 [] [] [] [] L0 Tryz.func60 (fun hwf=>?_)
 refine Eq.mpr (β:=T4 (pt ((cI 1 (Zan s).1∧cS s (Zan s).2∧True)))) (by kernel_rfl) ?_
 simp only [SIA,eq_self]
 repeat' (first | apply And.intro | intro _)
 all_goals (first | trivial | (rw [Bool.eq_iff_iff]; simp_all [Prod.ext_iff,EQA,Zan]; done) | (simp_all [Prod.ext_iff,EQA,Zan]; done) | omega)
def Zr5:ZaD Tryz.prog:=⟨60,[.v Zah],fun x=>True,fun x=>.ag [.int .i64 (Zan x.1).1, .str (Zan x.1).2],fun _=>[],fun x hx=>ZFK x.1,Tryz.call60⟩
theorem ZpI  : Zaq Tryz.prog 127 [] (.c (.row 0 0)) [.row Zah scW 0 0 none]:=by
 refine bc0 [] [] [] [] L0 Tryz.func127 (fun hwf=>?_)
 exact Zwh
def ZiJ:ZaD Tryz.prog:=⟨127,[],fun x=>True,fun x=>.c (.row 0 0),fun x=>[.row Zah scW 0 0 none],fun x hx=>ZpI ,Tryz.call127⟩
theorem ZpJ  : Zaq Tryz.prog 129 [] (.c (.row 0 0)) [.row Zah evW 0 0 none]:=by
 refine bc0 [] [] [] [] L0 Tryz.func129 (fun hwf=>?_)
 exact Zwi
def ZiK:ZaD Tryz.prog:=⟨129,[],fun x=>True,fun x=>.c (.row 0 0),fun x=>[.row Zah evW 0 0 none],fun x hx=>ZpJ ,Tryz.call129⟩
def grK (ws:List ByteArray):List GToken:=[ZdK] ++ Zdk ws ws.length ++ [Za5]
theorem Zny (ws:List ByteArray):(grK ws).length=ws.length + 2:=by
 unfold grK
 simp only [List.length_append,List.length_cons,List.length_nil,Zho]
 omega
theorem Zll (ws:List ByteArray) (b:Int):∀ k,(ZaO ws b k).length≤k
 | 0=>Nat.le_refl _
 | k + 1=>by
  have:=Zll ws b k
  unfold ZaO
  exact Zo0
theorem Zqo (ws:List ByteArray) (x:ByteArray):∀ k,k≤ws.length→Zdk (ws ++ [x]) k=Zdk ws k
 | 0,_=>rfl
 | k + 1,h=>by
  unfold Zdk
  rw [Zqo ws x k (by omega)]
  congr 2
  have e:Zaa (ws ++ [x]) k=Zaa ws k:=by
   show List.getD (ws ++ [x]) k (⟨#[]⟩:ByteArray)=List.getD ws k (⟨#[]⟩:ByteArray)
   rw [List.getD_eq_getElem?_getD,List.getD_eq_getElem?_getD,List.getElem?_append_left h]
  rw [e]
theorem ZFL (ws:List ByteArray) (x:ByteArray):Zaa (ws ++ [x]) ws.length=x:=by
 show List.getD (ws ++ [x]) ws.length (⟨#[]⟩:ByteArray)=x
 rw [List.getD_eq_getElem?_getD,List.getElem?_append_right (Nat.le_refl _),Nat.sub_self]
 rfl
theorem Zzq (b:Int):∀ k,Zdk (ZaO evW b k) (ZaO evW b k).length=evN b k
 | 0=>rfl
 | k + 1=>by
  have ih:=Zzq b k
  unfold ZaO evN
  split
  ·rename_i h
   rw [List.length_append,List.length_singleton]
   show Zdk (ZaO evW b k ++ [Zaa evW k]) (ZaO evW b k).length ++ [Zan (Zaa (ZaO evW b k ++ [Zaa evW k]) (ZaO evW b k).length)]=_
   rw [Zqo _ _ _ (Nat.le_refl _),ZFL,ih]
  ·exact ih
theorem ZHu (b:Int):grK (ZaO evW b 4)=[ZdK] ++ evN b 4 ++ [Za5]:=by
 unfold grK
 rw [Zzq]
def ZC7 (ws:List ByteArray):Nat→List AV→Mem→Zbe
 | 3,tm,M=>⟨Nat,fun y=>(Zcp (ZcG tm [(3, .c (.row 0 0)),(5, .any),(7, .any),(10, .c (.int .i64 ((y:Nat):Int)))]) 11 9,ZgY M [(0, .row Zab ([ZdK] ++ Zdk ws y) 0 0 none)]),fun y=>(y≤List.length ws),fun y=>(List.length ws - y)⟩
 | _,_,_=>⟨Unit,fun _=>([],[]),fun _=>False,fun _=>0⟩
theorem ZC8 (ws:List ByteArray) (hpre:List.length ws≤1048576):Zaq Tryz.prog 64 [.c (.hs .no Zah ws)] (.c (.row 0 0)) [.row Zab (grK ws) 0 0 none]:=by
 refine bc0 [Zr5] [] [] [] (ZC7 ws) Tryz.func64 (fun hwf=>?_)
 refine Eq.mpr (β:=T7 ((∃ q:Nat,(q≤ws.length)∧lxs [hn Zah ws, .tp [], .c (.raw (.slice none 0 0)), .c (.row 0 0), .tp []] (True∧lxs [.ag [.int .i64 3, .str (⟨#[]⟩:ByteArray)]] (True∧lxs [hn Zah ws,ci ws.length] (vI 0 q∧TN 9 (tpn 4 True))))∧pt (leB (.row Zab ([(3,(⟨#[]⟩:ByteArray))]:List GToken) 0 0 none) (.row Zab ([ZdK] ++ Zdk ws q) 0 0 none)∧True))∧∀ y0:Nat,(y0≤ws.length)→True∧bif ltI y0 ws.length then ix 1 y0 ws.length∧T4 (pt True∧True∧(True∧List.length ([ZdK] ++ Zdk ws y0) + List.length ([(Zan (Zaa ws y0))])≤rowMax)∧T3 (∃ y0' : Nat,(y0'≤ws.length)∧(ws.length - y0') < (ws.length - y0)∧lxs [hn Zah ws, .tp [], .c (.raw (.slice none 0 0)), .c (.row 0 0), .tp []] (True∧lxs [.ag [.int .i64 3, .str (⟨#[]⟩:ByteArray)]] (True∧lxs [hn Zah ws,ci ws.length] (vI (w64 ((y0:Int) + 1)) y0'∧TN 9 (tpn 4 True))))∧pt (leB (.row Zab (([ZdK] ++ Zdk ws y0) ++ [(Zan (Zaa ws y0))]) 0 0 none) (.row Zab ([ZdK] ++ Zdk ws y0') 0 0 none)∧True))) else T3 ((True∧List.length ([ZdK] ++ Zdk ws y0) + List.length ([(4,(⟨#[]⟩:ByteArray))]:List GToken)≤rowMax)∧True∧pt ((([ZdK] ++ Zdk ws y0) ++ ([(4,(⟨#[]⟩:ByteArray))]:List GToken))=grK ws)))) (by kernel_rfl) ?_
 unfold T3 T4 T7
 have hl:=Zho ws
 have hp:List.length ws≤1048576:=hpre
 simp only [Zbf,Zaz,Zbi,ZaC,Bool.not_true,Bool.not_false,Zdj,eq_self]
 repeat' (with_reducible first | exact trivial | apply And.intro | intro _)
 all_goals first
  | (with_reducible trivial)
  | omega
  | (with_reducible assumption)
  | ((try simp only [List.length_append,List.length_cons,List.length_nil,ZeA]); (first | unfold rowMax | unfold maxLen); omega)
  | exact ⟨0,Nat.zero_le _,rfl,rfl⟩
  | (rename_i y hy _; simp only [List.length_append,List.length_cons,List.length_nil,hl]; unfold rowMax; omega)
  | (rename_i y hy _; exact ⟨y + 1,by omega,by omega,Zbm (by unfold maxLen; omega),(List.append_assoc _ _ _).trans rfl⟩)
  | (rename_i y hy hge; obtain rfl:y=List.length ws:=by omega
     rfl)
def Znz:ZaD Tryz.prog:=⟨64,[.v (.list Zah)],fun x=>List.length x.1≤1048576,fun x=>.c (.row 0 0),fun x=>[.row Zab (grK x.1) 0 0 none],fun x hx=>ZC8 x.1 hx,Tryz.call64⟩
theorem ZLw {f:GFilter} (h:Zar f=false):ZbT f=[]:=if_pos h
section
variable {f:GFilter} {y:Nat} {a b c:GToken} {e:Int}
theorem ZRu:(ZaO evW e evW.length).length≤1048576:=Nat.le_trans (Zll _ _ _) (by decide)
theorem ZE4 (ho:Zar f=true) (hf:f.1=true) (hlt:((y:Nat):Int) < ((f.2.length:Nat):Int)):Zay (Zad f.2 y)=true∧(Zig f.2 y).length≤29:=by
 have h1:=Zf7 ho hf
 have h2:=ZwI ho hf y (by omega)
 exact ⟨h1.2 y (by omega),by omega⟩
theorem ZMq {z:GScope} (h:Zay z=true) (hn:(eqI z.1 3 || eqI z.1 4)=true):z.2.1.length≤3∧3≤z.1:=by
 rw [Bool.or_eq_true,ZaE,ZaE] at hn
 exact ⟨(Zcw h).2 (by omega),by omega⟩
theorem ZRv {z:GScope} (h:Zay z=true) (hn:(eqI z.1 3 || eqI z.1 4)=false):¬ 3≤z.1:=by
 rw [Bool.or_eq_false_iff,Zba,Zba] at hn
 have:=(Zcw h).1
 omega
theorem ZRw (ho:Zar f=true) (hf:f.1=true) (hlt:((y:Nat):Int) < ((f.2.length:Nat):Int)):(Zig f.2 y ++ [a,b]).length + (grK (ZaO evW e evW.length)).length≤rowMax:=by
 have h1:=(ZE4 ho hf hlt).2
 exact ZoR
theorem ZRx (ho:Zar f=true) (hf:f.1=true) (hlt:((y:Nat):Int) < ((f.2.length:Nat):Int)):(Zig f.2 y ++ [a,b] ++ grK (ZaO evW e evW.length)).length + [c].length≤rowMax:=by
 have h1:=(ZE4 ho hf hlt).2
 exact ZoR
theorem ZRy (ho:Zar f=true) (hf:f.1=true) (hlt:((y:Nat):Int) < ((f.2.length:Nat):Int)) (hn:(eqI (Zad f.2 y).1 3 || eqI (Zad f.2 y).1 4)=true):(Zig f.2 y ++ [a,b]).length + (grK (Zad f.2 y).2.1).length≤rowMax:=by
 have h1:=ZE4 ho hf hlt
 have h4:=(ZMq h1.1 hn).1
 exact Zwk
theorem ZRz (ho:Zar f=true) (hf:f.1=true) (hlt:((y:Nat):Int) < ((f.2.length:Nat):Int)) (hn:(eqI (Zad f.2 y).1 3 || eqI (Zad f.2 y).1 4)=true):(Zig f.2 y ++ [a,b] ++ grK (Zad f.2 y).2.1).length + (grK (ZaO evW e evW.length)).length≤rowMax:=by
 exact Zwm
theorem ZRA (ho:Zar f=true) (hf:f.1=true) (hlt:((y:Nat):Int) < ((f.2.length:Nat):Int)) (hn:(eqI (Zad f.2 y).1 3 || eqI (Zad f.2 y).1 4)=true):(Zig f.2 y ++ [a,b] ++ grK (Zad f.2 y).2.1 ++ grK (ZaO evW e evW.length)).length + [c].length≤rowMax:=by
 exact Zwm
theorem ZRB (ho:Zar f=true) (hf:f.1=true) (hlt:((y:Nat):Int) < ((f.2.length:Nat):Int)):(Zig f.2 y).length + [a,b].length≤rowMax:=by
 have h1:=(ZE4 ho hf hlt).2
 simp only [List.length_cons,List.length_nil]
 unfold rowMax
 omega
theorem ZRC (ho:Zar f=true) (hf:f.1=true) (hlt:((y:Nat):Int) < ((f.2.length:Nat):Int)):0≤(Zad f.2 y).1:=by
 have:=(Zcw (ZE4 ho hf hlt).1).1
 omega
theorem ZRD (ho:Zar f=true) (hf:f.1=true) (hlt:((y:Nat):Int) < ((f.2.length:Nat):Int)):(Zad f.2 y).1 < ((scW.length:Nat):Int):=by
 have:=(Zcw (ZE4 ho hf hlt).1).1
 have h3:scW.length=5:=rfl
 omega
theorem ZRE (ho:Zar f=true) (hf:f.1=true) (hlt:((y:Nat):Int) < ((f.2.length:Nat):Int)) (hn:(eqI (Zad f.2 y).1 3 || eqI (Zad f.2 y).1 4)=true):(Zad f.2 y).2.1.length≤1048576:=by
 have:=(ZMq (ZE4 ho hf hlt).1 hn).1
 omega
theorem ZRF {z:GScope} (h:3≤z.1):Zhp z=[ZdK,Zan (Zaa scW (Int.toNat z.1))] ++ grK z.2.1 ++ grK (ZaO evW z.2.2 4) ++ [Za5]:=by
 have e:ZAy z=grK z.2.1:=if_pos h
 unfold Zhp
 rw [e,ZHu]
 exact Zc8
theorem ZRG {z:GScope} (h:¬ 3≤z.1):Zhp z=[ZdK,Zan (Zaa scW (Int.toNat z.1))] ++ grK (ZaO evW z.2.2 4) ++ [Za5]:=by
 have e:ZAy z=[]:=if_neg h
 unfold Zhp
 rw [e,ZHu]
 exact Zc8
theorem ZRH (ho:Zar f=true) (hf:f.1=true) (hlt:((y:Nat):Int) < ((f.2.length:Nat):Int)) (hn:(eqI (Zad f.2 y).1 3 || eqI (Zad f.2 y).1 4)=true):∃ y' : Nat,y'≤f.2.length∧f.2.length - y' < f.2.length - y∧IntKind.wrap .i64 (((y:Nat):Int) + 1)=((y' : Nat):Int) ∧
 Zig f.2 y ++ [ZdK,Zan (Zaa scW (Int.toNat (Zad f.2 y).1))] ++ grK (Zad f.2 y).2.1 ++ grK (ZaO evW (Zad f.2 y).2.2 evW.length) ++ [Za5]=Zig f.2 y':=by
 have h1:=Zf7 ho hf
 have h2:=ZE4 ho hf hlt
 refine ⟨y + 1,by omega,by omega,Zbm (by unfold maxLen; omega),?_⟩
 show _=Zig f.2 y ++ Zhp (Zad f.2 y)
 rw [ZRF (ZMq h2.1 hn).2]
 simp only [List.append_assoc]
 rfl
theorem ZRI (ho:Zar f=true) (hf:f.1=true) (hlt:((y:Nat):Int) < ((f.2.length:Nat):Int)) (hn:(eqI (Zad f.2 y).1 3 || eqI (Zad f.2 y).1 4)=false):∃ y' : Nat,y'≤f.2.length∧f.2.length - y' < f.2.length - y∧IntKind.wrap .i64 (((y:Nat):Int) + 1)=((y' : Nat):Int) ∧
 Zig f.2 y ++ [ZdK,Zan (Zaa scW (Int.toNat (Zad f.2 y).1))] ++ grK (ZaO evW (Zad f.2 y).2.2 evW.length) ++ [Za5]=Zig f.2 y':=by
 have h1:=Zf7 ho hf
 have h2:=ZE4 ho hf hlt
 refine ⟨y + 1,by omega,by omega,Zbm (by unfold maxLen; omega),?_⟩
 show _=Zig f.2 y ++ Zhp (Zad f.2 y)
 rw [ZRG (ZRv h2.1 hn)]
 simp only [List.append_assoc]
 rfl
end
def Zmv (f:GFilter):Nat→List AV→Mem→Zbe
 | 7,tm,M=>⟨Nat,fun y=>(Zcp (ZcG tm [(3, .c (.row 1 0)),(5, .any),(17, .any),(21, .c (.int .i64 ((y:Nat):Int)))]) 22 33,ZgY M [(1, .row Zab (Zig f.2 y) 0 0 none)]),fun y=>(y≤List.length f.2),fun y=>(List.length f.2 - y)⟩
 | _,_,_=>⟨Unit,fun _=>([],[]),fun _=>False,fun _=>0⟩
def Zx4 (f:GFilter) (y0:Nat) (y0' : Nat):Prop:=True∧lxs [.c (.bool false), .ag [.bool f.1, .hs .no Zae f.2], .c (.bool (Zar f)), .c (.bool (!(Zar f))), .c (.bool false), .c (.bp 0 0), .c (.bool f.1), .c (.bool (!f.1)), .tp [], .tp [], .ag [.int .i64 (Zan (⟨#[115,101,116]⟩:ByteArray)).1, .str (Zan (⟨#[115,101,116]⟩:ByteArray)).2]] (True∧lxs [.c (.bp 0 1),hn Zae f.2,ci f.2.length] (vI (w64 ((y0:Int) + 1)) y0'∧TN 33 (lxs [.tp []] True)))
theorem Zmw (f:GFilter):Zaq Tryz.prog 67 [.ag [.bool f.1, .hs .no Zae f.2]] (.c (.row 0 0)) [.row Zab (ZbT f) 0 0 none]:=by
 refine bc0 [ZlS,Zr5,ZiJ,Zhs,Znz,ZiK,Znx] [] [] [] (Zmv f) Tryz.func67 (fun hwf=>?_)
 refine Eq.mpr (β:=T3 (pt True∧T2 (bif !(Zar f) then True∧pt ((ZbT f)=[]) else T4 (bif !f.1 then pt True∧T2 (pt (([(Zan (⟨#[110,111,110,101]⟩:ByteArray))])=ZbT f)) else pt True∧T6 ((∃ q:Nat,(q≤f.2.length)∧lxs [.ag [.bool f.1, .hs .no Zae f.2], .c (.bp 0 0), .c (.raw (.slice none 0 0)), .c (.row 1 0), .tp []] (True∧lxs [.c (.bool false), .ag [.bool f.1, .hs .no Zae f.2], .c (.bool (Zar f)), .c (.bool (!(Zar f))), .c (.bool false), .c (.bp 0 0), .c (.bool f.1), .c (.bool (!f.1)), .tp [], .tp [], .ag [.int .i64 (Zan (⟨#[115,101,116]⟩:ByteArray)).1, .str (Zan (⟨#[115,101,116]⟩:ByteArray)).2]] (True∧lxs [.c (.bp 0 1),hn Zae f.2,ci f.2.length] (vI 0 q∧TN 33 (lxs [.tp []] True))))∧pt (lb (.box [.bool f.1, .hs .no Zae f.2])∧leB (.row Zab ([(Zan (⟨#[115,101,116]⟩:ByteArray))]) 0 0 none) (.row Zab (Zig f.2 q) 0 0 none)∧True))∧∀ y0:Nat,(y0≤f.2.length)→True∧bif ltI y0 f.2.length then ix 3 y0 f.2.length∧T3 (pt (true=true)∧T4 (pt True∧ix 1 (Zad f.2 y0).1 scW.length∧True∧pt True∧True∧(True∧List.length (Zig f.2 y0) + List.length ([(3,(⟨#[]⟩:ByteArray)),(Zan (Zaa scW (Int.toNat (Zad f.2 y0).1)))]:List GToken)≤rowMax)∧T3 (pt True∧bif eqI (Zad f.2 y0).1 3 || eqI (Zad f.2 y0).1 4 then T3 (pt (List.length (Zad f.2 y0).2.1≤1048576)∧(True∧List.length ((Zig f.2 y0) ++ ([(3,(⟨#[]⟩:ByteArray)),(Zan (Zaa scW (Int.toNat (Zad f.2 y0).1)))]:List GToken)) + List.length (grK (Zad f.2 y0).2.1)≤rowMax)∧True∧pt (true=true)∧T3 (pt True∧(evW.length≤1048576∧pt (true=true))∧(List.length (ZaO evW (Zad f.2 y0).2.2 evW.length)≤1048576∧pt (true=true))∧(True∧List.length (((Zig f.2 y0) ++ ([(3,(⟨#[]⟩:ByteArray)),(Zan (Zaa scW (Int.toNat (Zad f.2 y0).1)))]:List GToken)) ++ (grK (Zad f.2 y0).2.1)) + List.length (grK (ZaO evW (Zad f.2 y0).2.2 evW.length))≤rowMax)∧T4 ((True∧List.length ((((Zig f.2 y0) ++ ([(3,(⟨#[]⟩:ByteArray)),(Zan (Zaa scW (Int.toNat (Zad f.2 y0).1)))]:List GToken)) ++ (grK (Zad f.2 y0).2.1)) ++ (grK (ZaO evW (Zad f.2 y0).2.2 evW.length))) + List.length ([(4,(⟨#[]⟩:ByteArray))]:List GToken)≤rowMax)∧T3 (∃ y0' : Nat,(y0'≤f.2.length)∧(f.2.length - y0') < (f.2.length - y0)∧lxs [.ag [.bool f.1, .hs .no Zae f.2], .c (.bp 0 0), .c (.raw (.slice none 0 0)), .c (.row 1 0), .tp []] (Zx4 f y0 y0')∧pt (lb (.box [.bool f.1, .hs .no Zae f.2])∧leB (.row Zab (((((Zig f.2 y0) ++ ([(3,(⟨#[]⟩:ByteArray)),(Zan (Zaa scW (Int.toNat (Zad f.2 y0).1)))]:List GToken)) ++ (grK (Zad f.2 y0).2.1)) ++ (grK (ZaO evW (Zad f.2 y0).2.2 evW.length))) ++ ([(4,(⟨#[]⟩:ByteArray))]:List GToken)) 0 0 none) (.row Zab (Zig f.2 y0') 0 0 none)∧True))))) else pt (true=true)∧T3 (pt True∧(evW.length≤1048576∧pt (true=true))∧(List.length (ZaO evW (Zad f.2 y0).2.2 evW.length)≤1048576∧pt (true=true))∧(True∧List.length ((Zig f.2 y0) ++ ([(3,(⟨#[]⟩:ByteArray)),(Zan (Zaa scW (Int.toNat (Zad f.2 y0).1)))]:List GToken)) + List.length (grK (ZaO evW (Zad f.2 y0).2.2 evW.length))≤rowMax)∧T4 ((True∧List.length (((Zig f.2 y0) ++ ([(3,(⟨#[]⟩:ByteArray)),(Zan (Zaa scW (Int.toNat (Zad f.2 y0).1)))]:List GToken)) ++ (grK (ZaO evW (Zad f.2 y0).2.2 evW.length))) + List.length ([(4,(⟨#[]⟩:ByteArray))]:List GToken)≤rowMax)∧T3 (∃ y0' : Nat,(y0'≤f.2.length)∧(f.2.length - y0') < (f.2.length - y0)∧lxs [.ag [.bool f.1, .hs .no Zae f.2], .c (.bp 0 0), .c (.raw (.slice none 0 0)), .c (.row 1 0), .tp []] (Zx4 f y0 y0')∧pt (lb (.box [.bool f.1, .hs .no Zae f.2])∧leB (.row Zab ((((Zig f.2 y0) ++ ([(3,(⟨#[]⟩:ByteArray)),(Zan (Zaa scW (Int.toNat (Zad f.2 y0).1)))]:List GToken)) ++ (grK (ZaO evW (Zad f.2 y0).2.2 evW.length))) ++ ([(4,(⟨#[]⟩:ByteArray))]:List GToken)) 0 0 none) (.row Zab (Zig f.2 y0') 0 0 none)∧True))))))) else T2 (pt ((Zig f.2 y0)=ZbT f))))))) (by kernel_rfl) ?_
 unfold Zx4 T2 T3 T4 T6
 simp only [Zdj,eq_self]
 repeat' (with_reducible first | exact trivial | apply And.intro | intro _)
 all_goals first
  | (with_reducible trivial)
  | omega
  | (with_reducible assumption)
  | (with_reducible exact ZRu)
  | (with_reducible exact ZRw (by with_reducible assumption) (by with_reducible assumption) (by with_reducible assumption))
  | (with_reducible exact ZRx (by with_reducible assumption) (by with_reducible assumption) (by with_reducible assumption))
  | (with_reducible exact ZRy (by with_reducible assumption) (by with_reducible assumption) (by with_reducible assumption) (by with_reducible assumption))
  | (with_reducible exact ZRz (by with_reducible assumption) (by with_reducible assumption) (by with_reducible assumption) (by with_reducible assumption))
  | (with_reducible exact ZRA (by with_reducible assumption) (by with_reducible assumption) (by with_reducible assumption) (by with_reducible assumption))
  | (with_reducible exact ZRB (by with_reducible assumption) (by with_reducible assumption) (by with_reducible assumption))
  | (with_reducible exact ZRC (by with_reducible assumption) (by with_reducible assumption) (by with_reducible assumption))
  | (with_reducible exact ZRD (by with_reducible assumption) (by with_reducible assumption) (by with_reducible assumption))
  | (with_reducible exact ZRE (by with_reducible assumption) (by with_reducible assumption) (by with_reducible assumption) (by with_reducible assumption))
  | exact ZLw (by with_reducible assumption)
  | exact ZH3 (by with_reducible assumption) (by with_reducible assumption)
  | exact ZKc (by with_reducible assumption) (by with_reducible assumption) (by with_reducible assumption) (by with_reducible assumption)
  | exact ⟨0,Nat.zero_le _,rfl,Eq.mpr ZeT trivial⟩
  | exact ZRH (by with_reducible assumption) (by with_reducible assumption) (by with_reducible assumption) (by with_reducible assumption)
  | exact ZRI (by with_reducible assumption) (by with_reducible assumption) (by with_reducible assumption) (by with_reducible assumption)
def ZgU:ZaD Tryz.prog:=⟨67,[.s ZbF],fun x=>True,fun x=>.c (.row 0 0),fun x=>[.row Zab (ZbT x.1) 0 0 none],fun x hx=>Zmw x.1,Tryz.call67⟩
set_option maxRecDepth 100000
set_option maxHeartbeats 4000000
def tkT (l:List GToken):GToken:=if l.length=0 then (0,(⟨#[]⟩:ByteArray)) else Zag l 0
def ZFM (t:GToken):Bool:=decide (t.1=1)
def atN (l:List GToken):Nat:=(l.takeWhile ZFM).length
def txN (l:List GToken) (n:Nat):List ByteArray:=(l.take n).map (fun t=>t.2)
def Ze8 (l:List GToken):List ByteArray:=if (tkT l).1=3 then txN (l.drop 1) (atN (l.drop 1)) else []
def ZdC (l:List GToken):List GToken:=if (tkT l).1=3 then l.drop (1 + atN (l.drop 1) + 1) else l.drop 1
theorem ZC9 {l:List GToken} {n:Nat} (h:n < l.length):tkT (l.drop n)=Zag l n:=by
 have h1:¬ (l.drop n).length=0:=by rw [List.length_drop]; omega
 unfold tkT
 rw [if_neg h1]
 show List.getD (l.drop n) 0 ((0,(⟨#[]⟩:ByteArray)):GToken)=List.getD l n ((0,(⟨#[]⟩:ByteArray)):GToken)
 rw [List.getD_eq_getElem?_getD,List.getD_eq_getElem?_getD,List.getElem?_drop,Nat.add_zero]
theorem ZDa {l:List GToken} {n:Nat} (h:l.length≤n):tkT (l.drop n)=(0,(⟨#[]⟩:ByteArray)):=by
 unfold tkT
 rw [if_pos (by rw [List.length_drop]; omega)]
theorem tkT_nil {l:List GToken} (h:l.length=0):tkT l=(0,(⟨#[]⟩:ByteArray)):=if_pos h
theorem tkT_cons {l:List GToken} (h:¬ l.length=0):tkT l=Zag l 0:=if_neg h
theorem drop_nil {l:List GToken} (h:l.length=0):l.drop 1=l:=by
 obtain rfl:=List.eq_nil_of_length_eq_zero h
 rfl
theorem Zzr:∀ {l:List GToken} {n:Nat},n≤l.length→(∀ j,j < n→(Zag l j).1=1)→(tkT (l.drop n)).1 ≠ 1→atN l=n
 | [],n,h,_,_=>by
  have:n=0:=Nat.le_zero.1 h
  rw [this]
  rfl
 | t :: l,0,h,_,h2=>by
  have e:tkT ((t :: l).drop 0)=t:=rfl
  rw [e] at h2
  unfold atN
  rw [List.takeWhile_cons_of_neg (by unfold ZFM; rw [decide_eq_true_eq]; exact h2)]
  rfl
 | t :: l,n + 1,h,h1,h2=>by
  have e0:=h1 0 (Nat.succ_pos _)
  have e:t.1=1:=e0
  have ih:=Zzr (l:=l) (n:=n) (Nat.le_of_succ_le_succ h) (fun j hj=>h1 (j + 1) (by omega)) h2
  unfold atN at ih ⊢
  rw [List.takeWhile_cons_of_pos (by unfold ZFM; rw [decide_eq_true_eq]; exact e),List.length_cons,ih]
theorem Zzs {l:List GToken} {n:Nat} (h:n < l.length):txN l (n + 1)=txN l n ++ [(Zag l n).2]:=by
 unfold txN
 have:l[n]?=some (Zag l n):=Zat (t:=Zab) h
 rw [List.take_add_one,this,List.map_append]
 rfl
theorem ZDb (l:List GToken) (n:Nat):(txN l n).length≤n:=by
 unfold txN
 rw [List.length_map,List.length_take]
 omega
theorem Zr6 (l:List GToken):(Ze8 l).length≤l.length:=by
 unfold Ze8
 split
 ·unfold txN
  rw [List.length_map,List.length_take,List.length_drop]
  omega
 ·exact Nat.zero_le _
theorem Zd9 {a b:List GToken}:leC (.hs .no Zab a) (.hs .no Zab b)=(a=b):=Zma (t:=Zab)
theorem ZeS {a:List Zab.den} {b:List GToken}:leC (.hs .no Zab a) (.hs .no Zab b)=((a:List GToken)=b):=Zma (t:=Zab)
theorem ZnA {a b:List GToken}:leB (.box [.hs .no Zab a]) (.box [.hs .no Zab b])=(a=b):=by
 exact ZoT
def Zac (n:Nat) (l:List GToken):List GToken:=l.drop n
theorem ZbH (n:Nat) (l:List GToken):(Zac n l).length=l.length - n:=List.length_drop
theorem ZHv {k:List GToken} (h:¬ (tkT k).1=3):Zac 1 k=ZdC k∧Ze8 k=[]:=⟨(if_neg h).symm,if_neg h⟩
section
variable {k:List GToken} {y:Nat}
def grI (k:List GToken) (y:Nat):Prop:=y≤(Zac 1 k).length∧∀ j,j < y→(Zag (Zac 1 k) j).1=1
theorem ZPJ (h:(tkT k).1=3) (hi:grI k y) (hn:¬ (tkT (Zac y (Zac 1 k))).1=1):atN (Zac 1 k)=y:=Zzr hi.1 hi.2 hn
theorem ZRJ (h:(tkT k).1=3) (hi:grI k y) (hn:¬ (tkT (Zac y (Zac 1 k))).1=1):Zac 1 (Zac y (Zac 1 k))=ZdC k:=by
 unfold ZdC
 have e:=ZPJ h hi hn
 unfold Zac at e ⊢
 rw [if_pos h,e,List.drop_drop,List.drop_drop]
 rfl
theorem ZRK (h:(tkT k).1=3) (hi:grI k y) (hn:¬ (tkT (Zac y (Zac 1 k))).1=1):txN (Zac 1 k) y=Ze8 k:=by
 have e:=ZPJ h hi hn
 unfold Ze8
 unfold Zac at e ⊢
 rw [if_pos h,e]
theorem ZRL:∃ q:Nat,grI k q∧Zac 1 k=Zac q (Zac 1 k)∧([]:List ByteArray)=txN (Zac 1 k) q:=⟨0,⟨Nat.zero_le _,fun j hj=>absurd hj (Nat.not_lt_zero j)⟩,rfl,rfl⟩
theorem ZRM (hp:k.length≤1048576) (hi:grI k y) {x:ByteArray}:(txN (Zac 1 k) y).length + [x].length≤rowMax:=by
 have h1:=ZDb (Zac 1 k) y
 have h2:=hi.1
 unfold Zac at h1 h2 ⊢
 rw [List.length_drop] at h2
 exact Zh7
theorem ZRN (hi:grI k y) (hn:(tkT (Zac y (Zac 1 k))).1=1):∃ y' : Nat,grI k y'∧k.length - y' < k.length - y∧Zac 1 (Zac y (Zac 1 k))=Zac y' (Zac 1 k)∧txN (Zac 1 k) y ++ [(tkT (Zac y (Zac 1 k))).2]=txN (Zac 1 k) y':=by
 have hlt:y < (Zac 1 k).length:=Nat.lt_of_not_le fun h=>by
  unfold Zac at hn h
  rw [ZDa h] at hn
  cases hn
 have h2:=hlt
 unfold Zac at h2
 rw [List.length_drop] at h2
 have e:=ZC9 hlt
 refine ⟨y + 1,⟨hlt,fun j hj=>?_⟩,by omega,by unfold Zac; rw [List.drop_drop,List.drop_drop],by rw [Zzs hlt,← e]; rfl⟩
 by_cases hj' : j < y
 ·exact hi.2 j hj'
 ·obtain rfl:j=y:=by omega
  rw [← e]
  exact hn
end
theorem ZmN (l:List GToken):(ZdC l).length≤l.length:=by
 unfold ZdC
 split <;> (rw [List.length_drop]; omega)
theorem ZpK (k:List GToken):ZdE Tryz.prog 38 (Zdw 0 [(.b (.list Zab))] (k,())) (ZgX 0 [(.b (.list Zab))] (k,())) (ZdR 0 [(.b (.list Zab))] ((Zac 1 k),()) ++ []) (inpM 0 [(.b (.list Zab))]) (.ag [.int .i64 (tkT k).1, .str (tkT k).2]):=by
 refine Zce (T:=⟨[],[],[],[],none,fun _=>[],1,[],[]⟩) (L:=L0) Tryz.func38 rfl rfl rfl (by kernel_rfl) (fun hwf hwm=>?_)
 refine Eq.mpr (β:=T7 (bif eqI k.length 0 then T2 (pt ((((true=true∧leC (.hs .no Zab k) (.hs .no Zab (Zac 1 k)))∧True)∧True)∧(cI 0 (tkT k).1∧cS (⟨#[]⟩:ByteArray) (tkT k).2∧True))) else T4 (ix 2 0 k.length∧T8 (((2:Nat)=2∧(0:Int)≤1∧(1:Int)≤(k.length:Int)∧(k.length:Int)≤(k.length:Int))∧T5 (pt ((((true=true∧leC (.hs .no Zab (List.drop (Int.toNat 1) (List.take k.length k))) (.hs .no Zab (Zac 1 k)))∧True)∧True)∧(cI (Zag k (Int.toNat 0)).1 (tkT k).1∧cS (Zag k (Int.toNat 0)).2 (tkT k).2∧True))))))) (by kernel_rfl) ?_
 unfold T2 T4 T5 T7 T8
 simp only [ZnA,Zd9,ZeS,Zdj,eq_self]
 repeat' (with_reducible first | exact trivial | apply And.intro | intro _)
 all_goals first
  | (with_reducible trivial)
  | omega
  | (with_reducible assumption)
  | (rename_i h; rw [tkT_nil (by omega)]; done)
  | (rename_i h; rw [tkT_cons (by omega)]; rfl)
  | (rename_i h; exact (drop_nil (by omega)).symm)
  | exact congrArg (fun z:List GToken=>List.drop 1 z) (List.take_of_length_le (Nat.le_refl (List.length k)))
def Zc2:Zct Tryz.prog:=⟨38,[(.b (.list Zab))],fun x=>True,fun x=>((Zac 1 x.1),()),fun x=>.ag [.int .i64 (tkT x.1).1, .str (tkT x.1).2],fun _=>[],fun x hx=>ZpK x.1,Tryz.call38⟩
def ZnB (k:List GToken):Nat→List AV→Mem→Zbe
 | 4,tm,M=>⟨Nat,fun y=>(Zcp (ZcG tm [(2, .any),(3, .c (.row 1 0)),(4, .any)]) 9 12,ZgY M [(0, .box [.hs .no Zab (Zac y (Zac 1 k))]),(1, .row Zah (txN (Zac 1 k) y) 0 0 none)]),fun y=>(grI k y),fun y=>(List.length k - y)⟩
 | _,_,_=>⟨Unit,fun _=>([],[]),fun _=>False,fun _=>0⟩
def Zx5 (k:List GToken):Prop:=True∧lxs [.c (.row 1 0)] (True∧lxs [.c (.bp 0 0), .ag [.int .i64 (tkT k).1, .str (tkT k).2],ci (tkT k).1, .c (.bool false)] (TN 12 True))
theorem ZnC (k:List GToken) (hpre:List.length k≤1048576):ZdE Tryz.prog 112 (Zdw 0 [(.b (.list Zab))] (k,())) (ZgX 0 [(.b (.list Zab))] (k,())) (ZdR 0 [(.b (.list Zab))] ((ZdC k),()) ++ [.row Zah (Ze8 k) 0 0 none]) (inpM 0 [(.b (.list Zab))]) (.c (.row 1 0)):=by
 refine Zce (T:=⟨[],[],[],[Zc2],none,fun _=>[],1,[],[]⟩) (L:=(ZnB k)) Tryz.func112 rfl rfl rfl (by kernel_rfl) (fun hwf hwm=>?_)
 refine Eq.mpr (β:=T2 (pt (True∧((true=true∧leC (.hs .no Zab k) (.hs .no Zab k))∧True)∧True)∧T2 (bif neI (tkT k).1 3 then True∧pt ((((true=true∧leC (.hs .no Zab (Zac 1 k)) (.hs .no Zab (ZdC k)))∧True)∧True)∧(Ze8 k)=[]) else T2 ((∃ q:Nat,(grI k q)∧lxs [.c (.bp 0 0), .tp []] (Zx5 k)∧pt (leB (.box [.hs .no Zab (Zac 1 k)]) (.box [.hs .no Zab (Zac q (Zac 1 k))])∧leB (.row Zah ([]:List ByteArray) 0 0 none) (.row Zah (txN (Zac 1 k) q) 0 0 none)∧True))∧∀ y0:Nat,(grI k y0)→True∧pt (True∧((true=true∧leC (.hs .no Zab (Zac y0 (Zac 1 k))) (.hs .no Zab (Zac y0 (Zac 1 k))))∧True)∧True)∧T5 (bif neI (tkT (Zac y0 (Zac 1 k))).1 1 then T2 (pt ((((true=true∧leC (.hs .no Zab (Zac 1 (Zac y0 (Zac 1 k)))) (.hs .no Zab (ZdC k)))∧True)∧True)∧(txN (Zac 1 k) y0)=Ze8 k)) else T4 ((True∧List.length (txN (Zac 1 k) y0) + List.length ([(tkT (Zac y0 (Zac 1 k))).2])≤rowMax)∧True∧(∃ y0' : Nat,(grI k y0')∧(k.length - y0') < (k.length - y0)∧lxs [.c (.bp 0 0), .tp []] (Zx5 k)∧pt (leB (.box [.hs .no Zab (Zac 1 (Zac y0 (Zac 1 k)))]) (.box [.hs .no Zab (Zac y0' (Zac 1 k))])∧leB (.row Zah ((txN (Zac 1 k) y0) ++ [(tkT (Zac y0 (Zac 1 k))).2]) 0 0 none) (.row Zah (txN (Zac 1 k) y0') 0 0 none)∧True)))))))) (by kernel_rfl) ?_
 unfold Zx5 T2 T4 T5
 have hp:List.length k≤1048576:=hpre
 simp only [ZnA,Zd9,ZeS,Zdj,eq_self]
 repeat' (with_reducible first | exact trivial | apply And.intro | intro _)
 all_goals first
  | (with_reducible trivial)
  | omega
  | (with_reducible assumption)
  | exact (ZHv (by with_reducible assumption)).1
  | exact (ZHv (by with_reducible assumption)).2
  | exact ZRJ (by with_reducible assumption) (by with_reducible assumption) (by with_reducible assumption)
  | exact ZRK (by with_reducible assumption) (by with_reducible assumption) (by with_reducible assumption)
  | exact ZRL
  | exact ZRM hp (by with_reducible assumption)
  | exact ZRN (by with_reducible assumption) (by with_reducible assumption)
def Zhu:Zct Tryz.prog:=⟨112,[(.b (.list Zab))],fun x=>List.length x.1≤1048576,fun x=>((ZdC x.1),()),fun x=>.c (.row 1 0),fun x=>[.row Zah (Ze8 x.1) 0 0 none],fun x hx=>ZnC x.1 hx,Tryz.call112⟩
def wIx (all:List ByteArray) (w:ByteArray):Int:=ZaM (fun z:ByteArray=>eqS (upT z) (upT w)) all
def ZHw (b i:Int):Bool:=eqI (IntKind.wrap .i64 (((BitVec.ofInt (IntKind.bits .i64) (ZB7 .i64 b i) &&& BitVec.ofInt (IntKind.bits .i64) 1).toNat:Nat))) 1
def orI (b i:Int):Int:=IntKind.wrap .i64 (((BitVec.ofInt (IntKind.bits .i64) b ||| BitVec.ofInt (IntKind.bits .i64) (Zpg .i64 1 i)).toNat:Nat))
def boI (all:List ByteArray):List ByteArray→Int→Int × Bool
 | [],b=>(b,true)
 | w :: ws,b=>if wIx all w < 0 then (0,false) else if ZHw b (wIx all w)=true then (0,false) else boI all ws (orI b (wIx all w))
theorem ZgI {l:List ByteArray} {n:Nat} (h:n < l.length):l.drop n=Zaa l n :: l.drop (n + 1):=by
 have h1:l[n]?=some (Zaa l n):=Zat (t:=Zah) h
 obtain ⟨hl,e⟩:=List.getElem?_eq_some_iff.1 h1
 rw [← e]
 exact List.drop_eq_getElem_cons hl
theorem ZHx {all ws:List ByteArray} {b:Int} {n:Nat} (h:n < ws.length) (h1:wIx all (Zaa ws n) < 0):boI all (ws.drop n) b=(0,false):=by
 rw [ZgI h]
 exact if_pos h1
theorem ZHy {all ws:List ByteArray} {b:Int} {n:Nat} (h:n < ws.length) (h1:¬ wIx all (Zaa ws n) < 0) (h2:ZHw b (wIx all (Zaa ws n))=true):boI all (ws.drop n) b=(0,false):=by
 rw [ZgI h]
 exact (if_neg h1).trans (if_pos h2)
theorem ZI3 {all ws:List ByteArray} {b:Int} {n:Nat} (h:n < ws.length) (h1:¬ wIx all (Zaa ws n) < 0) (h2:ZHw b (wIx all (Zaa ws n))=false):boI all (ws.drop n) b=boI all (ws.drop (n + 1)) (orI b (wIx all (Zaa ws n))):=by
 rw [ZgI h]
 exact (if_neg h1).trans (if_neg (by rw [h2]; decide))
theorem ZHz {all ws:List ByteArray} {b:Int} {n:Nat} (h:ws.length≤n):boI all (ws.drop n) b=(b,true):=by
 rw [List.drop_of_length_le h]
 rfl
section
variable {all words:List ByteArray} {k:Nat} {b:Int}
def bsI (all words:List ByteArray) (k:Nat) (b:Int):Prop:=k≤words.length∧boI all (words.drop k) b=boI all words 0
theorem ZRO:∃ q:Nat × Int,bsI all words q.1 q.2∧(0:Int)=q.2∧(0:Int)=((q.1:Nat):Int):=⟨(0,0),⟨Nat.zero_le _,rfl⟩,rfl,rfl⟩
theorem ZOm (hi:bsI all words k b) (hk:((k:Nat):Int) < ((words.length:Nat):Int)) (h:ZaM (fun z1:ByteArray=>eqS (upT z1) (upT (Zaa words k))) all < 0):0=(boI all words 0).1:=by
 rw [← hi.2,ZHx (by omega) h]
theorem ZOn (hi:bsI all words k b) (hk:((k:Nat):Int) < ((words.length:Nat):Int)) (h:ZaM (fun z1:ByteArray=>eqS (upT z1) (upT (Zaa words k))) all < 0):false=(boI all words 0).2:=by
 rw [← hi.2,ZHx (by omega) h]
theorem ZOo (hi:bsI all words k b) (hk:((k:Nat):Int) < ((words.length:Nat):Int)) (h:¬ ZaM (fun z1:ByteArray=>eqS (upT z1) (upT (Zaa words k))) all < 0) (h2:IntKind.wrap .i64 (((BitVec.ofInt (IntKind.bits .i64) (ZB7 .i64 b (ZaM (fun z1:ByteArray=>eqS (upT z1) (upT (Zaa words k))) all)) &&& BitVec.ofInt (IntKind.bits .i64) 1).toNat:Nat))=1):0=(boI all words 0).1:=by
 rw [← hi.2,ZHy (by omega) h (ZaE.2 h2)]
theorem ZOp (hi:bsI all words k b) (hk:((k:Nat):Int) < ((words.length:Nat):Int)) (h:¬ ZaM (fun z1:ByteArray=>eqS (upT z1) (upT (Zaa words k))) all < 0) (h2:IntKind.wrap .i64 (((BitVec.ofInt (IntKind.bits .i64) (ZB7 .i64 b (ZaM (fun z1:ByteArray=>eqS (upT z1) (upT (Zaa words k))) all)) &&& BitVec.ofInt (IntKind.bits .i64) 1).toNat:Nat))=1):false=(boI all words 0).2:=by
 rw [← hi.2,ZHy (by omega) h (ZaE.2 h2)]
theorem ZRP (hm:words.length≤maxLen) (hi:bsI all words k b) (hk:((k:Nat):Int) < ((words.length:Nat):Int)) (h:¬ ZaM (fun z1:ByteArray=>eqS (upT z1) (upT (Zaa words k))) all < 0) (h2:¬ IntKind.wrap .i64 (((BitVec.ofInt (IntKind.bits .i64) (ZB7 .i64 b (ZaM (fun z1:ByteArray=>eqS (upT z1) (upT (Zaa words k))) all)) &&& BitVec.ofInt (IntKind.bits .i64) 1).toNat:Nat))=1):∃ y:Nat × Int,bsI all words y.1 y.2∧words.length - y.1 < words.length - k ∧
 IntKind.wrap .i64 (((BitVec.ofInt (IntKind.bits .i64) b ||| BitVec.ofInt (IntKind.bits .i64) (Zpg .i64 1 (ZaM (fun z1:ByteArray=>eqS (upT z1) (upT (Zaa words k))) all))).toNat:Nat))=y.2∧IntKind.wrap .i64 (((k:Nat):Int) + 1)=((y.1:Nat):Int):=by
 refine ⟨(k + 1,orI b (wIx all (Zaa words k))),⟨by show k + 1≤_; omega,?_⟩,by show _ - (k + 1) < _; omega,rfl,Zbm (by omega)⟩
 rw [← hi.2]
 exact (ZI3 (by omega) h (Zba.2 h2)).symm
theorem ZOq (hi:bsI all words k b) (hk:¬ ((k:Nat):Int) < ((words.length:Nat):Int)):b=(boI all words 0).1:=by
 rw [← hi.2,ZHz (by omega)]
theorem ZOr (hi:bsI all words k b) (hk:¬ ((k:Nat):Int) < ((words.length:Nat):Int)):true=(boI all words 0).2:=by
 rw [← hi.2,ZHz (by omega)]
end
theorem Zte (z:ByteArray) (w:ByteArray):Zaq Tryz.prog 201 [.c (.str z), .c (.ep .no Zah ([w]) 0 0)] (.c (.bool (eqS (upT z) (upT w)))) []:=by
 refine bc0 [Zfx] [] [] [] L0 Tryz.func201 (fun hwf=>?_)
 exact Zwj
def Ztf:ZaD Tryz.prog:=⟨201,[.v Zah, .p Zah],fun x=>True,fun x=>.c (.bool (eqS (upT x.1) (upT x.2.1))),fun _=>[],fun x hx=>Zte x.1 x.2.1,Tryz.call201⟩
theorem Zlm (z:ByteArray) (w:ByteArray):Zaq Tryz.prog 202 [.c (.str z), .c (.ep .no Zah ([w]) 0 0)] (.c (.bool (eqS (upT z) (upT w)))) []:=by
 refine bc0 [Zfx] [] [] [] L0 Tryz.func202 (fun hwf=>?_)
 exact Zwj
def Zln:ZaD Tryz.prog:=⟨202,[.v Zah, .p Zah],fun x=>True,fun x=>.c (.bool (eqS (upT x.1) (upT x.2.1))),fun _=>[],fun x hx=>Zlm x.1 x.2.1,Tryz.call202⟩
def ZBd (all:List ByteArray) (words:List ByteArray):Nat→List AV→Mem→Zbe
 | 3,tm,M=>⟨Nat × Int,fun y=>(Zcp (ZcG tm [(4, .any),(5, .any),(6, .c (.int .i64 y.2)),(8, .any),(9, .any),(12, .c (.int .i64 ((y.1:Nat):Int)))]) 13 20,M),fun y=>(bsI all words y.1 y.2),fun y=>(List.length words - y.1)⟩
 | _,_,_=>⟨Unit,fun _=>([],[]),fun _=>False,fun _=>0⟩
theorem ZBe (all:List ByteArray) (words:List ByteArray):Zaq Tryz.prog 169 [.c (.hs .no Zah all), .c (.hs .no Zah words)] (.tp [.c (.int .i64 (boI all words 0).1), .c (.bool (boI all words 0).2)]) []:=by
 refine bc0 [Ztf] [Zbs] [] [] (ZBd all words) Tryz.func169 (fun hwf=>?_)
 refine Eq.mpr (β:=T6 ((∃ q:Nat × Int,(bsI all words q.1 q.2)∧lxs [hn Zah all,hn Zah words, .tp [], .tp []] (True∧True∧vI 0 q.2∧lxs [.tp []] (True∧True∧lxs [hn Zah words,ci words.length] (vI 0 q.1∧TN 20 (lxs [.tp []] True))))∧pt (True))∧∀ y0:Nat × Int,(bsI all words y0.1 y0.2)→True∧bif ltI y0.1 words.length then ix 1 y0.1 words.length∧T5 (((∀ z1:ByteArray,True∧True)∧∀ (_:ByteArray→Bool) (_:List ByteArray),true=true)∧T4 (bif ltI (ZaM (fun z1:ByteArray=>eqS (upT z1) (upT (Zaa words y0.1))) all) 0 then T3 (pt ((cI 0 (boI all words 0).1∧cB false (boI all words 0).2∧True))) else T2 ((0:Int)≤ZaM (fun z1:ByteArray=>eqS (upT z1) (upT (Zaa words y0.1))) all∧T3 (bif eqI (w64 (((BitVec.ofInt (IntKind.bits .i64) (ZB7 .i64 y0.2 (ZaM (fun z1:ByteArray=>eqS (upT z1) (upT (Zaa words y0.1))) all)) &&& BitVec.ofInt (IntKind.bits .i64) 1).toNat:Nat))) 1 then T2 (pt ((cI 0 (boI all words 0).1∧cB false (boI all words 0).2∧True))) else T2 ((0:Int)≤ZaM (fun z1:ByteArray=>eqS (upT z1) (upT (Zaa words y0.1))) all∧T4 (∃ y0' : Nat × Int,(bsI all words y0'.1 y0'.2)∧(words.length - y0'.1) < (words.length - y0.1)∧lxs [hn Zah all,hn Zah words, .tp [], .tp []] (True∧True∧vI (w64 (((BitVec.ofInt (IntKind.bits .i64) y0.2 ||| BitVec.ofInt (IntKind.bits .i64) (Zpg .i64 1 (ZaM (fun z1:ByteArray=>eqS (upT z1) (upT (Zaa words y0.1))) all))).toNat:Nat))) y0'.2∧lxs [.tp []] (True∧True∧lxs [hn Zah words,ci words.length] (vI (w64 ((y0.1:Int) + 1)) y0'.1∧TN 20 (lxs [.tp []] True))))∧pt (True))))))) else T3 (pt ((cI y0.2 (boI all words 0).1∧cB true (boI all words 0).2∧True))))) (by kernel_rfl) ?_
 unfold T2 T3 T4 T5 T6
 have hm:List.length words≤maxLen:=hwf.2.1.1
 simp only [Zdj,eq_self]
 repeat' (with_reducible first | exact trivial | apply And.intro | intro _)
 all_goals first
  | (with_reducible trivial)
  | omega
  | (with_reducible assumption)
  | exact ZRO
  | exact ZOm (by with_reducible assumption) (by with_reducible assumption) (by with_reducible assumption)
  | exact ZOn (by with_reducible assumption) (by with_reducible assumption) (by with_reducible assumption)
  | exact ZOo (by with_reducible assumption) (by with_reducible assumption) (by with_reducible assumption) (by with_reducible assumption)
  | exact ZOp (by with_reducible assumption) (by with_reducible assumption) (by with_reducible assumption) (by with_reducible assumption)
  | exact ZRP hm (by with_reducible assumption) (by with_reducible assumption) (by with_reducible assumption) (by with_reducible assumption)
  | exact ZOq (by with_reducible assumption) (by with_reducible assumption)
  | exact ZOr (by with_reducible assumption) (by with_reducible assumption)
def Zqp:ZaD Tryz.prog:=⟨169,[.v (.list Zah), .v (.list Zah)],fun x=>True,fun x=>.tp [.c (.int .i64 (boI x.1 x.2.1 0).1), .c (.bool (boI x.1 x.2.1 0).2)],fun _=>[],fun x hx=>ZBe x.1 x.2.1,Tryz.call169⟩
end Go.Proofs.YtkeglpnnedflnaaGreatDoor
