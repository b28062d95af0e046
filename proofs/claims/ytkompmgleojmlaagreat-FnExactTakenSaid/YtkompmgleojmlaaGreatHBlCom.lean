import Derived.Test.YtkompmgleojmlaaGreatHBlBox
set_option linter.unusedSimpArgs false
set_option linter.unusedVariables false
set_option maxRecDepth 100000
set_option maxHeartbeats 4000000
namespace Go.Proofs.YtkompmgleojmlaaGreat
open Go.ChangeShapes Go.WideShapes Go.ChangeAt Go.RowKit Go.Joins Go.Deep
open GoRep (rep bulk)
theorem blE (a b:ByteArray):(Op.bytesLess a.toList b.toList || eqS a b)=!Zh3 b a:=by
 rw [← ZvR]
 congr 1
theorem blN (a b:ByteArray):Op.bytesLess a.toList b.toList=Zh3 a b:=rfl
def ZBl (l:List ZaM):Nat→List AV→Mem→Zbj
 | 2,tm,M=>⟨Nat,fun y=>(Zcn (Zcn (ZcC tm [(7, .c (.int .i64 ((y:Nat):Int)))]) 2 3) 8 31,M),fun y=>(y≤List.length l∧∀ j,j < y→¬ Zkd l j),fun y=>(List.length l - y)⟩
 | _,_,_=>⟨Unit,fun _=>([],[]),fun _=>False,fun _=>0⟩
def ZBm (l:List ZaM) (y0:Nat):Prop:=T4 (pt True∧T2 (bif neI (boxW l (Zab l y0).2.1) y0 then True∧rB false (Zdr l) else T2 (∃ y0' : Nat,(y0'≤l.length∧∀ j,j < y0'→¬ Zkd l j)∧(l.length - y0') < (l.length - y0)∧lxs [hn Zaj l, .tp []] (TN 3 (lxs [hn Zaj l,ci l.length] (vI (w64 ((y0:Int) + 1)) y0'∧TN 31 (tpn 3 True))))∧pt (True))))
theorem ZBn (l:List ZaM):Zam Tryz.prog 228 [.c (.hs .no Zaj l)] (.c (.bool (Zdr l))) []:=by
 refine bc0 [ZHI,ZiD] [] [] [] (ZBl l) Tryz.func228 (fun hwf=>?_)
 refine Eq.mpr (β:=T4 ((∃ q:Nat,(q≤l.length∧∀ j,j < q→¬ Zkd l j)∧lxs [hn Zaj l, .tp []] (TN 3 (lxs [hn Zaj l,ci l.length] (vI 0 q∧TN 31 (tpn 3 True))))∧pt (True))∧∀ y0:Nat,(y0≤l.length∧∀ j,j < y0→¬ Zkd l j)→True∧bif ltI y0 l.length then True∧ix 4 y0 l.length∧T4 (pt (true=true)∧True∧pt True∧T2 (bif !(Zek (Zab l y0)) then T4 (rB false (Zdr l)) else T3 (bif gtI y0 0 then T5 (ix 4 (w64 ((y0:Int) - 1)) l.length∧T6 (bif Op.bytesLess (Zab l y0).1.toList (Zab l (Int.toNat (w64 ((y0:Int) - 1)))).1.toList || eqS (Zab l y0).1 (Zab l (Int.toNat (w64 ((y0:Int) - 1)))).1 then T2 (rB false (Zdr l)) else ZBm l y0)) else T3 (ZBm l y0)))) else T4 (rB (leI l.length 4) (Zdr l)))) (by kernel_rfl) ?_
 unfold ZBm T2 T3 T4 T5 T6
 exact ZyR
def ZBo:ZaC Tryz.prog:=⟨228,[.v (.list Zaj)],fun x=>True,fun x=>.c (.bool (Zdr x.1)),fun _=>[],fun x hx=>ZBn x.1,Tryz.call228⟩
def ZBp (l:List ZaM):Nat→List AV→Mem→Zbj
 | 2,tm,M=>⟨Nat,fun y=>(Zcn (ZcC tm [(2, .any),(3, .c (.int .i64 ((y:Nat):Int)))]) 4 42,M),fun y=>(y≤List.length l∧∀ j,j < y→¬ Zkd l j),fun y=>(List.length l - y)⟩
 | _,_,_=>⟨Unit,fun _=>([],[]),fun _=>False,fun _=>0⟩
def ZtQ (y0:Nat) (l:List ZaM):Prop:=ix 4 y0 l.length
def ZBq (y0:Nat) (l:List ZaM):Prop:=T2 (((4:Nat)=4∧(0:Int)≤0∧(0:Int)≤(y0:Int)∧(y0:Int)≤(l.length:Int))∧T2 (ZtQ y0 l∧T2 (pt True∧T2 (bif geI (boxW (List.drop (Int.toNat 0) (List.take y0 l)) (Zab l y0).2.1) 0 then True∧rB false (Zdr l) else T3 (∃ y0' : Nat,(y0'≤l.length∧∀ j,j < y0'→¬ Zkd l j)∧(l.length - y0') < (l.length - y0)∧lxs [hn Zaj l, .tp []] (True∧vI (w64 ((y0:Int) + 1)) y0'∧TN 42 (tpn 3 True))∧pt (True))))))
theorem ZBr (l:List ZaM):Zam Tryz.prog 261 [.c (.hs .no Zaj l)] (.c (.bool (Zdr l))) []:=by
 refine bc0 [ZHL,ZiE] [] [] [] (ZBp l) Tryz.func261 (fun hwf=>?_)
 refine Eq.mpr (β:=T2 ((∃ q:Nat,(q≤l.length∧∀ j,j < q→¬ Zkd l j)∧lxs [hn Zaj l, .tp []] (True∧vI 0 q∧TN 42 (tpn 3 True))∧pt (True))∧∀ y0:Nat,(y0≤l.length∧∀ j,j < y0→¬ Zkd l j)→T4 (bif ltI y0 l.length then pt (true=true)∧T2 (ZtQ y0 l∧True∧pt True∧T2 (bif !(Zek (Zab l y0)) then T4 (rB false (Zdr l)) else T3 (bif gtI y0 0 then T3 (ix 4 (w64 ((y0:Int) - 1)) l.length∧T4 (ZtQ y0 l∧T6 (bif !Op.bytesLess (Zab l (Int.toNat (w64 ((y0:Int) - 1)))).1.toList (Zab l y0).1.toList then T2 (rB false (Zdr l)) else ZBq y0 l))) else T3 (ZBq y0 l)))) else T4 (rB (leI l.length 4) (Zdr l))))) (by kernel_rfl) ?_
 unfold ZBq ZtQ T2 T3 T4 T6
 exact ZyR
def ZBs:ZaC Tryz.prog:=⟨261,[.v (.list Zaj)],fun x=>True,fun x=>.c (.bool (Zdr x.1)),fun _=>[],fun x hx=>ZBr x.1,Tryz.call261⟩
theorem Zjw {m:Zax}:ZbG m=true↔((1≤m.2.1∧m.2.1≤999999999) ∧
 (((m.1=1∨m.1=3)∧Zb9 m.2.2.2.2.1=true∧m.2.2.1=0∧m.2.2.2.1=0∧m.2.2.2.2.2=(⟨#[]⟩:ByteArray)) ∨
  (m.1=2∧m.2.2.1=0∧m.2.2.2.1=0∧m.2.2.2.2.1=(⟨#[]⟩:ByteArray)∧m.2.2.2.2.2=(⟨#[]⟩:ByteArray)) ∨
  (m.1=4∧(1≤m.2.2.1∧m.2.2.1≤999999998)∧(0≤m.2.2.2.1∧m.2.2.2.1≤31)∧m.2.2.2.2.2.size≤40∧m.2.2.2.2.1=(⟨#[]⟩:ByteArray)) ∨
  (m.1=5∧(1≤m.2.2.1∧m.2.2.1≤999999998)∧(0≤m.2.2.2.1∧m.2.2.2.1≤31)∧m.2.2.2.2.1=(⟨#[]⟩:ByteArray)∧m.2.2.2.2.2=(⟨#[]⟩:ByteArray)) ∨
  (m.1=6∧(1≤m.2.2.1∧m.2.2.1≤999999998)∧m.2.2.2.1=0∧m.2.2.2.2.1=(⟨#[]⟩:ByteArray)∧m.2.2.2.2.2=(⟨#[]⟩:ByteArray)))):=by
 unfold ZbG
 rw [decide_eq_true_eq]
theorem ZkU {a b:Zax}:ZcI a b=true↔(a.1=b.1∧a.2.1=b.2.1∧a.2.2.1=b.2.2.1∧a.2.2.2.1=b.2.2.2.1∧a.2.2.2.2.1=b.2.2.2.2.1∧a.2.2.2.2.2=b.2.2.2.2.2):=by
 rw [ZgZ]
 obtain ⟨a1,a2,a3,a4,a5,a6⟩:=a
 obtain ⟨b1,b2,b3,b4,b5,b6⟩:=b
 simp only [Prod.mk.injEq]
theorem ZtR {a b:Zax}:ZcI a b=false↔¬ (a.1=b.1∧a.2.1=b.2.1∧a.2.2.1=b.2.2.1∧a.2.2.2.1=b.2.2.2.1∧a.2.2.2.2.1=b.2.2.2.2.1∧a.2.2.2.2.2=b.2.2.2.2.2):=by
 rw [← Bool.not_eq_true,ZkU]
theorem ZEw:ByteArray.size (⟨#[]⟩:ByteArray)=0:=rfl
def ZiB (m:Zax):Prop:=T4 (rB false (ZbG m))
def ZBt (m:Zax):Prop:=T2 (pt True∧T5 (bif Zb9 m.2.2.2.2.1 then T2 (pt True∧T2 (bif btw m.2.1 1 999999999 then T2 (true=true∧T2 (rB (ZcI (0,0,m.2.2.1,m.2.2.2.1,(⟨#[]⟩:ByteArray),m.2.2.2.2.2) (0,0,0,0,(⟨#[]⟩:ByteArray),(⟨#[]⟩:ByteArray))) (ZbG m))) else T2 (rB false (ZbG m)))) else ZiB m))
theorem Zwc (m:Zax):Zam Tryz.prog 229 [.ag (cellsOf Zag m)] (.c (.bool (ZbG m))) []:=by
 refine bc0 [Zko,ZtO,ZcE,Zlf] [] [] [] L0 Tryz.func229 (fun hwf=>?_)
 refine Eq.mpr (β:=T12 (T2 (bif eqI m.1 1 then ZBt m else T2 (bif eqI m.1 3 then ZBt m else T2 (bif eqI m.1 2 then T5 (pt True∧T2 (bif btw m.2.1 1 999999999 then T2 (true=true∧T2 (rB (ZcI (0,0,m.2.2) (0,0,0,0,(⟨#[]⟩:ByteArray),(⟨#[]⟩:ByteArray))) (ZbG m))) else T2 (rB false (ZbG m)))) else T2 (bif eqI m.1 4 then T2 (pt True∧True∧bif btw m.2.2.1 1 999999998 then T2 (pt True∧T2 (bif Zbt m.2.2.2.1 then T12 (T2 (bif leI m.2.2.2.2.2.size 40 then T2 (pt True∧T2 (bif btw m.2.1 1 999999999 then T2 (true=true∧T2 (rB (ZcI (0,0,0,0,m.2.2.2.2.1,(⟨#[]⟩:ByteArray)) (0,0,0,0,(⟨#[]⟩:ByteArray),(⟨#[]⟩:ByteArray))) (ZbG m))) else T2 (rB false (ZbG m)))) else ZiB m)) else T10 (ZiB m))) else T12 (ZiB m)) else T2 (bif eqI m.1 5 then T2 (pt True∧True∧bif btw m.2.2.1 1 999999998 then T2 (pt True∧T8 (bif Zbt m.2.2.2.1 then T2 (pt True∧T2 (bif btw m.2.1 1 999999999 then T2 (true=true∧T2 (rB (ZcI (0,0,0,0,m.2.2.2.2) (0,0,0,0,(⟨#[]⟩:ByteArray),(⟨#[]⟩:ByteArray))) (ZbG m))) else T2 (rB false (ZbG m)))) else ZiB m)) else T8 (ZiB m)) else T2 (bif eqI m.1 6 then T2 (pt True∧T5 (bif btw m.2.2.1 1 999999998 then T2 (pt True∧T2 (bif btw m.2.1 1 999999999 then T2 (true=true∧T2 (rB (ZcI (0,0,0,m.2.2.2) (0,0,0,0,(⟨#[]⟩:ByteArray),(⟨#[]⟩:ByteArray))) (ZbG m))) else T2 (rB false (ZbG m)))) else ZiB m)) else T2 (ZiB m))))))))) (by kernel_rfl) ?_
 unfold ZBt ZiB T10 T12 T2 T4 T5 T8
 exact Zzc
def Zwd:ZaC Tryz.prog:=⟨229,[.s Zag],fun x=>True,fun x=>.c (.bool (ZbG x.1)),fun _=>[],fun x hx=>Zwc x.1,Tryz.call229⟩
def Zm9 (m:Zax):Prop:=T4 (bif eqI m.1 1 then T3 (pt True∧True∧rB (Zb9 m.2.2.2.2.1) (ZbG m)) else T4 (bif eqI m.1 3 then T2 (pt True∧True∧rB (Zb9 m.2.2.2.2.1) (ZbG m)) else T4 (bif eqI m.1 2 then T2 (rB true (ZbG m)) else T2 (pt True∧True∧bif btw m.2.2.1 1 999999998 then T2 (pt True∧T2 (bif Zbt m.2.2.2.1 then T7 (rB (leI m.2.2.2.2.2.size 40) (ZbG m)) else T3 (rB false (ZbG m)))) else T5 (rB false (ZbG m))))))
def ZBu (m:Zax):Prop:=T6 (true=true∧bif !(ZcI m (m.1,m.2.1,0,0,m.2.2.2.2.1,(⟨#[]⟩:ByteArray))) then True∧rB false (ZbG m) else Zm9 m)
theorem Zwe (m:Zax):Zam Tryz.prog 262 [.ag (cellsOf Zag m)] (.c (.bool (ZbG m))) []:=by
 refine bc0 [ZcF,Zjt,Zkp,Zlg] [] [] [] L0 Tryz.func262 (fun hwf=>?_)
 refine Eq.mpr (β:=T4 (pt True∧T2 (bif !(btw m.1 1 6) then T2 (rB false (ZbG m)) else T2 (pt True∧T2 (bif !(btw m.2.1 1 999999999) then True∧rB false (ZbG m) else T11 (bif eqI m.1 1 then ZBu m else T2 (bif eqI m.1 3 then ZBu m else T2 (bif eqI m.1 4 then T12 (T2 (true=true∧bif !(ZcI m (m.1,m.2.1,m.2.2.1,m.2.2.2.1,(⟨#[]⟩:ByteArray),m.2.2.2.2.2)) then True∧rB false (ZbG m) else Zm9 m)) else T2 (bif eqI m.1 5 then T10 (true=true∧bif !(ZcI m (m.1,m.2.1,m.2.2.1,m.2.2.2.1,(⟨#[]⟩:ByteArray),(⟨#[]⟩:ByteArray))) then True∧rB false (ZbG m) else Zm9 m) else T2 (bif eqI m.1 6 then T6 (true=true∧bif !(ZcI m (m.1,m.2.1,m.2.2.1,0,(⟨#[]⟩:ByteArray),(⟨#[]⟩:ByteArray))) then True∧rB false (ZbG m) else Zm9 m) else T2 (true=true∧bif !(ZcI m (m.1,m.2.1,0,0,(⟨#[]⟩:ByteArray),(⟨#[]⟩:ByteArray))) then True∧rB false (ZbG m) else Zm9 m))))))))))) (by kernel_rfl) ?_
 unfold ZBu Zm9 T10 T11 T12 T2 T3 T4 T5 T6 T7
 exact Zzc
def Zwf:ZaC Tryz.prog:=⟨262,[.s Zag],fun x=>True,fun x=>.c (.bool (ZbG x.1)),fun _=>[],fun x hx=>Zwe x.1,Tryz.call262⟩
end Go.Proofs.YtkompmgleojmlaaGreat
