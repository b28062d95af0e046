import Derived.Test.YtafhbjjcpncfnaaGreatIBlBox
set_option linter.unusedSimpArgs false
set_option linter.unusedVariables false
set_option maxRecDepth 100000
set_option maxHeartbeats 4000000
namespace Go.Proofs.YtafhbjjcpncfnaaGreat
open Go.ChangeShapes Go.WideShapes Go.ChangeAt Go.RowKit Go.Joins Go.Deep
open GoRep (rep bulk)
theorem blE (a b:ByteArray):(Op.bytesLess a.toList b.toList || eqS a b)=!Zh4 b a:=by
 rw [← ZvL]
 congr 1
theorem blN (a b:ByteArray):Op.bytesLess a.toList b.toList=Zh4 a b:=rfl
def ZBb (l:List ZaO):Nat→List AV→Mem→Zbd
 | 2,tm,M=>⟨Nat,fun y=>(Zcf (Zcf (Zct tm [(7, .c (.int .i64 ((y:Nat):Int)))]) 2 3) 8 31,M),fun y=>(y≤List.length l∧∀ j,j < y→¬ Zka l j),fun y=>(List.length l - y)⟩
 | _,_,_=>⟨Unit,fun _=>([],[]),fun _=>False,fun _=>0⟩
def ZBc (l:List ZaO) (y0:Nat):Prop:=T4 (pt True∧T2 (bif neI (boxW l (Zab l y0).2.1) y0 then True∧rB false (Zdq l) else T2 (∃ y0' : Nat,(y0'≤l.length∧∀ j,j < y0'→¬ Zka l j)∧(l.length - y0') < (l.length - y0)∧lxs [hn Zaj l, .tp []] (TN 3 (lxs [hn Zaj l,ci l.length] (vI (w64 ((y0:Int) + 1)) y0'∧TN 31 (tpn 3 True))))∧pt (True))))
theorem ZBd (l:List ZaO):Zao Tryz.prog 207 [.c (.hs .no Zaj l)] (.c (.bool (Zdq l))) []:=by
 refine bc0 [ZHu,ZiE] [] [] [] (ZBb l) Tryz.func207 (fun hwf=>?_)
 refine Eq.mpr (β:=T4 ((∃ q:Nat,(q≤l.length∧∀ j,j < q→¬ Zka l j)∧lxs [hn Zaj l, .tp []] (TN 3 (lxs [hn Zaj l,ci l.length] (vI 0 q∧TN 31 (tpn 3 True))))∧pt (True))∧∀ y0:Nat,(y0≤l.length∧∀ j,j < y0→¬ Zka l j)→True∧bif ltI y0 l.length then True∧ix 4 y0 l.length∧T4 (pt (true=true)∧True∧pt True∧T2 (bif !(Zel (Zab l y0)) then T4 (rB false (Zdq l)) else T3 (bif gtI y0 0 then T5 (ix 4 (w64 ((y0:Int) - 1)) l.length∧T6 (bif Op.bytesLess (Zab l y0).1.toList (Zab l (Int.toNat (w64 ((y0:Int) - 1)))).1.toList || eqS (Zab l y0).1 (Zab l (Int.toNat (w64 ((y0:Int) - 1)))).1 then T2 (rB false (Zdq l)) else ZBc l y0)) else T3 (ZBc l y0)))) else T4 (rB (leI l.length 4) (Zdq l)))) (by kernel_rfl) ?_
 unfold ZBc T2 T3 T4 T5 T6
 exact ZyS
def ZBe:ZaE Tryz.prog:=⟨207,[.v (.list Zaj)],fun x=>True,fun x=>.c (.bool (Zdq x.1)),fun _=>[],fun x hx=>ZBd x.1,Tryz.call207⟩
def ZBf (l:List ZaO):Nat→List AV→Mem→Zbd
 | 2,tm,M=>⟨Nat,fun y=>(Zcf (Zct tm [(2, .any),(3, .c (.int .i64 ((y:Nat):Int)))]) 4 42,M),fun y=>(y≤List.length l∧∀ j,j < y→¬ Zka l j),fun y=>(List.length l - y)⟩
 | _,_,_=>⟨Unit,fun _=>([],[]),fun _=>False,fun _=>0⟩
def ZtG (y0:Nat) (l:List ZaO):Prop:=ix 4 y0 l.length
def ZBg (y0:Nat) (l:List ZaO):Prop:=T2 (((4:Nat)=4∧(0:Int)≤0∧(0:Int)≤(y0:Int)∧(y0:Int)≤(l.length:Int))∧T2 (ZtG y0 l∧T2 (pt True∧T2 (bif geI (boxW (List.drop (Int.toNat 0) (List.take y0 l)) (Zab l y0).2.1) 0 then True∧rB false (Zdq l) else T3 (∃ y0' : Nat,(y0'≤l.length∧∀ j,j < y0'→¬ Zka l j)∧(l.length - y0') < (l.length - y0)∧lxs [hn Zaj l, .tp []] (True∧vI (w64 ((y0:Int) + 1)) y0'∧TN 42 (tpn 3 True))∧pt (True))))))
theorem ZBh (l:List ZaO):Zao Tryz.prog 231 [.c (.hs .no Zaj l)] (.c (.bool (Zdq l))) []:=by
 refine bc0 [ZHx,ZiF] [] [] [] (ZBf l) Tryz.func231 (fun hwf=>?_)
 refine Eq.mpr (β:=T2 ((∃ q:Nat,(q≤l.length∧∀ j,j < q→¬ Zka l j)∧lxs [hn Zaj l, .tp []] (True∧vI 0 q∧TN 42 (tpn 3 True))∧pt (True))∧∀ y0:Nat,(y0≤l.length∧∀ j,j < y0→¬ Zka l j)→T4 (bif ltI y0 l.length then pt (true=true)∧T2 (ZtG y0 l∧True∧pt True∧T2 (bif !(Zel (Zab l y0)) then T4 (rB false (Zdq l)) else T3 (bif gtI y0 0 then T3 (ix 4 (w64 ((y0:Int) - 1)) l.length∧T4 (ZtG y0 l∧T6 (bif !Op.bytesLess (Zab l (Int.toNat (w64 ((y0:Int) - 1)))).1.toList (Zab l y0).1.toList then T2 (rB false (Zdq l)) else ZBg y0 l))) else T3 (ZBg y0 l)))) else T4 (rB (leI l.length 4) (Zdq l))))) (by kernel_rfl) ?_
 unfold ZBg ZtG T2 T3 T4 T6
 exact ZyS
def ZBi:ZaE Tryz.prog:=⟨231,[.v (.list Zaj)],fun x=>True,fun x=>.c (.bool (Zdq x.1)),fun _=>[],fun x hx=>ZBh x.1,Tryz.call231⟩
theorem Zjv {m:ZaA}:ZbG m=true↔((1≤m.2.1∧m.2.1≤999999999) ∧
 (((m.1=1∨m.1=3)∧Zb8 m.2.2.2.2.1=true∧m.2.2.1=0∧m.2.2.2.1=0∧m.2.2.2.2.2=(⟨#[]⟩:ByteArray)) ∨
  (m.1=2∧m.2.2.1=0∧m.2.2.2.1=0∧m.2.2.2.2.1=(⟨#[]⟩:ByteArray)∧m.2.2.2.2.2=(⟨#[]⟩:ByteArray)) ∨
  (m.1=4∧(1≤m.2.2.1∧m.2.2.1≤999999998)∧(0≤m.2.2.2.1∧m.2.2.2.1≤31)∧m.2.2.2.2.2.size≤40∧m.2.2.2.2.1=(⟨#[]⟩:ByteArray)) ∨
  (m.1=5∧(1≤m.2.2.1∧m.2.2.1≤999999998)∧(0≤m.2.2.2.1∧m.2.2.2.1≤31)∧m.2.2.2.2.1=(⟨#[]⟩:ByteArray)∧m.2.2.2.2.2=(⟨#[]⟩:ByteArray)) ∨
  (m.1=6∧(1≤m.2.2.1∧m.2.2.1≤999999998)∧m.2.2.2.1=0∧m.2.2.2.2.1=(⟨#[]⟩:ByteArray)∧m.2.2.2.2.2=(⟨#[]⟩:ByteArray)))):=by
 unfold ZbG
 rw [decide_eq_true_eq]
theorem ZkT {a b:ZaA}:ZcD a b=true↔(a.1=b.1∧a.2.1=b.2.1∧a.2.2.1=b.2.2.1∧a.2.2.2.1=b.2.2.2.1∧a.2.2.2.2.1=b.2.2.2.2.1∧a.2.2.2.2.2=b.2.2.2.2.2):=by
 rw [Zha]
 obtain ⟨a1,a2,a3,a4,a5,a6⟩:=a
 obtain ⟨b1,b2,b3,b4,b5,b6⟩:=b
 simp only [Prod.mk.injEq]
theorem ZtH {a b:ZaA}:ZcD a b=false↔¬ (a.1=b.1∧a.2.1=b.2.1∧a.2.2.1=b.2.2.1∧a.2.2.2.1=b.2.2.2.1∧a.2.2.2.2.1=b.2.2.2.2.1∧a.2.2.2.2.2=b.2.2.2.2.2):=by
 rw [← Bool.not_eq_true,ZkT]
theorem ZEf:ByteArray.size (⟨#[]⟩:ByteArray)=0:=rfl
def ZiC (m:ZaA):Prop:=T4 (rB false (ZbG m))
def ZBj (m:ZaA):Prop:=T2 (pt True∧T5 (bif Zb8 m.2.2.2.2.1 then T2 (pt True∧T2 (bif btw m.2.1 1 999999999 then T2 (true=true∧T2 (rB (ZcD (0,0,m.2.2.1,m.2.2.2.1,(⟨#[]⟩:ByteArray),m.2.2.2.2.2) (0,0,0,0,(⟨#[]⟩:ByteArray),(⟨#[]⟩:ByteArray))) (ZbG m))) else T2 (rB false (ZbG m)))) else ZiC m))
theorem Zv5 (m:ZaA):Zao Tryz.prog 208 [.ag (cellsOf Zag m)] (.c (.bool (ZbG m))) []:=by
 refine bc0 [Zkk,ZtE,ZcO,Zlf] [] [] [] L0 Tryz.func208 (fun hwf=>?_)
 refine Eq.mpr (β:=T12 (T2 (bif eqI m.1 1 then ZBj m else T2 (bif eqI m.1 3 then ZBj m else T2 (bif eqI m.1 2 then T5 (pt True∧T2 (bif btw m.2.1 1 999999999 then T2 (true=true∧T2 (rB (ZcD (0,0,m.2.2) (0,0,0,0,(⟨#[]⟩:ByteArray),(⟨#[]⟩:ByteArray))) (ZbG m))) else T2 (rB false (ZbG m)))) else T2 (bif eqI m.1 4 then T2 (pt True∧True∧bif btw m.2.2.1 1 999999998 then T2 (pt True∧T2 (bif Zbn m.2.2.2.1 then T12 (T2 (bif leI m.2.2.2.2.2.size 40 then T2 (pt True∧T2 (bif btw m.2.1 1 999999999 then T2 (true=true∧T2 (rB (ZcD (0,0,0,0,m.2.2.2.2.1,(⟨#[]⟩:ByteArray)) (0,0,0,0,(⟨#[]⟩:ByteArray),(⟨#[]⟩:ByteArray))) (ZbG m))) else T2 (rB false (ZbG m)))) else ZiC m)) else T10 (ZiC m))) else T12 (ZiC m)) else T2 (bif eqI m.1 5 then T2 (pt True∧True∧bif btw m.2.2.1 1 999999998 then T2 (pt True∧T8 (bif Zbn m.2.2.2.1 then T2 (pt True∧T2 (bif btw m.2.1 1 999999999 then T2 (true=true∧T2 (rB (ZcD (0,0,0,0,m.2.2.2.2) (0,0,0,0,(⟨#[]⟩:ByteArray),(⟨#[]⟩:ByteArray))) (ZbG m))) else T2 (rB false (ZbG m)))) else ZiC m)) else T8 (ZiC m)) else T2 (bif eqI m.1 6 then T2 (pt True∧T5 (bif btw m.2.2.1 1 999999998 then T2 (pt True∧T2 (bif btw m.2.1 1 999999999 then T2 (true=true∧T2 (rB (ZcD (0,0,0,m.2.2.2) (0,0,0,0,(⟨#[]⟩:ByteArray),(⟨#[]⟩:ByteArray))) (ZbG m))) else T2 (rB false (ZbG m)))) else ZiC m)) else T2 (ZiC m))))))))) (by kernel_rfl) ?_
 unfold ZBj ZiC T10 T12 T2 T4 T5 T8
 exact Zzc
def Zv6:ZaE Tryz.prog:=⟨208,[.s Zag],fun x=>True,fun x=>.c (.bool (ZbG x.1)),fun _=>[],fun x hx=>Zv5 x.1,Tryz.call208⟩
def Zm3 (m:ZaA):Prop:=T4 (bif eqI m.1 1 then T3 (pt True∧True∧rB (Zb8 m.2.2.2.2.1) (ZbG m)) else T4 (bif eqI m.1 3 then T2 (pt True∧True∧rB (Zb8 m.2.2.2.2.1) (ZbG m)) else T4 (bif eqI m.1 2 then T2 (rB true (ZbG m)) else T2 (pt True∧True∧bif btw m.2.2.1 1 999999998 then T2 (pt True∧T2 (bif Zbn m.2.2.2.1 then T7 (rB (leI m.2.2.2.2.2.size 40) (ZbG m)) else T3 (rB false (ZbG m)))) else T5 (rB false (ZbG m))))))
def ZBk (m:ZaA):Prop:=T6 (true=true∧bif !(ZcD m (m.1,m.2.1,0,0,m.2.2.2.2.1,(⟨#[]⟩:ByteArray))) then True∧rB false (ZbG m) else Zm3 m)
theorem Zv7 (m:ZaA):Zao Tryz.prog 232 [.ag (cellsOf Zag m)] (.c (.bool (ZbG m))) []:=by
 refine bc0 [ZcI,Zjs,Zkl,Zlg] [] [] [] L0 Tryz.func232 (fun hwf=>?_)
 refine Eq.mpr (β:=T4 (pt True∧T2 (bif !(btw m.1 1 6) then T2 (rB false (ZbG m)) else T2 (pt True∧T2 (bif !(btw m.2.1 1 999999999) then True∧rB false (ZbG m) else T11 (bif eqI m.1 1 then ZBk m else T2 (bif eqI m.1 3 then ZBk m else T2 (bif eqI m.1 4 then T12 (T2 (true=true∧bif !(ZcD m (m.1,m.2.1,m.2.2.1,m.2.2.2.1,(⟨#[]⟩:ByteArray),m.2.2.2.2.2)) then True∧rB false (ZbG m) else Zm3 m)) else T2 (bif eqI m.1 5 then T10 (true=true∧bif !(ZcD m (m.1,m.2.1,m.2.2.1,m.2.2.2.1,(⟨#[]⟩:ByteArray),(⟨#[]⟩:ByteArray))) then True∧rB false (ZbG m) else Zm3 m) else T2 (bif eqI m.1 6 then T6 (true=true∧bif !(ZcD m (m.1,m.2.1,m.2.2.1,0,(⟨#[]⟩:ByteArray),(⟨#[]⟩:ByteArray))) then True∧rB false (ZbG m) else Zm3 m) else T2 (true=true∧bif !(ZcD m (m.1,m.2.1,0,0,(⟨#[]⟩:ByteArray),(⟨#[]⟩:ByteArray))) then True∧rB false (ZbG m) else Zm3 m))))))))))) (by kernel_rfl) ?_
 unfold ZBk Zm3 T10 T11 T12 T2 T3 T4 T5 T6 T7
 exact Zzc
def Zv8:ZaE Tryz.prog:=⟨232,[.s Zag],fun x=>True,fun x=>.c (.bool (ZbG x.1)),fun _=>[],fun x hx=>Zv7 x.1,Tryz.call232⟩
end Go.Proofs.YtafhbjjcpncfnaaGreat
