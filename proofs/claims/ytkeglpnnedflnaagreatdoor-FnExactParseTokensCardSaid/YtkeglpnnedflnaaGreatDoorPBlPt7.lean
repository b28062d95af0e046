import Derived.Test.YtkeglpnnedflnaaGreatDoorPBlPt6
set_option linter.unusedSimpArgs false
set_option linter.unusedVariables false
set_option maxRecDepth 100000
set_option maxHeartbeats 4000000
namespace Go.Proofs.YtkeglpnnedflnaaGreatDoor
open Go.ChangeShapes Go.WideShapes Go.ChangeAt Go.RowKit Go.Joins Go.Deep
open GoRep (rep bulk)
def Ztb (c:GCommand) (r:GL6In):Prop:=ok6 r∧Zef r.1
theorem ZCV {r:GL6In} {k:Int} (h:Zef r.1):(ZaA r k).size≤1048576:=by
 unfold ZaA
 split
 ·rename_i hy
  unfold ZpC at hy
  rw [Bool.and_eq_true] at hy
  have hl:=ZbN.1 hy.1
  by_cases h0:Int.toNat r.2.1 < r.1.length
  ·exact h.2 _ (List.mem_of_getElem? (Zat (t:=Zab) h0))
  ·have e:Zag r.1 (Int.toNat r.2.1)=((0,(⟨#[]⟩:ByteArray)):GToken):=by
    show List.getD r.1 (Int.toNat r.2.1) ((0,(⟨#[]⟩:ByteArray)):GToken)=_
    exact Zwa
   rw [e]
   decide
 ·decide
theorem ZPc {r:GL6In} {b:Bool} (hb:r.2.2=true):(r.1,r.2.1,true)=bdR r b:=by
 unfold bdR
 rw [hb]
 rfl
theorem ZPd {r:GL6In} {b:Bool} (hb:r.2.2=false):(r.1,r.2.1,!b)=bdR r b:=by
 unfold bdR
 rw [hb]
 rfl
section
variable {c:GCommand} {r:GL6In}
theorem ZPe (h:ok6 r):ok6 (ZcP c r):=by
 unfold ZcP
 exact ZkS
theorem ZPf (h:ok6 r):ok6 (qs3 c r):=by
 have h:=ZPe (c:=c) h
 unfold qs3 qOp
 exact ZkS
theorem ZPg (h:ok6 r):ok6 (qs4 c r):=by
 have h:=ZPf (c:=c) h
 unfold qs4 ZFn
 exact ZkS
theorem ZPh (h:ok6 r):ok6 (qs5 c r):=by
 have h:=ZPg (c:=c) h
 unfold qs5 qTo
 exact ZkS
theorem ZNV (h:ok6 r):ok6 (qs6 c r):=by
 have h:=ZPh (c:=c) h
 unfold qs6 qFl
 split
 ·exact Zqk h
 ·exact h
theorem ZNW (h:ok6 r):ok6 (qs7 c r):=by
 have h:=ZNV (c:=c) h
 unfold qs7 qTx
 split
 ·split
  ·rename_i hy
   unfold yTx at hy
   rw [Bool.and_eq_true] at hy
   have hl:=ZbN.1 hy.1
   exact ⟨⟨by have:=h.1.1; show 0≤_ + 1; omega,by show (qs6 c r).2.1 + 1≤(((qs6 c r).1.length:Nat):Int); omega⟩,h.2⟩
  ·exact h
 ·exact h
theorem ZQG (h:Zbj c.2.1=true) (hb:(Zal r 1).2.2=true):∃ _:Unit,((Zal r 1).1,(Zal r 1).2.1,true)=((ZcP c r).1,(ZcP c r).2.1,(ZcP c r).2.2)∧rsM (ZaA r 1)=Zi7 c r:=⟨(),(ZPc hb).trans (if_pos h).symm,(if_pos h).symm⟩
theorem ZQH (h:Zbj c.2.1=true) (hb:(Zal r 1).2.2=false):∃ _:Unit,((Zal r 1).1,(Zal r 1).2.1,!rsC (ZaA r 1))=((ZcP c r).1,(ZcP c r).2.1,(ZcP c r).2.2)∧rsM (ZaA r 1)=Zi7 c r:=⟨(),(ZPd hb).trans (if_pos h).symm,(if_pos h).symm⟩
theorem ZQI (h:Zbj c.2.1=false):∃ _:Unit,(r.1,r.2.1,r.2.2)=((ZcP c r).1,(ZcP c r).2.1,(ZcP c r).2.2)∧c.2.2.2.2.2.1=Zi7 c r:=⟨(),(if_neg (by rw [h]; decide)).symm,(if_neg (by rw [h]; decide)).symm⟩
theorem ZQJ (h:c.2.1=8) (hb:(Zal (ZcP c r) 1).2.2=true):∃ _:Unit,((Zal (ZcP c r) 1).1,(Zal (ZcP c r) 1).2.1,true)=((qs3 c r).1,(qs3 c r).2.1,(qs3 c r).2.2)∧opV (ZaA (ZcP c r) 1)=gOp c (ZcP c r):=⟨(),(ZPc hb).trans (if_pos h).symm,(if_pos h).symm⟩
theorem ZQK (h:c.2.1=8) (hb:(Zal (ZcP c r) 1).2.2=false):∃ _:Unit,((Zal (ZcP c r) 1).1,(Zal (ZcP c r) 1).2.1,!opB (ZaA (ZcP c r) 1))=((qs3 c r).1,(qs3 c r).2.1,(qs3 c r).2.2)∧opV (ZaA (ZcP c r) 1)=gOp c (ZcP c r):=⟨(),(ZPd hb).trans (if_pos h).symm,(if_pos h).symm⟩
theorem ZQL (h:¬ c.2.1=8):∃ _:Unit,((ZcP c r).1,(ZcP c r).2.1,(ZcP c r).2.2)=((qs3 c r).1,(qs3 c r).2.1,(qs3 c r).2.2)∧c.2.2.2.2.2.2.1=gOp c (ZcP c r):=⟨(),(if_neg h).symm,(if_neg h).symm⟩
theorem ZQM (h:ZaX c.2.1=true):∃ _:Unit,((Zal (qs3 c r) 1).1,(Zal (qs3 c r) 1).2.1,(Zal (qs3 c r) 1).2.2)=((qs4 c r).1,(qs4 c r).2.1,(qs4 c r).2.2)∧ZaA (qs3 c r) 1=Zrt c (qs3 c r):=⟨(),(if_pos h).symm,(if_pos h).symm⟩
theorem ZQN (h:ZaX c.2.1=false):∃ _:Unit,((qs3 c r).1,(qs3 c r).2.1,(qs3 c r).2.2)=((qs4 c r).1,(qs4 c r).2.1,(qs4 c r).2.2)∧c.2.2.1=Zrt c (qs3 c r):=⟨(),(if_neg (by rw [h]; decide)).symm,(if_neg (by rw [h]; decide)).symm⟩
theorem ZQO (h:c.2.1=14):∃ _:Unit,((Zal (qs4 c r) 1).1,(Zal (qs4 c r) 1).2.1,(Zal (qs4 c r) 1).2.2)=((qs5 c r).1,(qs5 c r).2.1,(qs5 c r).2.2)∧ZaA (qs4 c r) 1=gTo c (qs4 c r):=⟨(),(if_pos h).symm,(if_pos h).symm⟩
theorem ZQP (h:¬ c.2.1=14):∃ _:Unit,((qs4 c r).1,(qs4 c r).2.1,(qs4 c r).2.2)=((qs5 c r).1,(qs5 c r).2.1,(qs5 c r).2.2)∧c.2.2.2.1=gTo c (qs4 c r):=⟨(),(if_neg h).symm,(if_neg h).symm⟩
theorem ZQQ (h:c.2.1=8):∃ _:Unit,true=fl7 c.2.1:=⟨(),by rw [h]; rfl⟩
theorem ZQR (h:¬ c.2.1=8):∃ _:Unit,eqI c.2.1 11=fl7 c.2.1:=⟨(),by unfold fl7; rw [Zba.2 h,Bool.false_or]⟩
theorem ZQS (h:fl7 c.2.1=true):∃ _:Unit,((bdR (ZbK (qs5 c r)) (boI ZaB (Zeg (qs5 c r)) 0).2).1,(bdR (ZbK (qs5 c r)) (boI ZaB (Zeg (qs5 c r)) 0).2).2.1,(bdR (ZbK (qs5 c r)) (boI ZaB (Zeg (qs5 c r)) 0).2).2.2)=((qs6 c r).1,(qs6 c r).2.1,(qs6 c r).2.2)∧(boI ZaB (Zeg (qs5 c r)) 0).1=gFl c (qs5 c r):=⟨(),(if_pos h).symm,(if_pos h).symm⟩
theorem ZQT (h:fl7 c.2.1=false):∃ _:Unit,((qs5 c r).1,(qs5 c r).2.1,(qs5 c r).2.2)=((qs6 c r).1,(qs6 c r).2.1,(qs6 c r).2.2)∧c.2.2.2.2.2.2.2.1=gFl c (qs5 c r):=⟨(),(if_neg (by rw [h]; decide)).symm,(if_neg (by rw [h]; decide)).symm⟩
theorem ZQU (h0:ok6 r) (h:c.2.1=11) (hl:(qs6 c r).2.1 < (((qs6 c r).1.length:Nat):Int)) (h2:(Zag (qs6 c r).1 (Int.toNat (qs6 c r).2.1)).1=2):∃ _:Unit,((qs6 c r).1,IntKind.wrap .i64 ((qs6 c r).2.1 + 1),(qs6 c r).2.2)=((qs7 c r).1,(qs7 c r).2.1,(qs7 c r).2.2)∧(Zag (qs6 c r).1 (Int.toNat (qs6 c r).2.1)).2=gTx c (qs6 c r):=by
 have ho:=ZNV (c:=c) h0
 have hy:yTx (qs6 c r)=true:=by
  unfold yTx
  rw [ZbN.2 hl,ZaE.2 h2]
  rfl
 have h3:=ho.1
 have h4:=ho.2
 refine ⟨(),?_,(if_pos ⟨h,hy⟩).symm⟩
 rw [ZB0 (by omega) (by omega)]
 show _=qTx c (qs6 c r)
 unfold qTx
 rw [if_pos h,if_pos hy]
theorem ZPi {b:Bool} (h:c.2.1=11) (hy:yTx (qs6 c r)=false):∃ _:Unit,((qs6 c r).1,(qs6 c r).2.1,true)=((qs7 c r).1,(qs7 c r).2.1,(qs7 c r).2.2)∧c.2.2.2.2.2.2.2.2.1=gTx c (qs6 c r):=by
 refine ⟨(),?_,(if_neg (fun q=>by rw [hy] at q; cases q.2)).symm⟩
 show _=qTx c (qs6 c r)
 unfold qTx
 rw [if_pos h,hy]
 rfl
theorem ZQV (h:c.2.1=11) (hl:¬ (qs6 c r).2.1 < (((qs6 c r).1.length:Nat):Int)):∃ _:Unit,((qs6 c r).1,(qs6 c r).2.1,true)=((qs7 c r).1,(qs7 c r).2.1,(qs7 c r).2.2)∧c.2.2.2.2.2.2.2.2.1=gTx c (qs6 c r):=ZPi (b:=true) h (by unfold yTx; rw [Zbz.2 hl]; rfl)
theorem ZQW (h:c.2.1=11) (hl:(qs6 c r).2.1 < (((qs6 c r).1.length:Nat):Int)) (h2:¬ (Zag (qs6 c r).1 (Int.toNat (qs6 c r).2.1)).1=2):∃ _:Unit,((qs6 c r).1,(qs6 c r).2.1,true)=((qs7 c r).1,(qs7 c r).2.1,(qs7 c r).2.2)∧c.2.2.2.2.2.2.2.2.1=gTx c (qs6 c r):=ZPi (b:=true) h (by unfold yTx; rw [Zba.2 h2,Bool.and_false])
theorem ZQX (h:¬ c.2.1=11):∃ _:Unit,((qs6 c r).1,(qs6 c r).2.1,(qs6 c r).2.2)=((qs7 c r).1,(qs7 c r).2.1,(qs7 c r).2.2)∧c.2.2.2.2.2.2.2.2.1=gTx c (qs6 c r):=⟨(),(if_neg h).symm,(if_neg (fun q=>h q.1)).symm⟩
theorem ZMo (h:c.2.1=6) (hb:(qs7 c r).2.2=false):((qs7 c r).1,(((qs7 c r).1.length:Nat):Int),!Zjw (Zac (Int.toNat (qs7 c r).2.1) (qs7 c r).1))=Zer c r:=(if_pos ⟨h,hb⟩).symm
theorem ZQY (h:c.2.1=6) (hb:(qs7 c r).2.2=false):(qs7 c r).1=(Zer c r).1:=by rw [← ZMo h hb]
theorem ZPj {r:GL6In} (h:ok6 r):0≤r.2.1:=h.1.1
theorem ZQZ {r:GL6In} (h:ok6 r):r.2.1≤((r.1.length:Nat):Int):=h.1.2
theorem ZNX (h:c.2.1=6) (hb:(qs7 c r).2.2=true):qs7 c r=Zer c r:=(if_neg (fun q=>by rw [hb] at q; cases q.2)).symm
theorem ZNY (h:¬ c.2.1=6):qs7 c r=Zer c r:=(if_neg (fun q=>h q.1)).symm
theorem ZPk (h:c.2.1=6) (hb:(qs7 c r).2.2=false):rdS (Zac (Int.toNat (qs7 c r).2.1) (qs7 c r).1)=gFi c (qs7 c r):=(if_pos ⟨h,hb⟩).symm
theorem ZPl (h:c.2.1=6) (hb:(qs7 c r).2.2=true):c.2.2.2.2.2.2.2.2.2=gFi c (qs7 c r):=(if_neg (fun q=>by rw [hb] at q; cases q.2)).symm
theorem ZPm (h:¬ c.2.1=6):c.2.2.2.2.2.2.2.2.2=gFi c (qs7 c r):=(if_neg (fun q=>h q.1)).symm
theorem ZQ0 (h0:ok6 r):(List.drop (Int.toNat (qs7 c r).2.1) (qs7 c r).1).length≤1048576:=by
 have h:=(ZNW (c:=c) h0).2
 rw [List.length_drop]
 omega
end
attribute [local irreducible] ZcP qs3 qs4 qs5 qs6 qs7 Zer Zi7 gOp Zrt gTo gFl gTx gFi Zal ZaA ZbK Zeg ok6 rdS Zjw boI rsM rsC opV opB fl7
theorem ZxF (r:GL6In) (hpre:ok6 r):ZdE Tryz.prog 121 (Zdw 0 [(.b Zdl)] (r,())) (ZgX 0 [(.b Zdl)] (r,())) (ZdR 0 [(.b Zdl)] ((bdR (ZbK r) (boI ZaB (Zeg r) 0).2),()) ++ []) (inpM 0 [(.b Zdl)]) (.c (.int .i64 (boI ZaB (Zeg r) 0).1)):=by
 refine Zce (T:=⟨[ZrF],[],[],[Znq],none,fun _=>[],1,[],[]⟩) (L:=L0) Tryz.func121 rfl rfl rfl (by kernel_rfl) (fun hwf hwm=>?_)
 refine Eq.mpr (β:=T2 (pt (ok6 r∧((true=true∧leC (.hs .no Zab r.1) (.hs .no Zab r.1))∧cI r.2.1 r.2.1∧cB r.2.2 r.2.2∧True)∧True)∧(True∧pt (true=true))∧T11 (bif (ZbK r).2.2 then T6 (pt ((((true=true∧leC (.hs .no Zab (ZbK r).1) (.hs .no Zab (bdR (ZbK r) (boI ZaB (Zeg r) 0).2).1))∧cI (ZbK r).2.1 (bdR (ZbK r) (boI ZaB (Zeg r) 0).2).2.1∧cB true (bdR (ZbK r) (boI ZaB (Zeg r) 0).2).2.2∧True)∧True)∧cI (boI ZaB (Zeg r) 0).1 (boI ZaB (Zeg r) 0).1)) else T8 (pt ((((true=true∧leC (.hs .no Zab (ZbK r).1) (.hs .no Zab (bdR (ZbK r) (boI ZaB (Zeg r) 0).2).1))∧cI (ZbK r).2.1 (bdR (ZbK r) (boI ZaB (Zeg r) 0).2).2.1∧cB (!(boI ZaB (Zeg r) 0).2) (bdR (ZbK r) (boI ZaB (Zeg r) 0).2).2.2∧True)∧True)∧cI (boI ZaB (Zeg r) 0).1 (boI ZaB (Zeg r) 0).1))))) (by kernel_rfl) ?_
 unfold T11 T2 T6 T8
 have h0:ok6 r:=hpre
 simp only [Znp,Zzh,Zd9,ZeS,true_and,and_true,Zdj,eq_self]
 repeat' (with_reducible first | exact trivial | apply And.intro | intro _)
 all_goals first
  | (with_reducible trivial)
  | omega
  | (with_reducible assumption)
  | exact h0
  | rfl
  | (unfold bdR; simp_all; done)
def ZxG:Zct Tryz.prog:=⟨121,[(.b Zdl)],fun x=>ok6 x.1,fun x=>((bdR (ZbK x.1) (boI ZaB (Zeg x.1) 0).2),()),fun x=>.c (.int .i64 (boI ZaB (Zeg x.1) 0).1),fun _=>[],fun x hx=>ZxF x.1 hx,Tryz.call121⟩
def ZA3 (r:GL6In) (c:GCommand):Nat→List AV→Mem→Zbe
 | 1000002,tm,M=>⟨Unit,fun _=>(Zcp (ZcG tm [(1, .any),(5, .any),(6, .any)]) 13 20,ZgY M [(0, .box [.hs .no Zab (ZcP c r).1, .int .i64 (ZcP c r).2.1, .bool (ZcP c r).2.2]),(1, .row Zai (Zi7 c r) 0 0 none),(3, .box [.str c.1, .int .i64 c.2.1, .str c.2.2.1, .str c.2.2.2.1, .bool c.2.2.2.2.1, .row 1 0, .int .i64 c.2.2.2.2.2.2.1, .int .i64 c.2.2.2.2.2.2.2.1, .str c.2.2.2.2.2.2.2.2.1, .bool c.2.2.2.2.2.2.2.2.2.1, .row 2 0])]),fun _=>True,fun _=>0⟩
 | 1000006,tm,M=>⟨Unit,fun _=>(Zcp (ZcG tm [(7, .any),(8, .any)]) 35 20,ZgY M [(0, .box [.hs .no Zab (qs3 c r).1, .int .i64 (qs3 c r).2.1, .bool (qs3 c r).2.2]),(1, .row Zai (Zi7 c r) 0 0 none),(3, .box [.str c.1, .int .i64 c.2.1, .str c.2.2.1, .str c.2.2.2.1, .bool c.2.2.2.2.1, .row 1 0, .int .i64 (gOp c (ZcP c r)), .int .i64 c.2.2.2.2.2.2.2.1, .str c.2.2.2.2.2.2.2.2.1, .bool c.2.2.2.2.2.2.2.2.2.1, .row 2 0])]),fun _=>True,fun _=>0⟩
 | 1000010,tm,M=>⟨Unit,fun _=>(Zcp (ZcG tm []) 57 4,ZgY M [(0, .box [.hs .no Zab (qs4 c r).1, .int .i64 (qs4 c r).2.1, .bool (qs4 c r).2.2]),(1, .row Zai (Zi7 c r) 0 0 none),(3, .box [.str c.1, .int .i64 c.2.1, .str (Zrt c (qs3 c r)), .str c.2.2.2.1, .bool c.2.2.2.2.1, .row 1 0, .int .i64 (gOp c (ZcP c r)), .int .i64 c.2.2.2.2.2.2.2.1, .str c.2.2.2.2.2.2.2.2.1, .bool c.2.2.2.2.2.2.2.2.2.1, .row 2 0])]),fun _=>True,fun _=>0⟩
 | 1000012,tm,M=>⟨Unit,fun _=>(Zcp (ZcG tm []) 63 4,ZgY M [(0, .box [.hs .no Zab (qs5 c r).1, .int .i64 (qs5 c r).2.1, .bool (qs5 c r).2.2]),(1, .row Zai (Zi7 c r) 0 0 none),(3, .box [.str c.1, .int .i64 c.2.1, .str (Zrt c (qs3 c r)), .str (gTo c (qs4 c r)), .bool c.2.2.2.2.1, .row 1 0, .int .i64 (gOp c (ZcP c r)), .int .i64 c.2.2.2.2.2.2.2.1, .str c.2.2.2.2.2.2.2.2.1, .bool c.2.2.2.2.2.2.2.2.2.1, .row 2 0])]),fun _=>True,fun _=>0⟩
 | 2000013,tm,M=>⟨Unit,fun _=>(Zcp (ZcG tm [(74, .c (.bool (fl7 c.2.1)))]) 67 7,M),fun _=>True,fun _=>0⟩
 | 1000014,tm,M=>⟨Unit,fun _=>(Zcp (ZcG tm []) 74 4,ZgY M [(0, .box [.hs .no Zab (qs6 c r).1, .int .i64 (qs6 c r).2.1, .bool (qs6 c r).2.2]),(1, .row Zai (Zi7 c r) 0 0 none),(3, .box [.str c.1, .int .i64 c.2.1, .str (Zrt c (qs3 c r)), .str (gTo c (qs4 c r)), .bool c.2.2.2.2.1, .row 1 0, .int .i64 (gOp c (ZcP c r)), .int .i64 (gFl c (qs5 c r)), .str c.2.2.2.2.2.2.2.2.1, .bool c.2.2.2.2.2.2.2.2.2.1, .row 2 0])]),fun _=>True,fun _=>0⟩
 | 1000016,tm,M=>⟨Unit,fun _=>(Zcp (ZcG tm []) 80 48,ZgY M [(0, .box [.hs .no Zab (qs7 c r).1, .int .i64 (qs7 c r).2.1, .bool (qs7 c r).2.2]),(1, .row Zai (Zi7 c r) 0 0 none),(3, .box [.str c.1, .int .i64 c.2.1, .str (Zrt c (qs3 c r)), .str (gTo c (qs4 c r)), .bool c.2.2.2.2.1, .row 1 0, .int .i64 (gOp c (ZcP c r)), .int .i64 (gFl c (qs5 c r)), .str (gTx c (qs6 c r)), .bool c.2.2.2.2.2.2.2.2.2.1, .row 2 0])]),fun _=>True,fun _=>0⟩
 | _,_,_=>⟨Unit,fun _=>([],[]),fun _=>False,fun _=>0⟩
def Zlg (c:GCommand) (r:GL6In):Prop:=T12 (T11 (pt ((((true=true∧leC (.hs .no Zab (qs7 c r).1) (.hs .no Zab (Zer c r).1))∧cI (List.length (qs7 c r).1) (Zer c r).2.1∧cB (!(Zjw (List.drop (Int.toNat (qs7 c r).2.1) (List.take (List.length (qs7 c r).1) (qs7 c r).1)))) (Zer c r).2.2∧True)∧([]:List Zaj)=[]∧([]:List GScope)=[]∧True)∧(cS c.1 (Zbk c r).1∧cI c.2.1 (Zbk c r).2.1∧cS (Zrt c (qs3 c r)) (Zbk c r).2.2.1∧cS (gTo c (qs4 c r)) (Zbk c r).2.2.2.1∧cB c.2.2.2.2.1 (Zbk c r).2.2.2.2.1∧(Zi7 c r)=(Zbk c r).2.2.2.2.2.1∧cI (gOp c (ZcP c r)) (Zbk c r).2.2.2.2.2.2.1∧cI (gFl c (qs5 c r)) (Zbk c r).2.2.2.2.2.2.2.1∧cS (gTx c (qs6 c r)) (Zbk c r).2.2.2.2.2.2.2.2.1∧cB (rdS (List.drop (Int.toNat (qs7 c r).2.1) (List.take (List.length (qs7 c r).1) (qs7 c r).1))).1 (Zbk c r).2.2.2.2.2.2.2.2.2.1∧(rdS (List.drop (Int.toNat (qs7 c r).2.1) (List.take (List.length (qs7 c r).1) (qs7 c r).1))).2=(Zbk c r).2.2.2.2.2.2.2.2.2.2∧True))))
def ZcQ:List AC:=[.str (⟨#[]⟩:ByteArray), .int .i64 0, .str (⟨#[]⟩:ByteArray), .str (⟨#[]⟩:ByteArray), .bool false, .raw (.slice none 0 0), .int .i64 0, .int .i64 0, .str (⟨#[]⟩:ByteArray), .bool false, .raw (.slice none 0 0)]
def ZrP (c:GCommand):Prop:=True∧lxs [.tp [], .c (.bp 3 0), .c (.bp 4 0)] (True∧True∧tpn 4 (lxs [.c (.bp 3 1),ci c.2.1] (TN 20 (tpn 134 True))))
def ZrQ (c:GCommand):Prop:=True∧lxs [.tp [], .c (.bp 3 0), .c (.bp 4 0)] (TN 4 (lxs [.tp [], .tp [], .c (.bp 3 1),ci c.2.1] (TN 20 (lxs [.c (.bp 3 1),ci c.2.1] (TN 20 (tpn 112 True))))))
def ZrR (c:GCommand):Prop:=True∧lxs [.tp [], .c (.bp 3 0), .c (.bp 4 0)] (TN 4 (lxs [.tp [], .tp [], .c (.bp 3 1),ci c.2.1] (TN 20 (lxs [.c (.bp 3 1),ci c.2.1] (TN 20 (lxs [.c (.bp 3 1),ci c.2.1] (TN 4 (lxs [.c (.bp 3 1),ci c.2.1] (TN 15 (lxs [.c (.bp 3 1),ci c.2.1] (TN 48 (tpn 39 True))))))))))))
def ZxH (c:GCommand) (r:GL6In):Prop:=T2 (pt ((((true=true∧leC (.hs .no Zab (qs7 c r).1) (.hs .no Zab (Zer c r).1))∧cI (qs7 c r).2.1 (Zer c r).2.1∧cB (qs7 c r).2.2 (Zer c r).2.2∧True)∧([]:List Zaj)=[]∧([]:List GScope)=[]∧True)∧(cS c.1 (Zbk c r).1∧cI c.2.1 (Zbk c r).2.1∧cS (Zrt c (qs3 c r)) (Zbk c r).2.2.1∧cS (gTo c (qs4 c r)) (Zbk c r).2.2.2.1∧cB c.2.2.2.2.1 (Zbk c r).2.2.2.2.1∧(Zi7 c r)=(Zbk c r).2.2.2.2.2.1∧cI (gOp c (ZcP c r)) (Zbk c r).2.2.2.2.2.2.1∧cI (gFl c (qs5 c r)) (Zbk c r).2.2.2.2.2.2.2.1∧cS (gTx c (qs6 c r)) (Zbk c r).2.2.2.2.2.2.2.2.1∧cB c.2.2.2.2.2.2.2.2.2.1 (Zbk c r).2.2.2.2.2.2.2.2.2.1∧c.2.2.2.2.2.2.2.2.2.2=(Zbk c r).2.2.2.2.2.2.2.2.2.2∧True)))
def ZxI (c:GCommand):Prop:=True∧lxs [.tp [], .c (.bp 3 0), .c (.bp 4 0)] (TN 4 (lxs [.tp [], .tp [], .c (.bp 3 1),ci c.2.1] (TN 20 (lxs [.c (.bp 3 1),ci c.2.1] (TN 20 (lxs [.c (.bp 3 1),ci c.2.1] (TN 4 (lxs [.c (.bp 3 1),ci c.2.1] (TN 4 (tpn 100 True))))))))))
def ZxJ (c:GCommand):Prop:=True∧lxs [.tp [], .c (.bp 3 0), .c (.bp 4 0)] (TN 4 (lxs [.tp [], .tp [], .c (.bp 3 1),ci c.2.1] (TN 20 (lxs [.c (.bp 3 1),ci c.2.1] (TN 20 (lxs [.c (.bp 3 1),ci c.2.1] (TN 4 (tpn 106 True))))))))
def ZxK (c:GCommand):Prop:=True∧lxs [.tp [], .c (.bp 3 0), .c (.bp 4 0)] (TN 4 (lxs [.tp [], .tp [], .c (.bp 3 1),ci c.2.1] (TN 20 (lxs [.c (.bp 3 1),ci c.2.1] (TN 20 (lxs [.c (.bp 3 1),ci c.2.1] (TN 4 (lxs [.c (.bp 3 1),ci c.2.1] (TN 15 (tpn 89 True))))))))))
def ZjQ (c:GCommand) (r:GL6In):List AC:=[.str c.1, .int .i64 c.2.1, .str (Zrt c (qs3 c r)), .str (gTo c (qs4 c r)), .bool c.2.2.2.2.1, .row 1 0, .int .i64 (gOp c (ZcP c r)), .int .i64 (gFl c (qs5 c r)), .str c.2.2.2.2.2.2.2.2.1, .bool c.2.2.2.2.2.2.2.2.2.1, .row 2 0]
def ZmK (c:GCommand) (r:GL6In):List AC:=[.str c.1, .int .i64 c.2.1, .str (Zrt c (qs3 c r)), .str (gTo c (qs4 c r)), .bool c.2.2.2.2.1, .row 1 0, .int .i64 (gOp c (ZcP c r)), .int .i64 (gFl c (qs5 c r)), .str (gTx c (qs6 c r)), .bool c.2.2.2.2.2.2.2.2.2.1, .row 2 0]
def ZxL (c:GCommand) (r:GL6In):Prop:=T4 (∃ _:Unit,True∧lxs [.c (.bp 0 0)] (ZrR c)∧pt (leB (.box [.hs .no Zab (qs6 c r).1, .int .i64 (qs6 c r).2.1, .bool true]) (.box [.hs .no Zab (qs7 c r).1, .int .i64 (qs7 c r).2.1, .bool (qs7 c r).2.2])∧lb (.row Zai (Zi7 c r) 0 0 none)∧lb (.row Zae c.2.2.2.2.2.2.2.2.2.2 0 0 none)∧leB (.box (ZjQ c r)) (.box (ZmK c r))∧lb (.box ZcQ)∧True))
def ZjR (c:GCommand) (r:GL6In):List AC:=[.str c.1, .int .i64 c.2.1, .str (Zrt c (qs3 c r)), .str (gTo c (qs4 c r)), .bool c.2.2.2.2.1, .row 1 0, .int .i64 (gOp c (ZcP c r)), .int .i64 c.2.2.2.2.2.2.2.1, .str c.2.2.2.2.2.2.2.2.1, .bool c.2.2.2.2.2.2.2.2.2.1, .row 2 0]
def ZjS (c:GCommand) (r:GL6In):List AC:=[.str c.1, .int .i64 c.2.1, .str c.2.2.1, .str c.2.2.2.1, .bool c.2.2.2.2.1, .row 1 0, .int .i64 (gOp c (ZcP c r)), .int .i64 c.2.2.2.2.2.2.2.1, .str c.2.2.2.2.2.2.2.2.1, .bool c.2.2.2.2.2.2.2.2.2.1, .row 2 0]
def ZjT (c:GCommand):List AC:=[.str c.1, .int .i64 c.2.1, .str c.2.2.1, .str c.2.2.2.1, .bool c.2.2.2.2.1, .row 1 0, .int .i64 c.2.2.2.2.2.2.1, .int .i64 c.2.2.2.2.2.2.2.1, .str c.2.2.2.2.2.2.2.2.1, .bool c.2.2.2.2.2.2.2.2.2.1, .row 2 0]
def ZmL (c:GCommand) (r:GL6In):List AC:=[.str c.1, .int .i64 c.2.1, .str (Zrt c (qs3 c r)), .str c.2.2.2.1, .bool c.2.2.2.2.1, .row 1 0, .int .i64 (gOp c (ZcP c r)), .int .i64 c.2.2.2.2.2.2.2.1, .str c.2.2.2.2.2.2.2.2.1, .bool c.2.2.2.2.2.2.2.2.2.1, .row 2 0]
def ZjU (c:GCommand) (r:GL6In):List AC:=[.hs .no Zab (qs5 c r).1, .int .i64 (qs5 c r).2.1, .bool (qs5 c r).2.2]
def ZrS (c:GCommand) (r:GL6In):List AC:=[.str c.1, .int .i64 c.2.1, .str c.2.2.1, .str c.2.2.2.1, .bool c.2.2.2.2.1, .row 1 0, .int .i64 (opV (ZaA (ZcP c r) 1)), .int .i64 c.2.2.2.2.2.2.2.1, .str c.2.2.2.2.2.2.2.2.1, .bool c.2.2.2.2.2.2.2.2.2.1, .row 2 0]
def ZjV (c:GCommand) (r:GL6In):List AC:=[.hs .no Zab (ZcP c r).1, .int .i64 (ZcP c r).2.1, .bool (ZcP c r).2.2]
def ZjW (c:GCommand) (r:GL6In):List AC:=[.hs .no Zab (qs3 c r).1, .int .i64 (qs3 c r).2.1, .bool (qs3 c r).2.2]
def ZrT (c:GCommand) (r:GL6In):Prop:=lb (.box (ZjU c r))∧lb (.row Zai (Zi7 c r) 0 0 none)∧lb (.row Zae c.2.2.2.2.2.2.2.2.2.2 0 0 none)∧lb (.box (ZjR c r))∧lb (.box ZcQ)∧True
def ZrU (c:GCommand) (r:GL6In):Prop:=pt (List.length (List.drop (Int.toNat (qs7 c r).2.1) (List.take (List.length (qs7 c r).1) (qs7 c r).1))≤1048576)
theorem ZA4 (r:GL6In) (c:GCommand) (hpre:Ztb c r):ZdE Tryz.prog 50 (Zdw 0 [(.b Zdl),(.g true ZaH)] (r,c,())) (ZgX 0 [(.b Zdl),(.g true ZaH)] (r,c,())) (ZdR 0 [(.b Zdl),(.g true ZaH)] ((Zer c r),c,()) ++ [.row Zai (Zbk c r).2.2.2.2.2.1 0 0 none, .row Zae (Zbk c r).2.2.2.2.2.2.2.2.2.2 0 0 none]) (inpM 0 [(.b Zdl),(.g true ZaH)]) (.ag [.str (Zbk c r).1, .int .i64 (Zbk c r).2.1, .str (Zbk c r).2.2.1, .str (Zbk c r).2.2.2.1, .bool (Zbk c r).2.2.2.2.1, .row 3 0, .int .i64 (Zbk c r).2.2.2.2.2.2.1, .int .i64 (Zbk c r).2.2.2.2.2.2.2.1, .str (Zbk c r).2.2.2.2.2.2.2.2.1, .bool (Zbk c r).2.2.2.2.2.2.2.2.2.1, .row 4 0]):=by
 refine Zce (T:=⟨[Zk4,Zxr,ZA2,Zi3,ZpG],[],[],[Zih,ZxG],none,fun i=>match i with | 1000002=>[⟨some 0,0,Zao⟩] | 1000006=>[⟨some 0,0,Zao⟩] | 1000010=>[⟨some 0,0,Zao⟩] | 1000012=>[⟨some 0,0,Zao⟩] | 2000013=>[⟨some 0,0,Zao⟩] | 1000014=>[⟨some 0,0,Zao⟩] | 1000016=>[⟨some 0,0,Zao⟩] | _=>[],3,[],[]⟩) (L:=(ZA3 r c)) Tryz.func50 rfl rfl rfl (by kernel_rfl) (fun hwf hwm=>?_)
 refine Eq.mpr (β:=T4 (pt True∧(bif Zbj c.2.1 then True∧pt (ok6 r∧((true=true∧leC (.hs .no Zab r.1) (.hs .no Zab r.1))∧cI r.2.1 r.2.1∧cB r.2.2 r.2.2∧True)∧True)∧pt (ByteArray.size (ZaA r 1)≤1048576)∧T12 (T2 (bif (Zal r 1).2.2 then T4 (∃ _:Unit,True∧lxs [.c (.bp 0 0)] (ZrP c)∧pt (leB (.box [.hs .no Zab (Zal r 1).1, .int .i64 (Zal r 1).2.1, .bool true]) (.box (ZjV c r))∧leB (.row Zai (rsM (ZaA r 1)) 0 0 none) (.row Zai (Zi7 c r) 0 0 none)∧lb (.row Zae c.2.2.2.2.2.2.2.2.2.2 0 0 none)∧lb (.box (ZjT c))∧lb (.box ZcQ)∧True)) else T6 (∃ _:Unit,True∧lxs [.c (.bp 0 0)] (ZrP c)∧pt (leB (.box [.hs .no Zab (Zal r 1).1, .int .i64 (Zal r 1).2.1, .bool (!(rsC (ZaA r 1)))]) (.box (ZjV c r))∧leB (.row Zai (rsM (ZaA r 1)) 0 0 none) (.row Zai (Zi7 c r) 0 0 none)∧lb (.row Zae c.2.2.2.2.2.2.2.2.2.2 0 0 none)∧lb (.box (ZjT c))∧lb (.box ZcQ)∧True)))) else (∃ _:Unit,True∧lxs [.c (.bp 0 0)] (ZrP c)∧pt (leB (.box [.hs .no Zab r.1, .int .i64 r.2.1, .bool r.2.2]) (.box (ZjV c r))∧leB (.row Zai c.2.2.2.2.2.1 0 0 none) (.row Zai (Zi7 c r) 0 0 none)∧lb (.row Zae c.2.2.2.2.2.2.2.2.2.2 0 0 none)∧lb (.box (ZjT c))∧lb (.box ZcQ)∧True)))∧∀ _:Unit,True→T3 ((bif eqI c.2.1 8 then True∧pt (ok6 (ZcP c r)∧((true=true∧leC (.hs .no Zab (ZcP c r).1) (.hs .no Zab (ZcP c r).1))∧cI (ZcP c r).2.1 (ZcP c r).2.1∧cB (ZcP c r).2.2 (ZcP c r).2.2∧True)∧True)∧pt True∧T12 (T2 (bif (Zal (ZcP c r) 1).2.2 then T4 (∃ _:Unit,True∧lxs [.c (.bp 0 0)] (ZrQ c)∧pt (leB (.box [.hs .no Zab (Zal (ZcP c r) 1).1, .int .i64 (Zal (ZcP c r) 1).2.1, .bool true]) (.box (ZjW c r))∧lb (.row Zai (Zi7 c r) 0 0 none)∧lb (.row Zae c.2.2.2.2.2.2.2.2.2.2 0 0 none)∧leB (.box (ZrS c r)) (.box (ZjS c r))∧lb (.box ZcQ)∧True)) else T6 (∃ _:Unit,True∧lxs [.c (.bp 0 0)] (ZrQ c)∧pt (leB (.box [.hs .no Zab (Zal (ZcP c r) 1).1, .int .i64 (Zal (ZcP c r) 1).2.1, .bool (!(opB (ZaA (ZcP c r) 1)))]) (.box (ZjW c r))∧lb (.row Zai (Zi7 c r) 0 0 none)∧lb (.row Zae c.2.2.2.2.2.2.2.2.2.2 0 0 none)∧leB (.box (ZrS c r)) (.box (ZjS c r))∧lb (.box ZcQ)∧True)))) else (∃ _:Unit,True∧lxs [.c (.bp 0 0)] (ZrQ c)∧pt (leB (.box (ZjV c r)) (.box (ZjW c r))∧lb (.row Zai (Zi7 c r) 0 0 none)∧lb (.row Zae c.2.2.2.2.2.2.2.2.2.2 0 0 none)∧leB (.box (ZjT c)) (.box (ZjS c r))∧lb (.box ZcQ)∧True)))∧∀ _:Unit,True→T2 (pt True∧(bif ZaX c.2.1 then True∧pt (ok6 (qs3 c r)∧((true=true∧leC (.hs .no Zab (qs3 c r).1) (.hs .no Zab (qs3 c r).1))∧cI (qs3 c r).2.1 (qs3 c r).2.1∧cB (qs3 c r).2.2 (qs3 c r).2.2∧True)∧True)∧T2 (∃ _:Unit,True∧lxs [.c (.bp 0 0)] (ZxJ c)∧pt (leB (.box [.hs .no Zab (Zal (qs3 c r) 1).1, .int .i64 (Zal (qs3 c r) 1).2.1, .bool (Zal (qs3 c r) 1).2.2]) (.box [.hs .no Zab (qs4 c r).1, .int .i64 (qs4 c r).2.1, .bool (qs4 c r).2.2])∧lb (.row Zai (Zi7 c r) 0 0 none)∧lb (.row Zae c.2.2.2.2.2.2.2.2.2.2 0 0 none)∧leB (.box [.str c.1, .int .i64 c.2.1, .str (ZaA (qs3 c r) 1), .str c.2.2.2.1, .bool c.2.2.2.2.1, .row 1 0, .int .i64 (gOp c (ZcP c r)), .int .i64 c.2.2.2.2.2.2.2.1, .str c.2.2.2.2.2.2.2.2.1, .bool c.2.2.2.2.2.2.2.2.2.1, .row 2 0]) (.box (ZmL c r))∧lb (.box ZcQ)∧True)) else (∃ _:Unit,True∧lxs [.c (.bp 0 0)] (ZxJ c)∧pt (leB (.box (ZjW c r)) (.box [.hs .no Zab (qs4 c r).1, .int .i64 (qs4 c r).2.1, .bool (qs4 c r).2.2])∧lb (.row Zai (Zi7 c r) 0 0 none)∧lb (.row Zae c.2.2.2.2.2.2.2.2.2.2 0 0 none)∧leB (.box (ZjS c r)) (.box (ZmL c r))∧lb (.box ZcQ)∧True)))∧∀ _:Unit,True→T3 ((bif eqI c.2.1 14 then True∧pt (ok6 (qs4 c r)∧((true=true∧leC (.hs .no Zab (qs4 c r).1) (.hs .no Zab (qs4 c r).1))∧cI (qs4 c r).2.1 (qs4 c r).2.1∧cB (qs4 c r).2.2 (qs4 c r).2.2∧True)∧True)∧T2 (∃ _:Unit,True∧lxs [.c (.bp 0 0)] (ZxI c)∧pt (leB (.box [.hs .no Zab (Zal (qs4 c r) 1).1, .int .i64 (Zal (qs4 c r) 1).2.1, .bool (Zal (qs4 c r) 1).2.2]) (.box (ZjU c r))∧lb (.row Zai (Zi7 c r) 0 0 none)∧lb (.row Zae c.2.2.2.2.2.2.2.2.2.2 0 0 none)∧leB (.box [.str c.1, .int .i64 c.2.1, .str (Zrt c (qs3 c r)), .str (ZaA (qs4 c r) 1), .bool c.2.2.2.2.1, .row 1 0, .int .i64 (gOp c (ZcP c r)), .int .i64 c.2.2.2.2.2.2.2.1, .str c.2.2.2.2.2.2.2.2.1, .bool c.2.2.2.2.2.2.2.2.2.1, .row 2 0]) (.box (ZjR c r))∧lb (.box ZcQ)∧True)) else (∃ _:Unit,True∧lxs [.c (.bp 0 0)] (ZxI c)∧pt (leB (.box [.hs .no Zab (qs4 c r).1, .int .i64 (qs4 c r).2.1, .bool (qs4 c r).2.2]) (.box (ZjU c r))∧lb (.row Zai (Zi7 c r) 0 0 none)∧lb (.row Zae c.2.2.2.2.2.2.2.2.2.2 0 0 none)∧leB (.box (ZmL c r)) (.box (ZjR c r))∧lb (.box ZcQ)∧True)))∧∀ _:Unit,True→T4 (bif eqI c.2.1 8 then True∧(∃ _:Unit,True∧lxs [.c (.bp 0 0)] (True∧lxs [.tp [], .c (.bp 3 0), .c (.bp 4 0)] (TN 4 (lxs [.tp [], .tp [], .c (.bp 3 1),ci c.2.1] (TN 20 (lxs [.c (.bp 3 1),ci c.2.1] (TN 20 (lxs [.c (.bp 3 1),ci c.2.1] (TN 4 (lxs [.c (.bp 3 1),ci c.2.1] (TN 11 (leV (.c (.bool true)) (.c (.bool (fl7 c.2.1)))∧tpn 92 True)))))))))))∧pt (ZrT c r)) else T4 (∃ _:Unit,True∧lxs [.c (.bp 0 0)] (True∧lxs [.tp [], .c (.bp 3 0), .c (.bp 4 0)] (TN 4 (lxs [.tp [], .tp [], .c (.bp 3 1),ci c.2.1] (TN 20 (lxs [.c (.bp 3 1),ci c.2.1] (TN 20 (lxs [.c (.bp 3 1),ci c.2.1] (TN 4 (lxs [.c (.bp 3 1),ci c.2.1] (TN 11 (leV (.c (.bool (eqI c.2.1 11))) (.c (.bool (fl7 c.2.1)))∧tpn 92 True)))))))))))∧pt (ZrT c r)))∧∀ _:Unit,True→(bif fl7 c.2.1 then True∧pt (ok6 (qs5 c r)∧((true=true∧leC (.hs .no Zab (qs5 c r).1) (.hs .no Zab (qs5 c r).1))∧cI (qs5 c r).2.1 (qs5 c r).2.1∧cB (qs5 c r).2.2 (qs5 c r).2.2∧True)∧True)∧T2 (∃ _:Unit,True∧lxs [.c (.bp 0 0)] (ZxK c)∧pt (leB (.box [.hs .no Zab (bdR (ZbK (qs5 c r)) (boI ZaB (Zeg (qs5 c r)) 0).2).1, .int .i64 (bdR (ZbK (qs5 c r)) (boI ZaB (Zeg (qs5 c r)) 0).2).2.1, .bool (bdR (ZbK (qs5 c r)) (boI ZaB (Zeg (qs5 c r)) 0).2).2.2]) (.box [.hs .no Zab (qs6 c r).1, .int .i64 (qs6 c r).2.1, .bool (qs6 c r).2.2])∧lb (.row Zai (Zi7 c r) 0 0 none)∧lb (.row Zae c.2.2.2.2.2.2.2.2.2.2 0 0 none)∧leB (.box [.str c.1, .int .i64 c.2.1, .str (Zrt c (qs3 c r)), .str (gTo c (qs4 c r)), .bool c.2.2.2.2.1, .row 1 0, .int .i64 (gOp c (ZcP c r)), .int .i64 (boI ZaB (Zeg (qs5 c r)) 0).1, .str c.2.2.2.2.2.2.2.2.1, .bool c.2.2.2.2.2.2.2.2.2.1, .row 2 0]) (.box (ZjQ c r))∧lb (.box ZcQ)∧True)) else (∃ _:Unit,True∧lxs [.c (.bp 0 0)] (ZxK c)∧pt (leB (.box (ZjU c r)) (.box [.hs .no Zab (qs6 c r).1, .int .i64 (qs6 c r).2.1, .bool (qs6 c r).2.2])∧lb (.row Zai (Zi7 c r) 0 0 none)∧lb (.row Zae c.2.2.2.2.2.2.2.2.2.2 0 0 none)∧leB (.box (ZjR c r)) (.box (ZjQ c r))∧lb (.box ZcQ)∧True)))∧∀ _:Unit,True→T3 ((bif eqI c.2.1 11 then pt (true=true)∧T11 (bif ltI (qs6 c r).2.1 (List.length (qs6 c r).1) then T8 (ix 2 (qs6 c r).2.1 (List.length (qs6 c r).1)∧T4 (bif eqI (Zag (qs6 c r).1 (Int.toNat (qs6 c r).2.1)).1 2 then pt (true=true)∧T8 (ix 2 (qs6 c r).2.1 (List.length (qs6 c r).1)∧T12 (True∧(∃ _:Unit,True∧lxs [.c (.bp 0 0)] (ZrR c)∧pt (leB (.box [.hs .no Zab (qs6 c r).1, .int .i64 (w64 ((qs6 c r).2.1 + 1)), .bool (qs6 c r).2.2]) (.box [.hs .no Zab (qs7 c r).1, .int .i64 (qs7 c r).2.1, .bool (qs7 c r).2.2])∧lb (.row Zai (Zi7 c r) 0 0 none)∧lb (.row Zae c.2.2.2.2.2.2.2.2.2.2 0 0 none)∧leB (.box [.str c.1, .int .i64 c.2.1, .str (Zrt c (qs3 c r)), .str (gTo c (qs4 c r)), .bool c.2.2.2.2.1, .row 1 0, .int .i64 (gOp c (ZcP c r)), .int .i64 (gFl c (qs5 c r)), .str (Zag (qs6 c r).1 (Int.toNat (qs6 c r).2.1)).2, .bool c.2.2.2.2.2.2.2.2.2.1, .row 2 0]) (.box (ZmK c r))∧lb (.box ZcQ)∧True)))) else ZxL c r)) else True∧ZxL c r) else (∃ _:Unit,True∧lxs [.c (.bp 0 0)] (ZrR c)∧pt (leB (.box [.hs .no Zab (qs6 c r).1, .int .i64 (qs6 c r).2.1, .bool (qs6 c r).2.2]) (.box [.hs .no Zab (qs7 c r).1, .int .i64 (qs7 c r).2.1, .bool (qs7 c r).2.2])∧lb (.row Zai (Zi7 c r) 0 0 none)∧lb (.row Zae c.2.2.2.2.2.2.2.2.2.2 0 0 none)∧leB (.box (ZjQ c r)) (.box (ZmK c r))∧lb (.box ZcQ)∧True)))∧∀ _:Unit,True→T4 (bif eqI c.2.1 6 then T6 (bif !(qs7 c r).2.2 then pt (true=true)∧T8 (((2:Nat)=2∧(0:Int)≤(qs7 c r).2.1∧((qs7 c r).2.1:Int)≤(List.length (qs7 c r).1:Int)∧(List.length (qs7 c r).1:Int)≤(List.length (qs7 c r).1:Int))∧(ZrU c r∧T2 ((True∧Zlg c r)∧(True∧Zlg c r∧(Zlg c r))))∧(True∧ZrU c r∧T2 (Zlg c r∧(Zlg c r)))) else ZxH c r) else True∧ZxH c r))))))) (by kernel_rfl) ?_
 unfold ZrU ZrT ZjW ZjV ZrS ZjU ZmL ZjT ZjS ZjR ZxL ZmK ZjQ ZxK ZxJ ZxI ZxH ZrR ZrQ ZrP ZcQ Zlg T11 T12 T2 T3 T4 T6 T8
 have h0:ok6 r:=hpre.1
 simp only [List.take_length,Znp,Zzh,Zd9,ZeS,true_and,and_true,Zdj,eq_self]
 repeat' (with_reducible first | exact trivial | apply And.intro | intro _)
 all_goals first
  | (with_reducible trivial)
  | omega
  | (with_reducible assumption)
  | exact h0
  | exact ZCV hpre.2
  | exact ZPe h0
  | exact ZPf h0
  | exact ZPg h0
  | exact ZPh h0
  | exact ZPj (ZNV h0)
  | exact ZPj (ZNW h0)
  | exact ZQZ (ZNW h0)
  | exact ZQY (by with_reducible assumption) (by with_reducible assumption)
  | exact ZQG (by with_reducible assumption) (by with_reducible assumption)
  | exact ZQH (by with_reducible assumption) (by with_reducible assumption)
  | exact ZQI (by with_reducible assumption)
  | exact ZQJ (by with_reducible assumption) (by with_reducible assumption)
  | exact ZQK (by with_reducible assumption) (by with_reducible assumption)
  | exact ZQL (by with_reducible assumption)
  | exact ZQM (by with_reducible assumption)
  | exact ZQN (by with_reducible assumption)
  | exact ZQO (by with_reducible assumption)
  | exact ZQP (by with_reducible assumption)
  | exact ZQQ (by with_reducible assumption)
  | exact ZQR (by with_reducible assumption)
  | exact ZQS (by with_reducible assumption)
  | exact ZQT (by with_reducible assumption)
  | exact ZQU h0 (by with_reducible assumption) (by with_reducible assumption) (by with_reducible assumption)
  | exact ZQV (by with_reducible assumption) (by with_reducible assumption)
  | exact ZQW (by with_reducible assumption) (by with_reducible assumption) (by with_reducible assumption)
  | exact ZQX (by with_reducible assumption)
  | exact ZQ0 h0
  | exact rfl
  | exact congrArg (fun z:GL6In=>z.1) (ZMo (by with_reducible assumption) (by with_reducible assumption))
  | exact congrArg (fun z:GL6In=>z.2.1) (ZMo (by with_reducible assumption) (by with_reducible assumption))
  | exact congrArg (fun z:GL6In=>z.2.2) (ZMo (by with_reducible assumption) (by with_reducible assumption))
  | exact congrArg (fun z:GL6In=>z.1) (ZNX (by with_reducible assumption) (by with_reducible assumption))
  | exact congrArg (fun z:GL6In=>z.2.1) (ZNX (by with_reducible assumption) (by with_reducible assumption))
  | exact congrArg (fun z:GL6In=>z.2.2) (ZNX (by with_reducible assumption) (by with_reducible assumption))
  | exact congrArg (fun z:GL6In=>z.1) (ZNY (by with_reducible assumption))
  | exact congrArg (fun z:GL6In=>z.2.1) (ZNY (by with_reducible assumption))
  | exact congrArg (fun z:GL6In=>z.2.2) (ZNY (by with_reducible assumption))
  | exact congrArg Prod.fst (ZPk (by with_reducible assumption) (by with_reducible assumption))
  | exact congrArg Prod.snd (ZPk (by with_reducible assumption) (by with_reducible assumption))
  | exact congrArg Prod.fst (ZPl (by with_reducible assumption) (by with_reducible assumption))
  | exact congrArg Prod.snd (ZPl (by with_reducible assumption) (by with_reducible assumption))
  | exact congrArg Prod.fst (ZPm (by with_reducible assumption))
  | exact congrArg Prod.snd (ZPm (by with_reducible assumption))
def ZA5:Zct Tryz.prog:=⟨50,[(.b Zdl),(.g true ZaH)],fun x=>Ztb x.2.1 x.1,fun x=>((Zer x.2.1 x.1),x.2.1,()),fun x=>.ag [.str (Zbk x.2.1 x.1).1, .int .i64 (Zbk x.2.1 x.1).2.1, .str (Zbk x.2.1 x.1).2.2.1, .str (Zbk x.2.1 x.1).2.2.2.1, .bool (Zbk x.2.1 x.1).2.2.2.2.1, .row 3 0, .int .i64 (Zbk x.2.1 x.1).2.2.2.2.2.2.1, .int .i64 (Zbk x.2.1 x.1).2.2.2.2.2.2.2.1, .str (Zbk x.2.1 x.1).2.2.2.2.2.2.2.2.1, .bool (Zbk x.2.1 x.1).2.2.2.2.2.2.2.2.2.1, .row 4 0],fun x=>[.row Zai (Zbk x.2.1 x.1).2.2.2.2.2.1 0 0 none, .row Zae (Zbk x.2.1 x.1).2.2.2.2.2.2.2.2.2.2 0 0 none],fun x hx=>ZA4 x.1 x.2.1 hx,Tryz.call50⟩
end Go.Proofs.YtkeglpnnedflnaaGreatDoor
