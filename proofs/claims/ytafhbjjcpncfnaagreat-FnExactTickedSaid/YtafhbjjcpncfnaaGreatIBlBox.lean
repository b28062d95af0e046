import Derived.Test.YtafhbjjcpncfnaaGreatIBxPerf
set_option linter.unusedSimpArgs false
set_option linter.unusedVariables false
set_option maxRecDepth 100000
set_option maxHeartbeats 4000000
namespace Go.Proofs.YtafhbjjcpncfnaaGreat
open Go.ChangeShapes Go.WideShapes Go.ChangeAt Go.RowKit Go.Joins Go.Deep
open GoRep (rep bulk)
def Zbn (b:Int):Bool:=btw b 0 31
theorem ZA5 (b:Int):Zao Tryz.prog 172 [.c (.int .i64 b)] (.c (.bool (Zbn b))) []:=by
 refine bc0 [ZcO] [] [] [] L0 Tryz.func172 (fun hwf=>?_)
 exact Zzf
def Zlf:ZaE Tryz.prog:=⟨172,[.v Zax],fun x=>True,fun x=>.c (.bool (Zbn x.1)),fun _=>[],fun x hx=>ZA5 x.1,Tryz.call172⟩
theorem ZA6 (b:Int):Zao Tryz.prog 150 [.c (.int .i64 b)] (.c (.bool (Zbn b))) []:=by
 refine bc0 [ZcI] [] [] [] L0 Tryz.func150 (fun hwf=>?_)
 exact Zzf
def Zlg:ZaE Tryz.prog:=⟨150,[.v Zax],fun x=>True,fun x=>.c (.bool (Zbn x.1)),fun _=>[],fun x hx=>ZA6 x.1,Tryz.call150⟩
theorem ZJT (n:Int):Zao Tryz.prog 120 [.c (.int .i64 n)] (.c (.bool (btw n 1 999999999))) []:=by
 refine bc0 [ZcO] [] [] [] L0 Tryz.func120 (fun hwf=>?_)
 exact ZAG
def ZtE:ZaE Tryz.prog:=⟨120,[.v Zax],fun x=>True,fun x=>.c (.bool (btw x.1 1 999999999)),fun _=>[],fun x hx=>ZJT x.1,Tryz.call120⟩
theorem Zv3 (n:Int):Zao Tryz.prog 82 [.c (.int .i64 n)] (.c (.bool (btw n 1 999999999))) []:=by
 refine bc0 [ZcI] [] [] [] L0 Tryz.func82 (fun hwf=>?_)
 exact ZAG
def Zjs:ZaE Tryz.prog:=⟨82,[.v Zax],fun x=>True,fun x=>.c (.bool (btw x.1 1 999999999)),fun _=>[],fun x hx=>Zv3 x.1,Tryz.call82⟩
theorem ZHr {b:ZaO} (h:1≤b.2.2.1→∀ i,i < b.2.2.2.length→¬ Zfa b i):Zel b=(Zb8 b.1 && (btw b.2.1 1 999999999 && (btw b.2.2.1 1 999999999 && decide (b.2.2.2.length≤6)))):=by
 rw [Bool.eq_iff_iff,Zhg]
 simp only [Bool.and_eq_true,Zbu,decide_eq_true_eq]
 exact ⟨fun q=>q.2,fun q=>⟨h q.2.2.1.1,q⟩⟩
theorem I64.lohi {x:Int} (h:(Lit.int .i64 x).wf=true) : -9223372036854775808≤x∧x≤9223372036854775807:=⟨I64.lo h,I64.hi h⟩
def ZHs (b:ZaO):Nat→List AV→Mem→Zbd
 | 2,tm,M=>⟨Nat,fun y=>(Zcf (Zcf (Zct tm [(8, .c (.int .i64 ((y:Nat):Int)))]) 2 3) 9 40,M),fun y=>(y≤List.length b.2.2.2∧(1≤b.2.2.1→∀ j,j < y→¬ Zfa b j)),fun y=>(List.length b.2.2.2 - y)⟩
 | _,_,_=>⟨Unit,fun _=>([],[]),fun _=>False,fun _=>0⟩
def Zo1 (b:ZaO):List AC:=[.str b.1, .int .i64 b.2.1, .int .i64 b.2.2.1, .hs .no ZaR b.2.2.2]
def ZA7 (b:ZaO) (y0:Nat):Prop:=T2 (∃ y0' : Nat,(y0'≤b.2.2.2.length∧(1≤b.2.2.1→∀ j,j < y0'→¬ Zfa b j))∧(b.2.2.2.length - y0') < (b.2.2.2.length - y0)∧lxs [.ag (Zo1 b), .c (.bp 0 0)] (TN 3 (lxs [.c (.bp 0 3),hn ZaR b.2.2.2,ci b.2.2.2.length] (vI (w64 ((y0:Int) + 1)) y0'∧TN 40 (tpn 19 True))))∧pt (lb (.box (Zo1 b))∧True))
theorem ZHt (b:ZaO):Zao Tryz.prog 235 [.ag (cellsOf Zaj b)] (.c (.bool (Zel b))) []:=by
 refine bc0 [ZcO,Zlf,Zkk,ZtE] [] [] [] (ZHs b) Tryz.func235 (fun hwf=>?_)
 refine Eq.mpr (β:=T6 ((∃ q:Nat,(q≤b.2.2.2.length∧(1≤b.2.2.1→∀ j,j < q→¬ Zfa b j))∧lxs [.ag (Zo1 b), .c (.bp 0 0)] (TN 3 (lxs [.c (.bp 0 3),hn ZaR b.2.2.2,ci b.2.2.2.length] (vI 0 q∧TN 40 (tpn 19 True))))∧pt (lb (.box (Zo1 b))∧True))∧∀ y0:Nat,(y0≤b.2.2.2.length∧(1≤b.2.2.1→∀ j,j < y0→¬ Zfa b j))→True∧bif ltI y0 b.2.2.2.length then True∧ix 3 y0 b.2.2.2.length∧T4 (pt (true=true)∧T5 (pt True∧T2 (bif !(btw (ZaG b.2.2.2 y0).1 1 (w64 (b.2.2.1 - 1))) then T6 (rB false (Zel b)) else T2 (pt True∧T3 (bif !(Zbn (ZaG b.2.2.2 y0).2.1) then T4 (rB false (Zel b)) else T6 (bif gtI (ByteArray.size (ZaG b.2.2.2 y0).2.2) 40 then T2 (rB false (Zel b)) else T3 (bif gtI y0 0 then T6 (ix 3 (w64 ((y0:Int) - 1)) b.2.2.2.length∧T5 (bif leI (ZaG b.2.2.2 y0).1 (ZaG b.2.2.2 (Int.toNat (w64 ((y0:Int) - 1)))).1 then True∧rB false (Zel b) else ZA7 b y0)) else T2 (ZA7 b y0)))))))) else T2 (pt True∧True∧bif Zb8 b.1 then T2 (pt True∧T2 (bif btw b.2.1 1 999999999 then T2 (pt True∧T2 (bif btw b.2.2.1 1 999999999 then T6 (rB (leI b.2.2.2.length 6) (Zel b)) else T2 (rB false (Zel b)))) else T4 (rB false (Zel b)))) else T6 (rB false (Zel b))))) (by kernel_rfl) ?_
 unfold ZA7 Zo1 T2 T3 T4 T5 T6
 have hm:List.length b.2.2.2≤maxLen:=hwf.1.2.2.2.1.1
 have hnx : -9223372036854775808≤b.2.2.1∧b.2.2.1≤9223372036854775807:=I64.lohi hwf.1.2.2.1
 unfold maxLen at hm
 have w1:1≤b.2.2.1→IntKind.wrap .i64 (b.2.2.1 - 1)=b.2.2.1 - 1:=fun h=>ZaX (by omega) (by omega)
 have w2:=Zh2 (b.2.2.1 - 1)
 simp only [Zbu,ZbS,Zbn,Bool.not_true,Bool.not_false,Zeg,eq_self]
 refine ⟨⟨0,⟨Nat.zero_le _,fun _=>Za3⟩,rfl⟩,fun k hk=>⟨fun hlt=>?_,fun hge=>?_⟩⟩
 ·exact Zy0
 ·obtain rfl:k=List.length b.2.2.2:=by omega
  have hall:=ZHr hk.2
  repeat' (first | apply And.intro | intro _)
  all_goals first
   | trivial
   | (rw [hall,Bool.eq_iff_iff]; simp_all [Zbu,ZbS,Zcn]; done)
   | (rw [hall,Bool.eq_iff_iff]; simp_all [Zbu,ZbS,Zcn]; omega)
def ZHu:ZaE Tryz.prog:=⟨235,[.s Zaj],fun x=>True,fun x=>.c (.bool (Zel x.1)),fun _=>[],fun x hx=>ZHt x.1,Tryz.call235⟩
def ZHv (b:ZaO):Nat→List AV→Mem→Zbd
 | 4,tm,M=>⟨Nat,fun y=>(Zcf (Zct tm [(2, .any),(3, .c (.int .i64 ((y:Nat):Int))),(4, .any)]) 27 47,M),fun y=>(y≤List.length b.2.2.2∧(1≤b.2.2.1→∀ j,j < y→¬ Zfa b j)),fun y=>(List.length b.2.2.2 - y)⟩
 | _,_,_=>⟨Unit,fun _=>([],[]),fun _=>False,fun _=>0⟩
def Zo2 (b:ZaO):List AC:=[.str b.1, .int .i64 b.2.1, .int .i64 b.2.2.1, .hs .no ZaR b.2.2.2]
def ZA8 (b:ZaO) (y0:Nat):Prop:=T2 (pt True∧T3 (bif !(Zbn (ZaG b.2.2.2 y0).2.1) then T2 (rB false (Zel b)) else T5 (bif gtI (ByteArray.size (ZaG b.2.2.2 y0).2.2) 40 then True∧rB false (Zel b) else T3 (∃ y0' : Nat,(y0'≤b.2.2.2.length∧(1≤b.2.2.1→∀ j,j < y0'→¬ Zfa b j))∧(b.2.2.2.length - y0') < (b.2.2.2.length - y0)∧lxs [.ag (Zo2 b), .c (.bp 0 0)] (True∧vI (w64 ((y0:Int) + 1)) y0'∧True∧lxs [.c (.bp 0 0), .c (.str b.1), .c (.bool (Zb8 b.1)), .c (.bool (!(Zb8 b.1))), .c (.bool false), .c (.bp 0 1),ci b.2.1, .c (.bool (btw b.2.1 1 999999999)), .c (.bool (!(btw b.2.1 1 999999999))), .c (.bool (!(btw b.2.1 1 999999999))), .c (.bool false), .c (.bp 0 2),ci b.2.2.1, .c (.bool (btw b.2.2.1 1 999999999)), .c (.bool (!(btw b.2.2.1 1 999999999))), .c (.bool (!(btw b.2.2.1 1 999999999))), .c (.bool false), .c (.bp 0 3),hn ZaR b.2.2.2,ci b.2.2.2.length, .c (.bool (gtI b.2.2.2.length 6)), .c (.bool false)] (TN 47 True))∧pt (lb (.box (Zo2 b))∧True)))))
theorem ZHw (b:ZaO):Zao Tryz.prog 244 [.ag (cellsOf Zaj b)] (.c (.bool (Zel b))) []:=by
 refine bc0 [Zkl,Zjs,ZcI,Zlg] [] [] [] (ZHv b) Tryz.func244 (fun hwf=>?_)
 refine Eq.mpr (β:=T4 (pt True∧T2 (bif !(Zb8 b.1) then T6 (rB false (Zel b)) else T2 (pt True∧T3 (bif !(btw b.2.1 1 999999999) then T4 (rB false (Zel b)) else T2 (pt True∧T3 (bif !(btw b.2.2.1 1 999999999) then T2 (rB false (Zel b)) else T5 (bif gtI b.2.2.2.length 6 then True∧rB false (Zel b) else True∧(∃ q:Nat,(q≤b.2.2.2.length∧(1≤b.2.2.1→∀ j,j < q→¬ Zfa b j))∧lxs [.ag (Zo2 b), .c (.bp 0 0)] (True∧vI 0 q∧True∧lxs [.c (.bp 0 0), .c (.str b.1), .c (.bool (Zb8 b.1)), .c (.bool (!(Zb8 b.1))), .c (.bool false), .c (.bp 0 1),ci b.2.1, .c (.bool (btw b.2.1 1 999999999)), .c (.bool (!(btw b.2.1 1 999999999))), .c (.bool (!(btw b.2.1 1 999999999))), .c (.bool false), .c (.bp 0 2),ci b.2.2.1, .c (.bool (btw b.2.2.1 1 999999999)), .c (.bool (!(btw b.2.2.1 1 999999999))), .c (.bool (!(btw b.2.2.1 1 999999999))), .c (.bool false), .c (.bp 0 3),hn ZaR b.2.2.2,ci b.2.2.2.length, .c (.bool (gtI b.2.2.2.length 6)), .c (.bool false)] (TN 47 True))∧pt (lb (.box (Zo2 b))∧True))∧∀ y0:Nat,(y0≤b.2.2.2.length∧(1≤b.2.2.1→∀ j,j < y0→¬ Zfa b j))→T5 (bif ltI y0 b.2.2.2.length then T3 (ix 3 y0 b.2.2.2.length∧T3 (pt (true=true)∧T5 (pt True∧T2 (bif !(btw (ZaG b.2.2.2 y0).1 1 (w64 (b.2.2.1 - 1))) then T6 (rB false (Zel b)) else T3 (bif gtI y0 0 then T4 (ix 3 (w64 ((y0:Int) - 1)) b.2.2.2.length∧T8 (bif geI (ZaG b.2.2.2 (Int.toNat (w64 ((y0:Int) - 1)))).1 (ZaG b.2.2.2 y0).1 then T4 (rB false (Zel b)) else ZA8 b y0)) else T3 (ZA8 b y0)))))) else True∧rB true (Zel b)))))))))) (by kernel_rfl) ?_
 unfold ZA8 Zo2 T2 T3 T4 T5 T6 T8
 have hm:List.length b.2.2.2≤maxLen:=hwf.1.2.2.2.1.1
 have hnx : -9223372036854775808≤b.2.2.1∧b.2.2.1≤9223372036854775807:=I64.lohi hwf.1.2.2.1
 unfold maxLen at hm
 have w1:1≤b.2.2.1→IntKind.wrap .i64 (b.2.2.1 - 1)=b.2.2.1 - 1:=fun h=>ZaX (by omega) (by omega)
 have w2:=Zh2 (b.2.2.1 - 1)
 simp only [Zbu,ZbS,Zbn,Bool.not_true,Bool.not_false,Zeg,eq_self]
 refine ⟨fun h1=>?_,fun h1=>⟨fun h2=>?_,fun h2=>⟨fun h3=>?_,fun h3=>⟨fun h4=>?_,fun h4=>⟨⟨0,⟨Nat.zero_le _,fun _=>Za3⟩,rfl⟩,fun k hk=>⟨fun hlt=>?_,fun hge=>?_⟩⟩⟩⟩⟩⟩
 ·exact (Zrh (fun q=>by rw [q.1] at h1; cases h1)).symm
 ·exact ZrC
 ·exact ZrC
 ·exact ZrC
 ·exact Zy0
 ·obtain rfl:k=List.length b.2.2.2:=by omega
  exact (ZJj (hk.2 (by omega)) ⟨h1,h2,h3,by omega⟩).symm
def ZHx:ZaE Tryz.prog:=⟨244,[.s Zaj],fun x=>True,fun x=>.c (.bool (Zel x.1)),fun _=>[],fun x hx=>ZHw x.1,Tryz.call244⟩
end Go.Proofs.YtafhbjjcpncfnaaGreat
