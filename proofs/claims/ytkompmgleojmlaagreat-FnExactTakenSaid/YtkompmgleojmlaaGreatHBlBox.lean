import Derived.Test.YtkompmgleojmlaaGreatHBxPerf
set_option linter.unusedSimpArgs false
set_option linter.unusedVariables false
set_option maxRecDepth 100000
set_option maxHeartbeats 4000000
namespace Go.Proofs.YtkompmgleojmlaaGreat
open Go.ChangeShapes Go.WideShapes Go.ChangeAt Go.RowKit Go.Joins Go.Deep
open GoRep (rep bulk)
def Zbt (b:Int):Bool:=btw b 0 31
theorem ZBf (b:Int):Zam Tryz.prog 173 [.c (.int .i64 b)] (.c (.bool (Zbt b))) []:=by
 refine bc0 [ZcE] [] [] [] L0 Tryz.func173 (fun hwf=>?_)
 exact Zzf
def Zlf:ZaC Tryz.prog:=⟨173,[.v Zaz],fun x=>True,fun x=>.c (.bool (Zbt x.1)),fun _=>[],fun x hx=>ZBf x.1,Tryz.call173⟩
theorem ZBg (b:Int):Zam Tryz.prog 152 [.c (.int .i64 b)] (.c (.bool (Zbt b))) []:=by
 refine bc0 [ZcF] [] [] [] L0 Tryz.func152 (fun hwf=>?_)
 exact Zzf
def Zlg:ZaC Tryz.prog:=⟨152,[.v Zaz],fun x=>True,fun x=>.c (.bool (Zbt x.1)),fun _=>[],fun x hx=>ZBg x.1,Tryz.call152⟩
theorem ZKn (n:Int):Zam Tryz.prog 102 [.c (.int .i64 n)] (.c (.bool (btw n 1 999999999))) []:=by
 refine bc0 [ZcE] [] [] [] L0 Tryz.func102 (fun hwf=>?_)
 exact ZAN
def ZtO:ZaC Tryz.prog:=⟨102,[.v Zaz],fun x=>True,fun x=>.c (.bool (btw x.1 1 999999999)),fun _=>[],fun x hx=>ZKn x.1,Tryz.call102⟩
theorem Zwa (n:Int):Zam Tryz.prog 73 [.c (.int .i64 n)] (.c (.bool (btw n 1 999999999))) []:=by
 refine bc0 [ZcF] [] [] [] L0 Tryz.func73 (fun hwf=>?_)
 exact ZAN
def Zjt:ZaC Tryz.prog:=⟨73,[.v Zaz],fun x=>True,fun x=>.c (.bool (btw x.1 1 999999999)),fun _=>[],fun x hx=>Zwa x.1,Tryz.call73⟩
theorem ZHF {b:ZaM} (h:1≤b.2.2.1→∀ i,i < b.2.2.2.length→¬ Ze9 b i):Zek b=(Zb9 b.1 && (btw b.2.1 1 999999999 && (btw b.2.2.1 1 999999999 && decide (b.2.2.2.length≤6)))):=by
 rw [Bool.eq_iff_iff,Zhc]
 simp only [Bool.and_eq_true,Zbe,decide_eq_true_eq]
 exact ⟨fun q=>q.2,fun q=>⟨h q.2.2.1.1,q⟩⟩
theorem I64.lohi {x:Int} (h:(Lit.int .i64 x).wf=true) : -9223372036854775808≤x∧x≤9223372036854775807:=⟨I64.lo h,I64.hi h⟩
def ZHG (b:ZaM):Nat→List AV→Mem→Zbj
 | 2,tm,M=>⟨Nat,fun y=>(Zcn (Zcn (ZcC tm [(8, .c (.int .i64 ((y:Nat):Int)))]) 2 3) 9 40,M),fun y=>(y≤List.length b.2.2.2∧(1≤b.2.2.1→∀ j,j < y→¬ Ze9 b j)),fun y=>(List.length b.2.2.2 - y)⟩
 | _,_,_=>⟨Unit,fun _=>([],[]),fun _=>False,fun _=>0⟩
def Zo6 (b:ZaM):List AC:=[.str b.1, .int .i64 b.2.1, .int .i64 b.2.2.1, .hs .no ZaU b.2.2.2]
def ZBh (b:ZaM) (y0:Nat):Prop:=T2 (∃ y0' : Nat,(y0'≤b.2.2.2.length∧(1≤b.2.2.1→∀ j,j < y0'→¬ Ze9 b j))∧(b.2.2.2.length - y0') < (b.2.2.2.length - y0)∧lxs [.ag (Zo6 b), .c (.bp 0 0)] (TN 3 (lxs [.c (.bp 0 3),hn ZaU b.2.2.2,ci b.2.2.2.length] (vI (w64 ((y0:Int) + 1)) y0'∧TN 40 (tpn 19 True))))∧pt (lb (.box (Zo6 b))∧True))
theorem ZHH (b:ZaM):Zam Tryz.prog 269 [.ag (cellsOf Zaj b)] (.c (.bool (Zek b))) []:=by
 refine bc0 [ZcE,Zlf,Zko,ZtO] [] [] [] (ZHG b) Tryz.func269 (fun hwf=>?_)
 refine Eq.mpr (β:=T6 ((∃ q:Nat,(q≤b.2.2.2.length∧(1≤b.2.2.1→∀ j,j < q→¬ Ze9 b j))∧lxs [.ag (Zo6 b), .c (.bp 0 0)] (TN 3 (lxs [.c (.bp 0 3),hn ZaU b.2.2.2,ci b.2.2.2.length] (vI 0 q∧TN 40 (tpn 19 True))))∧pt (lb (.box (Zo6 b))∧True))∧∀ y0:Nat,(y0≤b.2.2.2.length∧(1≤b.2.2.1→∀ j,j < y0→¬ Ze9 b j))→True∧bif ltI y0 b.2.2.2.length then True∧ix 3 y0 b.2.2.2.length∧T4 (pt (true=true)∧T5 (pt True∧T2 (bif !(btw (ZaG b.2.2.2 y0).1 1 (w64 (b.2.2.1 - 1))) then T6 (rB false (Zek b)) else T2 (pt True∧T3 (bif !(Zbt (ZaG b.2.2.2 y0).2.1) then T4 (rB false (Zek b)) else T6 (bif gtI (ByteArray.size (ZaG b.2.2.2 y0).2.2) 40 then T2 (rB false (Zek b)) else T3 (bif gtI y0 0 then T6 (ix 3 (w64 ((y0:Int) - 1)) b.2.2.2.length∧T5 (bif leI (ZaG b.2.2.2 y0).1 (ZaG b.2.2.2 (Int.toNat (w64 ((y0:Int) - 1)))).1 then True∧rB false (Zek b) else ZBh b y0)) else T2 (ZBh b y0)))))))) else T2 (pt True∧True∧bif Zb9 b.1 then T2 (pt True∧T2 (bif btw b.2.1 1 999999999 then T2 (pt True∧T2 (bif btw b.2.2.1 1 999999999 then T6 (rB (leI b.2.2.2.length 6) (Zek b)) else T2 (rB false (Zek b)))) else T4 (rB false (Zek b)))) else T6 (rB false (Zek b))))) (by kernel_rfl) ?_
 unfold ZBh Zo6 T2 T3 T4 T5 T6
 have hm:List.length b.2.2.2≤maxLen:=hwf.1.2.2.2.1.1
 have hnx : -9223372036854775808≤b.2.2.1∧b.2.2.1≤9223372036854775807:=I64.lohi hwf.1.2.2.1
 unfold maxLen at hm
 have w1:1≤b.2.2.1→IntKind.wrap .i64 (b.2.2.1 - 1)=b.2.2.1 - 1:=fun h=>Za3 (by omega) (by omega)
 have w2:=Zh1 (b.2.2.1 - 1)
 simp only [Zbe,Zbl,Zbt,Bool.not_true,Bool.not_false,Zdq,eq_self]
 refine ⟨⟨0,⟨Nat.zero_le _,fun _=>Za7⟩,rfl⟩,fun k hk=>⟨fun hlt=>?_,fun hge=>?_⟩⟩
 ·exact ZyZ
 ·obtain rfl:k=List.length b.2.2.2:=by omega
  have hall:=ZHF hk.2
  repeat' (first | apply And.intro | intro _)
  all_goals first
   | trivial
   | (rw [hall,Bool.eq_iff_iff]; simp_all [Zbe,Zbl,Zce]; done)
   | (rw [hall,Bool.eq_iff_iff]; simp_all [Zbe,Zbl,Zce]; omega)
def ZHI:ZaC Tryz.prog:=⟨269,[.s Zaj],fun x=>True,fun x=>.c (.bool (Zek x.1)),fun _=>[],fun x hx=>ZHH x.1,Tryz.call269⟩
def ZHJ (b:ZaM):Nat→List AV→Mem→Zbj
 | 4,tm,M=>⟨Nat,fun y=>(Zcn (ZcC tm [(2, .any),(3, .c (.int .i64 ((y:Nat):Int))),(4, .any)]) 27 47,M),fun y=>(y≤List.length b.2.2.2∧(1≤b.2.2.1→∀ j,j < y→¬ Ze9 b j)),fun y=>(List.length b.2.2.2 - y)⟩
 | _,_,_=>⟨Unit,fun _=>([],[]),fun _=>False,fun _=>0⟩
def Zo7 (b:ZaM):List AC:=[.str b.1, .int .i64 b.2.1, .int .i64 b.2.2.1, .hs .no ZaU b.2.2.2]
def ZBi (b:ZaM) (y0:Nat):Prop:=T2 (pt True∧T3 (bif !(Zbt (ZaG b.2.2.2 y0).2.1) then T2 (rB false (Zek b)) else T5 (bif gtI (ByteArray.size (ZaG b.2.2.2 y0).2.2) 40 then True∧rB false (Zek b) else T3 (∃ y0' : Nat,(y0'≤b.2.2.2.length∧(1≤b.2.2.1→∀ j,j < y0'→¬ Ze9 b j))∧(b.2.2.2.length - y0') < (b.2.2.2.length - y0)∧lxs [.ag (Zo7 b), .c (.bp 0 0)] (True∧vI (w64 ((y0:Int) + 1)) y0'∧True∧lxs [.c (.bp 0 0), .c (.str b.1), .c (.bool (Zb9 b.1)), .c (.bool (!(Zb9 b.1))), .c (.bool false), .c (.bp 0 1),ci b.2.1, .c (.bool (btw b.2.1 1 999999999)), .c (.bool (!(btw b.2.1 1 999999999))), .c (.bool (!(btw b.2.1 1 999999999))), .c (.bool false), .c (.bp 0 2),ci b.2.2.1, .c (.bool (btw b.2.2.1 1 999999999)), .c (.bool (!(btw b.2.2.1 1 999999999))), .c (.bool (!(btw b.2.2.1 1 999999999))), .c (.bool false), .c (.bp 0 3),hn ZaU b.2.2.2,ci b.2.2.2.length, .c (.bool (gtI b.2.2.2.length 6)), .c (.bool false)] (TN 47 True))∧pt (lb (.box (Zo7 b))∧True)))))
theorem ZHK (b:ZaM):Zam Tryz.prog 289 [.ag (cellsOf Zaj b)] (.c (.bool (Zek b))) []:=by
 refine bc0 [Zkp,Zjt,ZcF,Zlg] [] [] [] (ZHJ b) Tryz.func289 (fun hwf=>?_)
 refine Eq.mpr (β:=T4 (pt True∧T2 (bif !(Zb9 b.1) then T6 (rB false (Zek b)) else T2 (pt True∧T3 (bif !(btw b.2.1 1 999999999) then T4 (rB false (Zek b)) else T2 (pt True∧T3 (bif !(btw b.2.2.1 1 999999999) then T2 (rB false (Zek b)) else T5 (bif gtI b.2.2.2.length 6 then True∧rB false (Zek b) else True∧(∃ q:Nat,(q≤b.2.2.2.length∧(1≤b.2.2.1→∀ j,j < q→¬ Ze9 b j))∧lxs [.ag (Zo7 b), .c (.bp 0 0)] (True∧vI 0 q∧True∧lxs [.c (.bp 0 0), .c (.str b.1), .c (.bool (Zb9 b.1)), .c (.bool (!(Zb9 b.1))), .c (.bool false), .c (.bp 0 1),ci b.2.1, .c (.bool (btw b.2.1 1 999999999)), .c (.bool (!(btw b.2.1 1 999999999))), .c (.bool (!(btw b.2.1 1 999999999))), .c (.bool false), .c (.bp 0 2),ci b.2.2.1, .c (.bool (btw b.2.2.1 1 999999999)), .c (.bool (!(btw b.2.2.1 1 999999999))), .c (.bool (!(btw b.2.2.1 1 999999999))), .c (.bool false), .c (.bp 0 3),hn ZaU b.2.2.2,ci b.2.2.2.length, .c (.bool (gtI b.2.2.2.length 6)), .c (.bool false)] (TN 47 True))∧pt (lb (.box (Zo7 b))∧True))∧∀ y0:Nat,(y0≤b.2.2.2.length∧(1≤b.2.2.1→∀ j,j < y0→¬ Ze9 b j))→T5 (bif ltI y0 b.2.2.2.length then T3 (ix 3 y0 b.2.2.2.length∧T3 (pt (true=true)∧T5 (pt True∧T2 (bif !(btw (ZaG b.2.2.2 y0).1 1 (w64 (b.2.2.1 - 1))) then T6 (rB false (Zek b)) else T3 (bif gtI y0 0 then T4 (ix 3 (w64 ((y0:Int) - 1)) b.2.2.2.length∧T8 (bif geI (ZaG b.2.2.2 (Int.toNat (w64 ((y0:Int) - 1)))).1 (ZaG b.2.2.2 y0).1 then T4 (rB false (Zek b)) else ZBi b y0)) else T3 (ZBi b y0)))))) else True∧rB true (Zek b)))))))))) (by kernel_rfl) ?_
 unfold ZBi Zo7 T2 T3 T4 T5 T6 T8
 have hm:List.length b.2.2.2≤maxLen:=hwf.1.2.2.2.1.1
 have hnx : -9223372036854775808≤b.2.2.1∧b.2.2.1≤9223372036854775807:=I64.lohi hwf.1.2.2.1
 unfold maxLen at hm
 have w1:1≤b.2.2.1→IntKind.wrap .i64 (b.2.2.1 - 1)=b.2.2.1 - 1:=fun h=>Za3 (by omega) (by omega)
 have w2:=Zh1 (b.2.2.1 - 1)
 simp only [Zbe,Zbl,Zbt,Bool.not_true,Bool.not_false,Zdq,eq_self]
 refine ⟨fun h1=>?_,fun h1=>⟨fun h2=>?_,fun h2=>⟨fun h3=>?_,fun h3=>⟨fun h4=>?_,fun h4=>⟨⟨0,⟨Nat.zero_le _,fun _=>Za7⟩,rfl⟩,fun k hk=>⟨fun hlt=>?_,fun hge=>?_⟩⟩⟩⟩⟩⟩
 ·exact (Zrq (fun q=>by rw [q.1] at h1; cases h1)).symm
 ·exact ZrO
 ·exact ZrO
 ·exact ZrO
 ·exact ZyZ
 ·obtain rfl:k=List.length b.2.2.2:=by omega
  exact (ZJK (hk.2 (by omega)) ⟨h1,h2,h3,by omega⟩).symm
def ZHL:ZaC Tryz.prog:=⟨289,[.s Zaj],fun x=>True,fun x=>.c (.bool (Zek x.1)),fun _=>[],fun x hx=>ZHK x.1,Tryz.call289⟩
end Go.Proofs.YtkompmgleojmlaaGreat
