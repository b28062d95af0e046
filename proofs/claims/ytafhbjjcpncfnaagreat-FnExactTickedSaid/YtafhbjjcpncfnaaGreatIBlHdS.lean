import Derived.Test.YtafhbjjcpncfnaaGreatIMarkB
import Derived.Test.YtafhbjjcpncfnaaGreatIBlMkS
set_option linter.unusedSimpArgs false
set_option linter.unusedVariables false
set_option maxRecDepth 100000
set_option maxHeartbeats 4000000
namespace Go.Proofs.YtafhbjjcpncfnaaGreat
open Go.ChangeShapes Go.WideShapes Go.ChangeAt Go.RowKit Go.Joins Go.Deep
open GoRep (rep bulk)
open GoMark (mrk cnt mrkI cntI)
abbrev Za7 (a:List ByteArray) (m:Int):Int:=m + ((cntL a:Nat):Int)
abbrev Zfc (a:List ByteArray) (m:Int):Prop:=markL a m=a∧0≤m∧m + cntL a≤4611686018427387904
def Zpe (a:List ByteArray) (m:Int):Nat→List AV→Mem→Zbd
 | 2,tm,M=>⟨Nat,fun y=>(Zcf (Zct tm [(1, .c (.int .i64 (m + ((cntL (List.take y a):Nat):Int)))),(4, .any),(5, .c (.int .i64 ((y:Nat):Int)))]) 6 15,M),fun y=>(y≤List.length a),fun y=>(List.length a - y)⟩
 | _,_,_=>⟨Unit,fun _=>([],[]),fun _=>False,fun _=>0⟩
theorem Zpf (a:List ByteArray) (m:Int) (hpre:Zfc a m):Zao Tryz.prog 140 [.c (.hs .no Za1 a), .c (.int .i64 m)] (.c (.int .i64 (Za7 a m))) []:=by
 refine bc0 [Zck] [] [] [] (Zpe a m) Tryz.func140 (fun hwf=>?_)
 refine Eq.mpr (β:=T2 ((∃ q:Nat,(q≤a.length)∧lxs [hn Za1 a] (vI m (m + (cntL (List.take q a):Int))∧lxs [.tp [], .tp []] (True∧vI 0 q∧TN 15 (lxs [.tp []] True)))∧pt (True))∧∀ y0:Nat,(y0≤a.length)→T4 (bif ltI y0 a.length then pt (true=true)∧T2 (ix 1 y0 a.length∧T2 (pt (Zgu (m + (cntL (List.take y0 a):Int)))∧True∧bif !eqS (ZaF a y0) (Zcs (m + (cntL (List.take y0 a):Int))) then True∧rI (-1) (Za7 a m) else T6 (∃ y0' : Nat,(y0'≤a.length)∧(a.length - y0') < (a.length - y0)∧lxs [hn Za1 a] (vI (w64 ((m + (cntL (List.take y0 a):Int)) + 1)) (m + (cntL (List.take y0' a):Int))∧lxs [.tp [], .tp []] (True∧vI (w64 ((y0:Int) + 1)) y0'∧TN 15 (lxs [.tp []] True)))∧pt (True)))) else T2 (rI (m + (cntL (List.take y0 a):Int)) (Za7 a m))))) (by kernel_rfl) ?_
 unfold T2 T4 T6
 obtain ⟨hmm,hm0,hm1⟩:=hpre
 have hlm:a.length≤maxLen:=hwf.1.1
 unfold maxLen at hlm
 simp only [SIA,eq_self]
 refine ⟨⟨0,Nat.zero_le _,by simp [cntL],rfl⟩,fun k hk=>⟨fun hlt=>?_,fun hge=>?_⟩⟩
 ·have hlt:k < a.length:=by omega
  have hg:a[k]?=some (ZaF a k):=Zat (t:=Za1) hlt
  have hc:cntL (List.take (k + 1) a)=cntL (List.take k a) + (1):=Zco hg
  have hcl:cntL (List.take (k + 1) a)≤cntL a:=ZdW a (k + 1)
  have hx:=Zeh hmm hg
  have f0:(ZaF a k)=Zcs (m + ((cntL (List.take k a):Nat):Int)):=(congrArg (fun z=>z) hx).trans (by first | rfl | (simp only [GXA]; first | done | omega | (congr 1; omega) | (rw [Zan (by omega),decide_eq_decide]; done) | (rw [Zan (by omega),decide_eq_decide]; omega)))
  simp (disch:=omega) only [ZaX,Za7]
  exact ZeX
 ·exact Ze0
def Zpg:ZaE Tryz.prog:=⟨140,[.v (.list Za1), .v Zax],fun x=>Zfc x.1 x.2.1,fun x=>.c (.int .i64 (Za7 x.1 x.2.1)),fun _=>[],fun x hx=>Zpf x.1 x.2.1 hx,Tryz.call140⟩
abbrev Zbh (a:List Int) (m:Int):Int:=m + ((cntL a:Nat):Int)
abbrev Zfq (a:List Int) (m:Int):Prop:=markL a m=a∧0≤m∧m + cntL a≤4611686018427387904
def Zwl (a:List Int) (m:Int):Nat→List AV→Mem→Zbd
 | 2,tm,M=>⟨Nat,fun y=>(Zcf (Zct tm [(1, .c (.int .i64 (m + ((cntL (List.take y a):Nat):Int)))),(4, .any),(5, .c (.int .i64 ((y:Nat):Int)))]) 6 14,M),fun y=>(y≤List.length a),fun y=>(List.length a - y)⟩
 | _,_,_=>⟨Unit,fun _=>([],[]),fun _=>False,fun _=>0⟩
theorem Zwm (a:List Int) (m:Int) (hpre:Zfq a m):Zao Tryz.prog 13 [.c (.hs .no Zax a), .c (.int .i64 m)] (.c (.int .i64 (Zbh a m))) []:=by
 refine bc0 [] [] [] [] (Zwl a m) Tryz.func13 (fun hwf=>?_)
 refine Eq.mpr (β:=T2 ((∃ q:Nat,(q≤a.length)∧lxs [hn Zax a] (vI m (m + (cntL (List.take q a):Int))∧lxs [.tp [], .tp []] (True∧vI 0 q∧TN 14 (lxs [.tp []] True)))∧pt (True))∧∀ y0:Nat,(y0≤a.length)→T4 (bif ltI y0 a.length then T2 (ix 1 y0 a.length∧T3 (bif neI (Zar a y0) (m + (cntL (List.take y0 a):Int)) then True∧rI (-1) (Zbh a m) else T6 (∃ y0' : Nat,(y0'≤a.length)∧(a.length - y0') < (a.length - y0)∧lxs [hn Zax a] (vI (w64 ((m + (cntL (List.take y0 a):Int)) + 1)) (m + (cntL (List.take y0' a):Int))∧lxs [.tp [], .tp []] (True∧vI (w64 ((y0:Int) + 1)) y0'∧TN 14 (lxs [.tp []] True)))∧pt (True)))) else T2 (rI (m + (cntL (List.take y0 a):Int)) (Zbh a m))))) (by kernel_rfl) ?_
 unfold T2 T3 T4 T6
 obtain ⟨hmm,hm0,hm1⟩:=hpre
 have hlm:a.length≤maxLen:=hwf.1.1
 unfold maxLen at hlm
 simp only [SIA,eq_self]
 refine ⟨⟨0,Nat.zero_le _,by simp [cntL],rfl⟩,fun k hk=>⟨fun hlt=>?_,fun hge=>?_⟩⟩
 ·have hlt:k < a.length:=by omega
  have hg:a[k]?=some (Zar a k):=Zat (t:=Zax) hlt
  have hc:cntL (List.take (k + 1) a)=cntL (List.take k a) + (1):=Zco hg
  have hcl:cntL (List.take (k + 1) a)≤cntL a:=ZdW a (k + 1)
  have hx:=Zeh hmm hg
  have f0:(Zar a k)=m + ((cntL (List.take k a):Nat):Int):=(congrArg (fun z=>z) hx).trans (by first | rfl | (simp only [GXA]; first | done | omega | (congr 1; omega) | (rw [Zan (by omega),decide_eq_decide]; done) | (rw [Zan (by omega),decide_eq_decide]; omega)))
  simp (disch:=omega) only [ZaX,Za7,Zbh]
  exact ZeX
 ·exact Ze0
def Zwn:ZaE Tryz.prog:=⟨13,[.v (.list Zax), .v Zax],fun x=>Zfq x.1 x.2.1,fun x=>.c (.int .i64 (Zbh x.1 x.2.1)),fun _=>[],fun x hx=>Zwm x.1 x.2.1 hx,Tryz.call13⟩
abbrev ZaD (a:List ZaW) (m:Int):Int:=m + ((cntL a:Nat):Int)
abbrev ZfR (a:List ZaW) (m:Int):Prop:=markL a m=a∧0≤m∧m + cntL a≤4611686018427387904
def Zr0 (a:List ZaW) (m:Int):Nat→List AV→Mem→Zbd
 | 2,tm,M=>⟨Nat,fun y=>(Zcf (Zct tm [(1, .c (.int .i64 (m + ((cntL (List.take y a):Nat):Int)))),(4, .any),(5, .c (.int .i64 ((y:Nat):Int)))]) 6 33,M),fun y=>(y≤List.length a),fun y=>(List.length a - y)⟩
 | _,_,_=>⟨Unit,fun _=>([],[]),fun _=>False,fun _=>0⟩
def Zt7 (y0:Nat) (a:List ZaW):Prop:=ix 3 y0 a.length
theorem Zr1 (a:List ZaW) (m:Int) (hpre:ZfR a m):Zao Tryz.prog 63 [.c (.hs .no Zak a), .c (.int .i64 m)] (.c (.int .i64 (ZaD a m))) []:=by
 refine bc0 [Zpg] [] [] [] (Zr0 a m) Tryz.func63 (fun hwf=>?_)
 refine Eq.mpr (β:=T2 ((∃ q:Nat,(q≤a.length)∧lxs [hn Zak a] (vI m (m + (cntL (List.take q a):Int))∧lxs [.tp [], .tp []] (True∧vI 0 q∧TN 33 (lxs [.tp []] True)))∧pt (True))∧∀ y0:Nat,(y0≤a.length)→T4 (bif ltI y0 a.length then T2 (Zt7 y0 a∧T4 (bif neI (Zas a y0).1 (m + (cntL (List.take y0 a):Int)) then True∧rI (-1) (ZaD a m) else T5 (Zt7 y0 a∧T3 (pt (Zfc (Zas a y0).2.1 (w64 ((m + (cntL (List.take y0 a):Int)) + 1)))∧T3 (bif ltI (Za7 (Zas a y0).2.1 (w64 ((m + (cntL (List.take y0 a):Int)) + 1))) 0 then True∧rI (-1) (ZaD a m) else T2 (Zt7 y0 a∧T4 (bif neI (Zas a y0).2.2 (Za7 (Zas a y0).2.1 (w64 ((m + (cntL (List.take y0 a):Int)) + 1))) then True∧rI (-1) (ZaD a m) else T6 (∃ y0' : Nat,(y0'≤a.length)∧(a.length - y0') < (a.length - y0)∧lxs [hn Zak a] (vI (w64 (Za7 (Zas a y0).2.1 (w64 ((m + (cntL (List.take y0 a):Int)) + 1)) + 1)) (m + (cntL (List.take y0' a):Int))∧lxs [.tp [], .tp []] (True∧vI (w64 ((y0:Int) + 1)) y0'∧TN 33 (lxs [.tp []] True)))∧pt (True))))))))) else T2 (rI (m + (cntL (List.take y0 a):Int)) (ZaD a m))))) (by kernel_rfl) ?_
 unfold Zt7 T2 T3 T4 T5 T6
 obtain ⟨hmm,hm0,hm1⟩:=hpre
 have hlm:a.length≤maxLen:=hwf.1.1
 unfold maxLen at hlm
 simp only [SIA,eq_self]
 refine ⟨⟨0,Nat.zero_le _,by simp [cntL],rfl⟩,fun k hk=>⟨fun hlt=>?_,fun hge=>?_⟩⟩
 ·have hlt:k < a.length:=by omega
  have hg:a[k]?=some (Zas a k):=Zat (t:=Zak) hlt
  have hc:cntL (List.take (k + 1) a)=cntL (List.take k a) + (1 + (cntL (Zas a k).2.1 + (1))):=Zco hg
  have hcl:cntL (List.take (k + 1) a)≤cntL a:=ZdW a (k + 1)
  have hx:=Zeh hmm hg
  have f0:(Zas a k).1=m + ((cntL (List.take k a):Nat):Int):=(congrArg (fun z=>z.1) hx).trans (by first | rfl | (simp only [GXA]; first | done | omega | (congr 1; omega) | (rw [Zan (by omega),decide_eq_decide]; done) | (rw [Zan (by omega),decide_eq_decide]; omega)))
  have f1:(Zas a k).2.1=markL ((Zas a k).2.1) (m + ((cntL (List.take k a):Nat):Int) + 1):=(congrArg (fun z=>z.2.1) hx).trans (by first | rfl | (simp only [GXA]; first | done | omega | (congr 1; omega) | (rw [Zan (by omega),decide_eq_decide]; done) | (rw [Zan (by omega),decide_eq_decide]; omega)))
  have f2:(Zas a k).2.2=m + ((cntL (List.take k a):Nat):Int) + 1 + ((cntL ((Zas a k).2.1):Nat):Int):=(congrArg (fun z=>z.2.2) hx).trans (by first | rfl | (simp only [GXA]; first | done | omega | (congr 1; omega) | (rw [Zan (by omega),decide_eq_decide]; done) | (rw [Zan (by omega),decide_eq_decide]; omega)))
  simp (disch:=omega) only [ZaX,Za7,Zbh,ZaD]
  exact ZeX
 ·exact Ze0
def Zr2:ZaE Tryz.prog:=⟨63,[.v (.list Zak), .v Zax],fun x=>ZfR x.1 x.2.1,fun x=>.c (.int .i64 (ZaD x.1 x.2.1)),fun _=>[],fun x hx=>Zr1 x.1 x.2.1 hx,Tryz.call63⟩
abbrev Zbx (a:List Zdr) (m:Int):Int:=m + ((cntL a:Nat):Int)
abbrev ZhP (a:List Zdr) (m:Int):Prop:=markL a m=a∧0≤m∧m + cntL a≤4611686018427387904
def Zwo (a:List Zdr) (m:Int):Nat→List AV→Mem→Zbd
 | 2,tm,M=>⟨Nat,fun y=>(Zcf (Zct tm [(1, .c (.int .i64 (m + ((cntL (List.take y a):Nat):Int)))),(4, .any),(5, .c (.int .i64 ((y:Nat):Int)))]) 6 34,M),fun y=>(y≤List.length a),fun y=>(List.length a - y)⟩
 | _,_,_=>⟨Unit,fun _=>([],[]),fun _=>False,fun _=>0⟩
def Zt8 (y0:Nat) (a:List Zdr):Prop:=ix 3 y0 a.length
theorem Zwp (a:List Zdr) (m:Int) (hpre:ZhP a m):Zao Tryz.prog 139 [.c (.hs .no ZaR a), .c (.int .i64 m)] (.c (.int .i64 (Zbx a m))) []:=by
 refine bc0 [Zck] [] [] [] (Zwo a m) Tryz.func139 (fun hwf=>?_)
 refine Eq.mpr (β:=T2 ((∃ q:Nat,(q≤a.length)∧lxs [hn ZaR a] (vI m (m + (cntL (List.take q a):Int))∧lxs [.tp [], .tp []] (True∧vI 0 q∧TN 34 (lxs [.tp []] True)))∧pt (True))∧∀ y0:Nat,(y0≤a.length)→T4 (bif ltI y0 a.length then T2 (Zt8 y0 a∧T4 (bif neI (ZaG a y0).1 (m + (cntL (List.take y0 a):Int)) then True∧rI (-1) (Zbx a m) else T5 (Zt8 y0 a∧T4 (bif neI (ZaG a y0).2.1 (w64 ((m + (cntL (List.take y0 a):Int)) + 1)) then True∧rI (-1) (Zbx a m) else T3 (pt (true=true)∧T2 (Zt8 y0 a∧T3 (pt (Zgu (w64 ((w64 ((m + (cntL (List.take y0 a):Int)) + 1)) + 1)))∧True∧bif !eqS (ZaG a y0).2.2 (Zcs (w64 ((w64 ((m + (cntL (List.take y0 a):Int)) + 1)) + 1))) then True∧rI (-1) (Zbx a m) else T6 (∃ y0' : Nat,(y0'≤a.length)∧(a.length - y0') < (a.length - y0)∧lxs [hn ZaR a] (vI (w64 ((w64 ((w64 ((m + (cntL (List.take y0 a):Int)) + 1)) + 1)) + 1)) (m + (cntL (List.take y0' a):Int))∧lxs [.tp [], .tp []] (True∧vI (w64 ((y0:Int) + 1)) y0'∧TN 34 (lxs [.tp []] True)))∧pt (True))))))))) else T2 (rI (m + (cntL (List.take y0 a):Int)) (Zbx a m))))) (by kernel_rfl) ?_
 unfold Zt8 T2 T3 T4 T5 T6
 obtain ⟨hmm,hm0,hm1⟩:=hpre
 have hlm:a.length≤maxLen:=hwf.1.1
 unfold maxLen at hlm
 simp only [SIA,eq_self]
 refine ⟨⟨0,Nat.zero_le _,by simp [cntL],rfl⟩,fun k hk=>⟨fun hlt=>?_,fun hge=>?_⟩⟩
 ·have hlt:k < a.length:=by omega
  have hg:a[k]?=some (ZaG a k):=Zat (t:=ZaR) hlt
  have hc:cntL (List.take (k + 1) a)=cntL (List.take k a) + (1 + (1 + (1))):=Zco hg
  have hcl:cntL (List.take (k + 1) a)≤cntL a:=ZdW a (k + 1)
  have hx:=Zeh hmm hg
  have f0:(ZaG a k).1=m + ((cntL (List.take k a):Nat):Int):=(congrArg (fun z=>z.1) hx).trans (by first | rfl | (simp only [GXA]; first | done | omega | (congr 1; omega) | (rw [Zan (by omega),decide_eq_decide]; done) | (rw [Zan (by omega),decide_eq_decide]; omega)))
  have f1:(ZaG a k).2.1=m + ((cntL (List.take k a):Nat):Int) + 1:=(congrArg (fun z=>z.2.1) hx).trans (by first | rfl | (simp only [GXA]; first | done | omega | (congr 1; omega) | (rw [Zan (by omega),decide_eq_decide]; done) | (rw [Zan (by omega),decide_eq_decide]; omega)))
  have f2:(ZaG a k).2.2=Zcs (m + ((cntL (List.take k a):Nat):Int) + 1 + 1):=(congrArg (fun z=>z.2.2) hx).trans (by first | rfl | (simp only [GXA]; first | done | omega | (congr 1; omega) | (rw [Zan (by omega),decide_eq_decide]; done) | (rw [Zan (by omega),decide_eq_decide]; omega)))
  simp (disch:=omega) only [ZaX,Za7,Zbh,ZaD,Zbx]
  exact ZeX
 ·exact Ze0
def Zwq:ZaE Tryz.prog:=⟨139,[.v (.list ZaR), .v Zax],fun x=>ZhP x.1 x.2.1,fun x=>.c (.int .i64 (Zbx x.1 x.2.1)),fun _=>[],fun x hx=>Zwp x.1 x.2.1 hx,Tryz.call139⟩
abbrev Zbk (a:List ZaO) (m:Int):Int:=m + ((cntL a:Nat):Int)
abbrev ZhQ (a:List ZaO) (m:Int):Prop:=markL a m=a∧0≤m∧m + cntL a≤4611686018427387904
def Zwr (a:List ZaO) (m:Int):Nat→List AV→Mem→Zbd
 | 2,tm,M=>⟨Nat,fun y=>(Zcf (Zct tm [(1, .c (.int .i64 (m + ((cntL (List.take y a):Nat):Int)))),(4, .any),(5, .c (.int .i64 ((y:Nat):Int)))]) 6 43,M),fun y=>(y≤List.length a),fun y=>(List.length a - y)⟩
 | _,_,_=>⟨Unit,fun _=>([],[]),fun _=>False,fun _=>0⟩
def Zph (y0:Nat) (a:List ZaO):Prop:=ix 4 y0 a.length
theorem Zws (a:List ZaO) (m:Int) (hpre:ZhQ a m):Zao Tryz.prog 60 [.c (.hs .no Zaj a), .c (.int .i64 m)] (.c (.int .i64 (Zbk a m))) []:=by
 refine bc0 [Zck,Zwq] [] [] [] (Zwr a m) Tryz.func60 (fun hwf=>?_)
 refine Eq.mpr (β:=T2 ((∃ q:Nat,(q≤a.length)∧lxs [hn Zaj a] (vI m (m + (cntL (List.take q a):Int))∧lxs [.tp [], .tp []] (True∧vI 0 q∧TN 43 (lxs [.tp []] True)))∧pt (True))∧∀ y0:Nat,(y0≤a.length)→T4 (bif ltI y0 a.length then pt (true=true)∧T2 (Zph y0 a∧T3 (pt (Zgu (m + (cntL (List.take y0 a):Int)))∧True∧bif !eqS (Zab a y0).1 (Zcs (m + (cntL (List.take y0 a):Int))) then True∧rI (-1) (Zbk a m) else T5 (Zph y0 a∧T4 (bif neI (Zab a y0).2.1 (w64 ((m + (cntL (List.take y0 a):Int)) + 1)) then True∧rI (-1) (Zbk a m) else T5 (Zph y0 a∧T4 (bif neI (Zab a y0).2.2.1 (w64 ((w64 ((m + (cntL (List.take y0 a):Int)) + 1)) + 1)) then True∧rI (-1) (Zbk a m) else T5 (Zph y0 a∧T3 (pt (ZhP (Zab a y0).2.2.2 (w64 ((w64 ((w64 ((m + (cntL (List.take y0 a):Int)) + 1)) + 1)) + 1)))∧T3 (bif ltI (Zbx (Zab a y0).2.2.2 (w64 ((w64 ((w64 ((m + (cntL (List.take y0 a):Int)) + 1)) + 1)) + 1))) 0 then True∧rI (-1) (Zbk a m) else T3 (∃ y0' : Nat,(y0'≤a.length)∧(a.length - y0') < (a.length - y0)∧lxs [hn Zaj a] (vI (Zbx (Zab a y0).2.2.2 (w64 ((w64 ((w64 ((m + (cntL (List.take y0 a):Int)) + 1)) + 1)) + 1))) (m + (cntL (List.take y0' a):Int))∧lxs [.tp [], .tp []] (True∧vI (w64 ((y0:Int) + 1)) y0'∧TN 43 (lxs [.tp []] True)))∧pt (True))))))))))) else T2 (rI (m + (cntL (List.take y0 a):Int)) (Zbk a m))))) (by kernel_rfl) ?_
 unfold Zph T2 T3 T4 T5
 obtain ⟨hmm,hm0,hm1⟩:=hpre
 have hlm:a.length≤maxLen:=hwf.1.1
 unfold maxLen at hlm
 simp only [SIA,eq_self]
 refine ⟨⟨0,Nat.zero_le _,by simp [cntL],rfl⟩,fun k hk=>⟨fun hlt=>?_,fun hge=>?_⟩⟩
 ·have hlt:k < a.length:=by omega
  have hg:a[k]?=some (Zab a k):=Zat (t:=Zaj) hlt
  have hc:cntL (List.take (k + 1) a)=cntL (List.take k a) + (1 + (1 + (1 + (cntL (Zab a k).2.2.2)))):=Zco hg
  have hcl:cntL (List.take (k + 1) a)≤cntL a:=ZdW a (k + 1)
  have hx:=Zeh hmm hg
  have f0:(Zab a k).1=Zcs (m + ((cntL (List.take k a):Nat):Int)):=(congrArg (fun z=>z.1) hx).trans (by first | rfl | (simp only [GXA]; first | done | omega | (congr 1; omega) | (rw [Zan (by omega),decide_eq_decide]; done) | (rw [Zan (by omega),decide_eq_decide]; omega)))
  have f1:(Zab a k).2.1=m + ((cntL (List.take k a):Nat):Int) + 1:=(congrArg (fun z=>z.2.1) hx).trans (by first | rfl | (simp only [GXA]; first | done | omega | (congr 1; omega) | (rw [Zan (by omega),decide_eq_decide]; done) | (rw [Zan (by omega),decide_eq_decide]; omega)))
  have f2:(Zab a k).2.2.1=m + ((cntL (List.take k a):Nat):Int) + 1 + 1:=(congrArg (fun z=>z.2.2.1) hx).trans (by first | rfl | (simp only [GXA]; first | done | omega | (congr 1; omega) | (rw [Zan (by omega),decide_eq_decide]; done) | (rw [Zan (by omega),decide_eq_decide]; omega)))
  have f3:(Zab a k).2.2.2=markL ((Zab a k).2.2.2) (m + ((cntL (List.take k a):Nat):Int) + 1 + 1 + 1):=(congrArg (fun z=>z.2.2.2) hx).trans (by first | rfl | (simp only [GXA]; first | done | omega | (congr 1; omega) | (rw [Zan (by omega),decide_eq_decide]; done) | (rw [Zan (by omega),decide_eq_decide]; omega)))
  simp (disch:=omega) only [ZaX,Za7,Zbh,ZaD,Zbx,Zbk]
  exact ZeX
 ·exact Ze0
def Zwt:ZaE Tryz.prog:=⟨60,[.v (.list Zaj), .v Zax],fun x=>ZhQ x.1 x.2.1,fun x=>.c (.int .i64 (Zbk x.1 x.2.1)),fun _=>[],fun x hx=>Zws x.1 x.2.1 hx,Tryz.call60⟩
abbrev Za9 (a:List ZaA) (m:Int):Int:=m + ((cntL a:Nat):Int)
abbrev Zfd (a:List ZaA) (m:Int):Prop:=markL a m=a∧0≤m∧m + cntL a≤4611686018427387904
def Zpi (a:List ZaA) (m:Int):Nat→List AV→Mem→Zbd
 | 2,tm,M=>⟨Nat,fun y=>(Zcf (Zct tm [(1, .c (.int .i64 (m + ((cntL (List.take y a):Nat):Int)))),(4, .any),(5, .c (.int .i64 ((y:Nat):Int)))]) 6 62,M),fun y=>(y≤List.length a),fun y=>(List.length a - y)⟩
 | _,_,_=>⟨Unit,fun _=>([],[]),fun _=>False,fun _=>0⟩
def Zlt (y0:Nat) (a:List ZaA):Prop:=ix 6 y0 a.length
theorem Zpj (a:List ZaA) (m:Int) (hpre:Zfd a m):Zao Tryz.prog 61 [.c (.hs .no Zag a), .c (.int .i64 m)] (.c (.int .i64 (Za9 a m))) []:=by
 refine bc0 [Zck] [] [] [] (Zpi a m) Tryz.func61 (fun hwf=>?_)
 refine Eq.mpr (β:=T2 ((∃ q:Nat,(q≤a.length)∧lxs [hn Zag a] (vI m (m + (cntL (List.take q a):Int))∧lxs [.tp [], .tp []] (True∧vI 0 q∧TN 62 (lxs [.tp []] True)))∧pt (True))∧∀ y0:Nat,(y0≤a.length)→T4 (bif ltI y0 a.length then T2 (Zlt y0 a∧T4 (bif neI (Zac a y0).1 (m + (cntL (List.take y0 a):Int)) then True∧rI (-1) (Za9 a m) else T5 (Zlt y0 a∧T4 (bif neI (Zac a y0).2.1 (w64 ((m + (cntL (List.take y0 a):Int)) + 1)) then True∧rI (-1) (Za9 a m) else T5 (Zlt y0 a∧T4 (bif neI (Zac a y0).2.2.1 (w64 ((w64 ((m + (cntL (List.take y0 a):Int)) + 1)) + 1)) then True∧rI (-1) (Za9 a m) else T5 (Zlt y0 a∧T4 (bif neI (Zac a y0).2.2.2.1 (w64 ((w64 ((w64 ((m + (cntL (List.take y0 a):Int)) + 1)) + 1)) + 1)) then True∧rI (-1) (Za9 a m) else T3 (pt (true=true)∧T2 (Zlt y0 a∧T3 (pt (Zgu (w64 ((w64 ((w64 ((w64 ((m + (cntL (List.take y0 a):Int)) + 1)) + 1)) + 1)) + 1)))∧True∧bif !eqS (Zac a y0).2.2.2.2.1 (Zcs (w64 ((w64 ((w64 ((w64 ((m + (cntL (List.take y0 a):Int)) + 1)) + 1)) + 1)) + 1))) then True∧rI (-1) (Za9 a m) else T3 (pt (true=true)∧T2 (Zlt y0 a∧T3 (pt (Zgu (w64 ((w64 ((w64 ((w64 ((w64 ((m + (cntL (List.take y0 a):Int)) + 1)) + 1)) + 1)) + 1)) + 1)))∧True∧bif !eqS (Zac a y0).2.2.2.2.2 (Zcs (w64 ((w64 ((w64 ((w64 ((w64 ((m + (cntL (List.take y0 a):Int)) + 1)) + 1)) + 1)) + 1)) + 1))) then True∧rI (-1) (Za9 a m) else T6 (∃ y0' : Nat,(y0'≤a.length)∧(a.length - y0') < (a.length - y0)∧lxs [hn Zag a] (vI (w64 ((w64 ((w64 ((w64 ((w64 ((w64 ((m + (cntL (List.take y0 a):Int)) + 1)) + 1)) + 1)) + 1)) + 1)) + 1)) (m + (cntL (List.take y0' a):Int))∧lxs [.tp [], .tp []] (True∧vI (w64 ((y0:Int) + 1)) y0'∧TN 62 (lxs [.tp []] True)))∧pt (True)))))))))))))))) else T2 (rI (m + (cntL (List.take y0 a):Int)) (Za9 a m))))) (by kernel_rfl) ?_
 unfold Zlt T2 T3 T4 T5 T6
 obtain ⟨hmm,hm0,hm1⟩:=hpre
 have hlm:a.length≤maxLen:=hwf.1.1
 unfold maxLen at hlm
 simp only [SIA,eq_self]
 refine ⟨⟨0,Nat.zero_le _,by simp [cntL],rfl⟩,fun k hk=>⟨fun hlt=>?_,fun hge=>?_⟩⟩
 ·have hlt:k < a.length:=by omega
  have hg:a[k]?=some (Zac a k):=Zat (t:=Zag) hlt
  have hc:cntL (List.take (k + 1) a)=cntL (List.take k a) + (1 + (1 + (1 + (1 + (1 + (1)))))):=Zco hg
  have hcl:cntL (List.take (k + 1) a)≤cntL a:=ZdW a (k + 1)
  have hx:=Zeh hmm hg
  have f0:(Zac a k).1=m + ((cntL (List.take k a):Nat):Int):=(congrArg (fun z=>z.1) hx).trans (by first | rfl | (simp only [GXA]; first | done | omega | (congr 1; omega) | (rw [Zan (by omega),decide_eq_decide]; done) | (rw [Zan (by omega),decide_eq_decide]; omega)))
  have f1:(Zac a k).2.1=m + ((cntL (List.take k a):Nat):Int) + 1:=(congrArg (fun z=>z.2.1) hx).trans (by first | rfl | (simp only [GXA]; first | done | omega | (congr 1; omega) | (rw [Zan (by omega),decide_eq_decide]; done) | (rw [Zan (by omega),decide_eq_decide]; omega)))
  have f2:(Zac a k).2.2.1=m + ((cntL (List.take k a):Nat):Int) + 1 + 1:=(congrArg (fun z=>z.2.2.1) hx).trans (by first | rfl | (simp only [GXA]; first | done | omega | (congr 1; omega) | (rw [Zan (by omega),decide_eq_decide]; done) | (rw [Zan (by omega),decide_eq_decide]; omega)))
  have f3:(Zac a k).2.2.2.1=m + ((cntL (List.take k a):Nat):Int) + 1 + 1 + 1:=(congrArg (fun z=>z.2.2.2.1) hx).trans (by first | rfl | (simp only [GXA]; first | done | omega | (congr 1; omega) | (rw [Zan (by omega),decide_eq_decide]; done) | (rw [Zan (by omega),decide_eq_decide]; omega)))
  have f4:(Zac a k).2.2.2.2.1=Zcs (m + ((cntL (List.take k a):Nat):Int) + 1 + 1 + 1 + 1):=(congrArg (fun z=>z.2.2.2.2.1) hx).trans (by first | rfl | (simp only [GXA]; first | done | omega | (congr 1; omega) | (rw [Zan (by omega),decide_eq_decide]; done) | (rw [Zan (by omega),decide_eq_decide]; omega)))
  have f5:(Zac a k).2.2.2.2.2=Zcs (m + ((cntL (List.take k a):Nat):Int) + 1 + 1 + 1 + 1 + 1):=(congrArg (fun z=>z.2.2.2.2.2) hx).trans (by first | rfl | (simp only [GXA]; first | done | omega | (congr 1; omega) | (rw [Zan (by omega),decide_eq_decide]; done) | (rw [Zan (by omega),decide_eq_decide]; omega)))
  simp (disch:=omega) only [ZaX,Za7,Zbh,ZaD,Zbx,Zbk,Za9]
  exact ZeX
 ·exact Ze0
def Zpk:ZaE Tryz.prog:=⟨61,[.v (.list Zag), .v Zax],fun x=>Zfd x.1 x.2.1,fun x=>.c (.int .i64 (Za9 x.1 x.2.1)),fun _=>[],fun x hx=>Zpj x.1 x.2.1 hx,Tryz.call61⟩
abbrev ZbE (a:ZaI) (m:Int):Int:=m + ((cntI a:Nat):Int)
abbrev ZgF (a:ZaI) (m:Int):Prop:=mrkI a m=a∧0≤m∧m + cntI a≤4611686018427387904
theorem Zt9 (a:ZaI) (m:Int) (hpre:ZgF a m):Zao Tryz.prog 28 [.ag (cellsOf ZbJ a), .c (.int .i64 m)] (.c (.int .i64 (ZbE a m))) []:=by
 refine bc0 [Zwt,Zpk] [] [] [] L0 Tryz.func28 (fun hwf=>?_)
 refine Eq.mpr (β:=T5 (pt (ZhQ a.1 m)∧T3 (bif ltI (Zbk a.1 m) 0 then True∧rI (-1) (ZbE a m) else T3 (pt (Zfd a.2.1 (Zbk a.1 m))∧T3 (bif ltI (Za9 a.2.1 (Zbk a.1 m)) 0 then True∧rI (-1) (ZbE a m) else T2 (rI (Za9 a.2.1 (Zbk a.1 m)) (ZbE a m))))))) (by kernel_rfl) ?_
 obtain ⟨hmm,hm0,hm1⟩:=hpre
 have hc0:cntI a=cntL a.1 + (cntL a.2.1 + (0)):=rfl
 have g0:markL a.1 (m)=a.1:=by
  have h0:a.1=markL a.1 (m):=congrArg (fun z:ZaI=>z.1) hmm.symm
  exact Zz0
 have g1:markL a.2.1 (m + ((cntL a.1:Nat):Int))=a.2.1:=by
  have h0:a.2.1=markL a.2.1 (m + ((cntI a.1:Nat):Int)):=congrArg (fun z:ZaI=>z.2.1) hmm.symm
  have hK:m + ((cntI a.1:Nat):Int)=m + ((cntL a.1:Nat):Int):=by first | rfl | (simp only [gc1,gc2,gc3,gc4]; omega) | omega
  rw [hK] at h0
  exact h0.symm
 simp only [SIA,eq_self]
 simp only [Za7,Zbh,ZaD,Zbx,Zbk,Za9,ZbE]
 exact Zzx
def Zua:ZaE Tryz.prog:=⟨28,[.s ZbJ, .v Zax],fun x=>ZgF x.1 x.2.1,fun x=>.c (.int .i64 (ZbE x.1 x.2.1)),fun _=>[],fun x hx=>Zt9 x.1 x.2.1 hx,Tryz.call28⟩
abbrev ZaQ (a:List ZbT) (m:Int):Int:=m + ((cntL a:Nat):Int)
abbrev ZgG (a:List ZbT) (m:Int):Prop:=markL a m=a∧0≤m∧m + cntL a≤4611686018427387904
def Zub (a:List ZbT) (m:Int):Nat→List AV→Mem→Zbd
 | 2,tm,M=>⟨Nat,fun y=>(Zcf (Zct tm [(1, .c (.int .i64 (m + ((cntL (List.take y a):Nat):Int)))),(4, .any),(5, .c (.int .i64 ((y:Nat):Int)))]) 6 24,M),fun y=>(y≤List.length a),fun y=>(List.length a - y)⟩
 | _,_,_=>⟨Unit,fun _=>([],[]),fun _=>False,fun _=>0⟩
theorem Zuc (a:List ZbT) (m:Int) (hpre:ZgG a m):Zao Tryz.prog 62 [.c (.hs .no Zay a), .c (.int .i64 m)] (.c (.int .i64 (ZaQ a m))) []:=by
 refine bc0 [] [] [] [] (Zub a m) Tryz.func62 (fun hwf=>?_)
 refine Eq.mpr (β:=T2 ((∃ q:Nat,(q≤a.length)∧lxs [hn Zay a] (vI m (m + (cntL (List.take q a):Int))∧lxs [.tp [], .tp []] (True∧vI 0 q∧TN 24 (lxs [.tp []] True)))∧pt (True))∧∀ y0:Nat,(y0≤a.length)→T4 (bif ltI y0 a.length then T2 (ix 2 y0 a.length∧T4 (bif neI (ZaV a y0).1 (m + (cntL (List.take y0 a):Int)) then True∧rI (-1) (ZaQ a m) else T5 (ix 2 y0 a.length∧T4 (bif neI (ZaV a y0).2 (w64 ((m + (cntL (List.take y0 a):Int)) + 1)) then True∧rI (-1) (ZaQ a m) else T6 (∃ y0' : Nat,(y0'≤a.length)∧(a.length - y0') < (a.length - y0)∧lxs [hn Zay a] (vI (w64 ((w64 ((m + (cntL (List.take y0 a):Int)) + 1)) + 1)) (m + (cntL (List.take y0' a):Int))∧lxs [.tp [], .tp []] (True∧vI (w64 ((y0:Int) + 1)) y0'∧TN 24 (lxs [.tp []] True)))∧pt (True)))))) else T2 (rI (m + (cntL (List.take y0 a):Int)) (ZaQ a m))))) (by kernel_rfl) ?_
 unfold T2 T4 T5 T6
 obtain ⟨hmm,hm0,hm1⟩:=hpre
 have hlm:a.length≤maxLen:=hwf.1.1
 unfold maxLen at hlm
 simp only [SIA,eq_self]
 refine ⟨⟨0,Nat.zero_le _,by simp [cntL],rfl⟩,fun k hk=>⟨fun hlt=>?_,fun hge=>?_⟩⟩
 ·have hlt:k < a.length:=by omega
  have hg:a[k]?=some (ZaV a k):=Zat (t:=Zay) hlt
  have hc:cntL (List.take (k + 1) a)=cntL (List.take k a) + (1 + (1)):=Zco hg
  have hcl:cntL (List.take (k + 1) a)≤cntL a:=ZdW a (k + 1)
  have hx:=Zeh hmm hg
  have f0:(ZaV a k).1=m + ((cntL (List.take k a):Nat):Int):=(congrArg (fun z=>z.1) hx).trans (by first | rfl | (simp only [GXA]; first | done | omega | (congr 1; omega) | (rw [Zan (by omega),decide_eq_decide]; done) | (rw [Zan (by omega),decide_eq_decide]; omega)))
  have f1:(ZaV a k).2=m + ((cntL (List.take k a):Nat):Int) + 1:=(congrArg (fun z=>z.2) hx).trans (by first | rfl | (simp only [GXA]; first | done | omega | (congr 1; omega) | (rw [Zan (by omega),decide_eq_decide]; done) | (rw [Zan (by omega),decide_eq_decide]; omega)))
  simp (disch:=omega) only [ZaX,Za7,Zbh,ZaD,Zbx,Zbk,Za9,ZbE,ZaQ]
  exact ZeX
 ·exact Ze0
def Zud:ZaE Tryz.prog:=⟨62,[.v (.list Zay), .v Zax],fun x=>ZgG x.1 x.2.1,fun x=>.c (.int .i64 (ZaQ x.1 x.2.1)),fun _=>[],fun x hx=>Zuc x.1 x.2.1 hx,Tryz.call62⟩
abbrev Za5 (a:List ZaM) (m:Int):Int:=m + ((cntL a:Nat):Int)
abbrev ZgH (a:List ZaM) (m:Int):Prop:=markL a m=a∧0≤m∧m + cntL a≤4611686018427387904
def Zue (a:List ZaM) (m:Int):Nat→List AV→Mem→Zbd
 | 2,tm,M=>⟨Nat,fun y=>(Zcf (Zct tm [(1, .c (.int .i64 (m + ((cntL (List.take y a):Nat):Int)))),(4, .any),(5, .c (.int .i64 ((y:Nat):Int)))]) 6 43,M),fun y=>(y≤List.length a),fun y=>(List.length a - y)⟩
 | _,_,_=>⟨Unit,fun _=>([],[]),fun _=>False,fun _=>0⟩
def Zpl (y0:Nat) (a:List ZaM):Prop:=ix 4 y0 a.length
theorem Zuf (a:List ZaM) (m:Int) (hpre:ZgH a m):Zao Tryz.prog 64 [.c (.hs .no Zal a), .c (.int .i64 m)] (.c (.int .i64 (Za5 a m))) []:=by
 refine bc0 [Zck] [] [] [] (Zue a m) Tryz.func64 (fun hwf=>?_)
 refine Eq.mpr (β:=T2 ((∃ q:Nat,(q≤a.length)∧lxs [hn Zal a] (vI m (m + (cntL (List.take q a):Int))∧lxs [.tp [], .tp []] (True∧vI 0 q∧TN 43 (lxs [.tp []] True)))∧pt (True))∧∀ y0:Nat,(y0≤a.length)→T4 (bif ltI y0 a.length then T2 (Zpl y0 a∧T4 (bif neI (Zaf a y0).1 (m + (cntL (List.take y0 a):Int)) then True∧rI (-1) (Za5 a m) else T5 (Zpl y0 a∧T4 (bif neI (Zaf a y0).2.1 (w64 ((m + (cntL (List.take y0 a):Int)) + 1)) then True∧rI (-1) (Za5 a m) else T5 (Zpl y0 a∧T4 (bif neI (Zaf a y0).2.2.1 (w64 ((w64 ((m + (cntL (List.take y0 a):Int)) + 1)) + 1)) then True∧rI (-1) (Za5 a m) else T3 (pt (true=true)∧T2 (Zpl y0 a∧T3 (pt (Zgu (w64 ((w64 ((w64 ((m + (cntL (List.take y0 a):Int)) + 1)) + 1)) + 1)))∧True∧bif !eqS (Zaf a y0).2.2.2 (Zcs (w64 ((w64 ((w64 ((m + (cntL (List.take y0 a):Int)) + 1)) + 1)) + 1))) then True∧rI (-1) (Za5 a m) else T6 (∃ y0' : Nat,(y0'≤a.length)∧(a.length - y0') < (a.length - y0)∧lxs [hn Zal a] (vI (w64 ((w64 ((w64 ((w64 ((m + (cntL (List.take y0 a):Int)) + 1)) + 1)) + 1)) + 1)) (m + (cntL (List.take y0' a):Int))∧lxs [.tp [], .tp []] (True∧vI (w64 ((y0:Int) + 1)) y0'∧TN 43 (lxs [.tp []] True)))∧pt (True))))))))))) else T2 (rI (m + (cntL (List.take y0 a):Int)) (Za5 a m))))) (by kernel_rfl) ?_
 unfold Zpl T2 T3 T4 T5 T6
 obtain ⟨hmm,hm0,hm1⟩:=hpre
 have hlm:a.length≤maxLen:=hwf.1.1
 unfold maxLen at hlm
 simp only [SIA,eq_self]
 refine ⟨⟨0,Nat.zero_le _,by simp [cntL],rfl⟩,fun k hk=>⟨fun hlt=>?_,fun hge=>?_⟩⟩
 ·have hlt:k < a.length:=by omega
  have hg:a[k]?=some (Zaf a k):=Zat (t:=Zal) hlt
  have hc:cntL (List.take (k + 1) a)=cntL (List.take k a) + (1 + (1 + (1 + (1)))):=Zco hg
  have hcl:cntL (List.take (k + 1) a)≤cntL a:=ZdW a (k + 1)
  have hx:=Zeh hmm hg
  have f0:(Zaf a k).1=m + ((cntL (List.take k a):Nat):Int):=(congrArg (fun z=>z.1) hx).trans (by first | rfl | (simp only [GXA]; first | done | omega | (congr 1; omega) | (rw [Zan (by omega),decide_eq_decide]; done) | (rw [Zan (by omega),decide_eq_decide]; omega)))
  have f1:(Zaf a k).2.1=m + ((cntL (List.take k a):Nat):Int) + 1:=(congrArg (fun z=>z.2.1) hx).trans (by first | rfl | (simp only [GXA]; first | done | omega | (congr 1; omega) | (rw [Zan (by omega),decide_eq_decide]; done) | (rw [Zan (by omega),decide_eq_decide]; omega)))
  have f2:(Zaf a k).2.2.1=m + ((cntL (List.take k a):Nat):Int) + 1 + 1:=(congrArg (fun z=>z.2.2.1) hx).trans (by first | rfl | (simp only [GXA]; first | done | omega | (congr 1; omega) | (rw [Zan (by omega),decide_eq_decide]; done) | (rw [Zan (by omega),decide_eq_decide]; omega)))
  have f3:(Zaf a k).2.2.2=Zcs (m + ((cntL (List.take k a):Nat):Int) + 1 + 1 + 1):=(congrArg (fun z=>z.2.2.2) hx).trans (by first | rfl | (simp only [GXA]; first | done | omega | (congr 1; omega) | (rw [Zan (by omega),decide_eq_decide]; done) | (rw [Zan (by omega),decide_eq_decide]; omega)))
  simp (disch:=omega) only [ZaX,Za7,Zbh,ZaD,Zbx,Zbk,Za9,ZbE,ZaQ,Za5]
  exact ZeX
 ·exact Ze0
def Zug:ZaE Tryz.prog:=⟨64,[.v (.list Zal), .v Zax],fun x=>ZgH x.1 x.2.1,fun x=>.c (.int .i64 (Za5 x.1 x.2.1)),fun _=>[],fun x hx=>Zuf x.1 x.2.1 hx,Tryz.call64⟩
set_option maxRecDepth 100000
set_option maxHeartbeats 4000000
abbrev Zb9 (a:List Zad) (m:Int):Int:=m + ((cntL a:Nat):Int)
abbrev ZeL (a:List Zad) (m:Int):Prop:=markL a m=a∧0≤m∧m + cntL a≤4611686018427387904
def Zom (a:List Zad) (m:Int):Nat→List AV→Mem→Zbd
 | 2,tm,M=>⟨Nat,fun y=>(Zcf (Zct tm [(1, .c (.int .i64 (m + ((cntL (List.take y a):Nat):Int)))),(4, .any),(5, .c (.int .i64 ((y:Nat):Int)))]) 6 184,M),fun y=>(y≤List.length a),fun y=>(List.length a - y)⟩
 | _,_,_=>⟨Unit,fun _=>([],[]),fun _=>False,fun _=>0⟩
def ZdS (y0:Nat) (a:List Zad):Prop:=ix 17 y0 a.length
def ZdT (a:List Zad) (m:Int):Prop:=True∧rI (-1) (Zb9 a m)
theorem Zon (a:List Zad) (m:Int) (hpre:ZeL a m):Zao Tryz.prog 29 [.c (.hs .no Zae a), .c (.int .i64 m)] (.c (.int .i64 (Zb9 a m))) []:=by
 refine bc0 [Zud,Zr2,Zck,Zug] [] [] [] (Zom a m) Tryz.func29 (fun hwf=>?_)
 refine Eq.mpr (β:=T2 ((∃ q:Nat,(q≤a.length)∧lxs [hn Zae a] (vI m (m + (cntL (List.take q a):Int))∧lxs [.tp [], .tp []] (True∧vI 0 q∧TN 184 (lxs [.tp []] True)))∧pt (True))∧∀ y0:Nat,(y0≤a.length)→T4 (bif ltI y0 a.length then T2 (ZdS y0 a∧T3 ((3:Int) ≠ 0∧True∧some TypeDesc.bool=some TypeDesc.bool∧bif !eqO (Zaa a y0).1 (eqI (Int.tmod (m + (cntL (List.take y0 a):Int)) 3) 0) then ZdT a m else T5 (ZdS y0 a∧T4 (bif neI (Zaa a y0).2.1 (w64 ((m + (cntL (List.take y0 a):Int)) + 1)) then ZdT a m else T5 (ZdS y0 a∧T4 (bif neI (Zaa a y0).2.2.1 (w64 ((w64 ((m + (cntL (List.take y0 a):Int)) + 1)) + 1)) then ZdT a m else T5 (ZdS y0 a∧T4 (bif neI (Zaa a y0).2.2.2.1 (w64 ((w64 ((w64 ((m + (cntL (List.take y0 a):Int)) + 1)) + 1)) + 1)) then ZdT a m else T5 (ZdS y0 a∧T4 (pt (ZgG (Zaa a y0).2.2.2.2.1 (w64 ((w64 ((w64 ((w64 ((m + (cntL (List.take y0 a):Int)) + 1)) + 1)) + 1)) + 1)))∧T3 (bif ltI (ZaQ (Zaa a y0).2.2.2.2.1 (w64 ((w64 ((w64 ((w64 ((m + (cntL (List.take y0 a):Int)) + 1)) + 1)) + 1)) + 1))) 0 then ZdT a m else T2 (ZdS y0 a∧T4 ((3:Int) ≠ 0∧True∧some TypeDesc.bool=some TypeDesc.bool∧bif !eqO (Zaa a y0).2.2.2.2.2.1.1 (eqI (Int.tmod (ZaQ (Zaa a y0).2.2.2.2.1 (w64 ((w64 ((w64 ((w64 ((m + (cntL (List.take y0 a):Int)) + 1)) + 1)) + 1)) + 1))) 3) 0) then ZdT a m else T5 (ZdS y0 a∧T4 (pt (ZfR (Zaa a y0).2.2.2.2.2.1.2 (w64 (ZaQ (Zaa a y0).2.2.2.2.1 (w64 ((w64 ((w64 ((w64 ((m + (cntL (List.take y0 a):Int)) + 1)) + 1)) + 1)) + 1)) + 1)))∧T3 (bif ltI (ZaD (Zaa a y0).2.2.2.2.2.1.2 (w64 (ZaQ (Zaa a y0).2.2.2.2.1 (w64 ((w64 ((w64 ((w64 ((m + (cntL (List.take y0 a):Int)) + 1)) + 1)) + 1)) + 1)) + 1))) 0 then ZdT a m else pt (true=true)∧T2 (ZdS y0 a∧T3 (pt (Zgu (ZaD (Zaa a y0).2.2.2.2.2.1.2 (w64 (ZaQ (Zaa a y0).2.2.2.2.1 (w64 ((w64 ((w64 ((w64 ((m + (cntL (List.take y0 a):Int)) + 1)) + 1)) + 1)) + 1)) + 1))))∧True∧bif !eqS (Zaa a y0).2.2.2.2.2.2.1 (Zcs (ZaD (Zaa a y0).2.2.2.2.2.1.2 (w64 (ZaQ (Zaa a y0).2.2.2.2.1 (w64 ((w64 ((w64 ((w64 ((m + (cntL (List.take y0 a):Int)) + 1)) + 1)) + 1)) + 1)) + 1)))) then ZdT a m else T3 (pt (true=true)∧T2 (ZdS y0 a∧T3 (pt (Zgu (w64 (ZaD (Zaa a y0).2.2.2.2.2.1.2 (w64 (ZaQ (Zaa a y0).2.2.2.2.1 (w64 ((w64 ((w64 ((w64 ((m + (cntL (List.take y0 a):Int)) + 1)) + 1)) + 1)) + 1)) + 1)) + 1)))∧True∧bif !eqS (Zaa a y0).2.2.2.2.2.2.2.1 (Zcs (w64 (ZaD (Zaa a y0).2.2.2.2.2.1.2 (w64 (ZaQ (Zaa a y0).2.2.2.2.1 (w64 ((w64 ((w64 ((w64 ((m + (cntL (List.take y0 a):Int)) + 1)) + 1)) + 1)) + 1)) + 1)) + 1))) then ZdT a m else T5 (ZdS y0 a∧T4 (pt (ZgH (Zaa a y0).2.2.2.2.2.2.2.2.1.1 (w64 ((w64 (ZaD (Zaa a y0).2.2.2.2.2.1.2 (w64 (ZaQ (Zaa a y0).2.2.2.2.1 (w64 ((w64 ((w64 ((w64 ((m + (cntL (List.take y0 a):Int)) + 1)) + 1)) + 1)) + 1)) + 1)) + 1)) + 1)))∧T3 (bif ltI (Za5 (Zaa a y0).2.2.2.2.2.2.2.2.1.1 (w64 ((w64 (ZaD (Zaa a y0).2.2.2.2.2.1.2 (w64 (ZaQ (Zaa a y0).2.2.2.2.1 (w64 ((w64 ((w64 ((w64 ((m + (cntL (List.take y0 a):Int)) + 1)) + 1)) + 1)) + 1)) + 1)) + 1)) + 1))) 0 then ZdT a m else T2 (ZdS y0 a∧T4 ((3:Int) ≠ 0∧True∧some TypeDesc.bool=some TypeDesc.bool∧bif !eqO (Zaa a y0).2.2.2.2.2.2.2.2.1.2.1 (eqI (Int.tmod (Za5 (Zaa a y0).2.2.2.2.2.2.2.2.1.1 (w64 ((w64 (ZaD (Zaa a y0).2.2.2.2.2.1.2 (w64 (ZaQ (Zaa a y0).2.2.2.2.1 (w64 ((w64 ((w64 ((w64 ((m + (cntL (List.take y0 a):Int)) + 1)) + 1)) + 1)) + 1)) + 1)) + 1)) + 1))) 3) 0) then ZdT a m else T5 (ZdS y0 a∧T4 ((3:Int) ≠ 0∧True∧some TypeDesc.bool=some TypeDesc.bool∧bif !eqO (Zaa a y0).2.2.2.2.2.2.2.2.1.2.2 (eqI (Int.tmod (w64 (Za5 (Zaa a y0).2.2.2.2.2.2.2.2.1.1 (w64 ((w64 (ZaD (Zaa a y0).2.2.2.2.2.1.2 (w64 (ZaQ (Zaa a y0).2.2.2.2.1 (w64 ((w64 ((w64 ((w64 ((m + (cntL (List.take y0 a):Int)) + 1)) + 1)) + 1)) + 1)) + 1)) + 1)) + 1)) + 1)) 3) 0) then ZdT a m else T3 (pt (true=true)∧T2 (ZdS y0 a∧T4 (pt (Zgu (w64 ((w64 (Za5 (Zaa a y0).2.2.2.2.2.2.2.2.1.1 (w64 ((w64 (ZaD (Zaa a y0).2.2.2.2.2.1.2 (w64 (ZaQ (Zaa a y0).2.2.2.2.1 (w64 ((w64 ((w64 ((w64 ((m + (cntL (List.take y0 a):Int)) + 1)) + 1)) + 1)) + 1)) + 1)) + 1)) + 1)) + 1)) + 1)))∧True∧bif !eqS (Zaa a y0).2.2.2.2.2.2.2.2.2.1.1 (Zcs (w64 ((w64 (Za5 (Zaa a y0).2.2.2.2.2.2.2.2.1.1 (w64 ((w64 (ZaD (Zaa a y0).2.2.2.2.2.1.2 (w64 (ZaQ (Zaa a y0).2.2.2.2.1 (w64 ((w64 ((w64 ((w64 ((m + (cntL (List.take y0 a):Int)) + 1)) + 1)) + 1)) + 1)) + 1)) + 1)) + 1)) + 1)) + 1))) then ZdT a m else T5 (ZdS y0 a∧T4 ((3:Int) ≠ 0∧True∧some TypeDesc.bool=some TypeDesc.bool∧bif !eqO (Zaa a y0).2.2.2.2.2.2.2.2.2.1.2 (eqI (Int.tmod (w64 ((w64 ((w64 (Za5 (Zaa a y0).2.2.2.2.2.2.2.2.1.1 (w64 ((w64 (ZaD (Zaa a y0).2.2.2.2.2.1.2 (w64 (ZaQ (Zaa a y0).2.2.2.2.1 (w64 ((w64 ((w64 ((w64 ((m + (cntL (List.take y0 a):Int)) + 1)) + 1)) + 1)) + 1)) + 1)) + 1)) + 1)) + 1)) + 1)) + 1)) 3) 0) then ZdT a m else T3 (pt (true=true)∧T2 (ZdS y0 a∧T4 (pt (Zgu (w64 ((w64 ((w64 ((w64 (Za5 (Zaa a y0).2.2.2.2.2.2.2.2.1.1 (w64 ((w64 (ZaD (Zaa a y0).2.2.2.2.2.1.2 (w64 (ZaQ (Zaa a y0).2.2.2.2.1 (w64 ((w64 ((w64 ((w64 ((m + (cntL (List.take y0 a):Int)) + 1)) + 1)) + 1)) + 1)) + 1)) + 1)) + 1)) + 1)) + 1)) + 1)) + 1)))∧True∧bif !eqS (Zaa a y0).2.2.2.2.2.2.2.2.2.2.1.1 (Zcs (w64 ((w64 ((w64 ((w64 (Za5 (Zaa a y0).2.2.2.2.2.2.2.2.1.1 (w64 ((w64 (ZaD (Zaa a y0).2.2.2.2.2.1.2 (w64 (ZaQ (Zaa a y0).2.2.2.2.1 (w64 ((w64 ((w64 ((w64 ((m + (cntL (List.take y0 a):Int)) + 1)) + 1)) + 1)) + 1)) + 1)) + 1)) + 1)) + 1)) + 1)) + 1)) + 1))) then ZdT a m else T3 (pt (true=true)∧T2 (ZdS y0 a∧T4 (pt (Zgu (w64 ((w64 ((w64 ((w64 ((w64 (Za5 (Zaa a y0).2.2.2.2.2.2.2.2.1.1 (w64 ((w64 (ZaD (Zaa a y0).2.2.2.2.2.1.2 (w64 (ZaQ (Zaa a y0).2.2.2.2.1 (w64 ((w64 ((w64 ((w64 ((m + (cntL (List.take y0 a):Int)) + 1)) + 1)) + 1)) + 1)) + 1)) + 1)) + 1)) + 1)) + 1)) + 1)) + 1)) + 1)))∧True∧bif !eqS (Zaa a y0).2.2.2.2.2.2.2.2.2.2.1.2 (Zcs (w64 ((w64 ((w64 ((w64 ((w64 (Za5 (Zaa a y0).2.2.2.2.2.2.2.2.1.1 (w64 ((w64 (ZaD (Zaa a y0).2.2.2.2.2.1.2 (w64 (ZaQ (Zaa a y0).2.2.2.2.1 (w64 ((w64 ((w64 ((w64 ((m + (cntL (List.take y0 a):Int)) + 1)) + 1)) + 1)) + 1)) + 1)) + 1)) + 1)) + 1)) + 1)) + 1)) + 1)) + 1))) then ZdT a m else T5 (ZdS y0 a∧T4 (bif neI (Zaa a y0).2.2.2.2.2.2.2.2.2.2.2 (w64 ((w64 ((w64 ((w64 ((w64 ((w64 (Za5 (Zaa a y0).2.2.2.2.2.2.2.2.1.1 (w64 ((w64 (ZaD (Zaa a y0).2.2.2.2.2.1.2 (w64 (ZaQ (Zaa a y0).2.2.2.2.1 (w64 ((w64 ((w64 ((w64 ((m + (cntL (List.take y0 a):Int)) + 1)) + 1)) + 1)) + 1)) + 1)) + 1)) + 1)) + 1)) + 1)) + 1)) + 1)) + 1)) + 1)) then ZdT a m else T6 (∃ y0' : Nat,(y0'≤a.length)∧(a.length - y0') < (a.length - y0)∧lxs [hn Zae a] (vI (w64 ((w64 ((w64 ((w64 ((w64 ((w64 ((w64 (Za5 (Zaa a y0).2.2.2.2.2.2.2.2.1.1 (w64 ((w64 (ZaD (Zaa a y0).2.2.2.2.2.1.2 (w64 (ZaQ (Zaa a y0).2.2.2.2.1 (w64 ((w64 ((w64 ((w64 ((m + (cntL (List.take y0 a):Int)) + 1)) + 1)) + 1)) + 1)) + 1)) + 1)) + 1)) + 1)) + 1)) + 1)) + 1)) + 1)) + 1)) + 1)) (m + (cntL (List.take y0' a):Int))∧lxs [.tp [], .tp []] (True∧vI (w64 ((y0:Int) + 1)) y0'∧TN 184 (lxs [.tp []] True)))∧pt (True))))))))))))))))))))))))))))))))))))))))))) else T2 (rI (m + (cntL (List.take y0 a):Int)) (Zb9 a m))))) (by kernel_rfl) ?_
 unfold ZdT ZdS T2 T3 T4 T5 T6
 obtain ⟨hmm,hm0,hm1⟩:=hpre
 have hlm:a.length≤maxLen:=hwf.1.1
 unfold maxLen at hlm
 simp only [SIA,eq_self]
 refine ⟨⟨0,Nat.zero_le _,by simp [cntL],rfl⟩,fun k hk=>⟨fun hlt=>?_,fun hge=>?_⟩⟩
 ·have hlt:k < a.length:=by omega
  have hg:a[k]?=some (Zaa a k):=Zat (t:=Zae) hlt
  have hc:cntL (List.take (k + 1) a)=cntL (List.take k a) + (1 + (1 + (1 + (1 + (cntL (Zaa a k).2.2.2.2.1 + (1 + (cntL (Zaa a k).2.2.2.2.2.1.2) + (1 + (1 + (cntL (Zaa a k).2.2.2.2.2.2.2.2.1.1 + (1 + (1)) + (1 + (1) + (1 + (1) + (1)))))))))))):=Zco hg
  have hcl:cntL (List.take (k + 1) a)≤cntL a:=ZdW a (k + 1)
  have hx:=Zeh hmm hg
  have f0:(Zaa a k).1=eqI (Int.tmod (m + ((cntL (List.take k a):Nat):Int)) 3) 0:=(congrArg (fun z=>z.1) hx).trans (by first | rfl | (simp only [GXA]; first | done | omega | (congr 1; omega) | (rw [Zan (by omega),decide_eq_decide]; done) | (rw [Zan (by omega),decide_eq_decide]; omega)))
  have f1:(Zaa a k).2.1=m + ((cntL (List.take k a):Nat):Int) + 1:=(congrArg (fun z=>z.2.1) hx).trans (by first | rfl | (simp only [GXA]; first | done | omega | (congr 1; omega) | (rw [Zan (by omega),decide_eq_decide]; done) | (rw [Zan (by omega),decide_eq_decide]; omega)))
  have f2:(Zaa a k).2.2.1=m + ((cntL (List.take k a):Nat):Int) + 1 + 1:=(congrArg (fun z=>z.2.2.1) hx).trans (by first | rfl | (simp only [GXA]; first | done | omega | (congr 1; omega) | (rw [Zan (by omega),decide_eq_decide]; done) | (rw [Zan (by omega),decide_eq_decide]; omega)))
  have f3:(Zaa a k).2.2.2.1=m + ((cntL (List.take k a):Nat):Int) + 1 + 1 + 1:=(congrArg (fun z=>z.2.2.2.1) hx).trans (by first | rfl | (simp only [GXA]; first | done | omega | (congr 1; omega) | (rw [Zan (by omega),decide_eq_decide]; done) | (rw [Zan (by omega),decide_eq_decide]; omega)))
  have f4:(Zaa a k).2.2.2.2.1=markL ((Zaa a k).2.2.2.2.1) (m + ((cntL (List.take k a):Nat):Int) + 1 + 1 + 1 + 1):=(congrArg (fun z=>z.2.2.2.2.1) hx).trans (by first | rfl | (simp only [GXA]; first | done | omega | (congr 1; omega) | (rw [Zan (by omega),decide_eq_decide]; done) | (rw [Zan (by omega),decide_eq_decide]; omega)))
  have f5:(Zaa a k).2.2.2.2.2.1.1=eqI (Int.tmod (m + ((cntL (List.take k a):Nat):Int) + 1 + 1 + 1 + 1 + ((cntL ((Zaa a k).2.2.2.2.1):Nat):Int)) 3) 0:=(congrArg (fun z=>z.2.2.2.2.2.1.1) hx).trans (by first | rfl | (simp only [GXA]; first | done | omega | (congr 1; omega) | (rw [Zan (by omega),decide_eq_decide]; done) | (rw [Zan (by omega),decide_eq_decide]; omega)))
  have f6:(Zaa a k).2.2.2.2.2.1.2=markL ((Zaa a k).2.2.2.2.2.1.2) (m + ((cntL (List.take k a):Nat):Int) + 1 + 1 + 1 + 1 + ((cntL ((Zaa a k).2.2.2.2.1):Nat):Int) + 1):=(congrArg (fun z=>z.2.2.2.2.2.1.2) hx).trans (by first | rfl | (simp only [GXA]; first | done | omega | (congr 1; omega) | (rw [Zan (by omega),decide_eq_decide]; done) | (rw [Zan (by omega),decide_eq_decide]; omega)))
  have f7:(Zaa a k).2.2.2.2.2.2.1=Zcs (m + ((cntL (List.take k a):Nat):Int) + 1 + 1 + 1 + 1 + ((cntL ((Zaa a k).2.2.2.2.1):Nat):Int) + 1 + ((cntL ((Zaa a k).2.2.2.2.2.1.2):Nat):Int)):=(congrArg (fun z=>z.2.2.2.2.2.2.1) hx).trans (by first | rfl | (simp only [GXA]; first | done | omega | (congr 1; omega) | (rw [Zan (by omega),decide_eq_decide]; done) | (rw [Zan (by omega),decide_eq_decide]; omega)))
  have f8:(Zaa a k).2.2.2.2.2.2.2.1=Zcs (m + ((cntL (List.take k a):Nat):Int) + 1 + 1 + 1 + 1 + ((cntL ((Zaa a k).2.2.2.2.1):Nat):Int) + 1 + ((cntL ((Zaa a k).2.2.2.2.2.1.2):Nat):Int) + 1):=(congrArg (fun z=>z.2.2.2.2.2.2.2.1) hx).trans (by first | rfl | (simp only [GXA]; first | done | omega | (congr 1; omega) | (rw [Zan (by omega),decide_eq_decide]; done) | (rw [Zan (by omega),decide_eq_decide]; omega)))
  have f9:(Zaa a k).2.2.2.2.2.2.2.2.1.1=markL ((Zaa a k).2.2.2.2.2.2.2.2.1.1) (m + ((cntL (List.take k a):Nat):Int) + 1 + 1 + 1 + 1 + ((cntL ((Zaa a k).2.2.2.2.1):Nat):Int) + 1 + ((cntL ((Zaa a k).2.2.2.2.2.1.2):Nat):Int) + 1 + 1):=(congrArg (fun z=>z.2.2.2.2.2.2.2.2.1.1) hx).trans (by first | rfl | (simp only [GXA]; first | done | omega | (congr 1; omega) | (rw [Zan (by omega),decide_eq_decide]; done) | (rw [Zan (by omega),decide_eq_decide]; omega)))
  have f10:(Zaa a k).2.2.2.2.2.2.2.2.1.2.1=eqI (Int.tmod (m + ((cntL (List.take k a):Nat):Int) + 1 + 1 + 1 + 1 + ((cntL ((Zaa a k).2.2.2.2.1):Nat):Int) + 1 + ((cntL ((Zaa a k).2.2.2.2.2.1.2):Nat):Int) + 1 + 1 + ((cntL ((Zaa a k).2.2.2.2.2.2.2.2.1.1):Nat):Int)) 3) 0:=(congrArg (fun z=>z.2.2.2.2.2.2.2.2.1.2.1) hx).trans (by first | rfl | (simp only [GXA]; first | done | omega | (congr 1; omega) | (rw [Zan (by omega),decide_eq_decide]; done) | (rw [Zan (by omega),decide_eq_decide]; omega)))
  have f11:(Zaa a k).2.2.2.2.2.2.2.2.1.2.2=eqI (Int.tmod (m + ((cntL (List.take k a):Nat):Int) + 1 + 1 + 1 + 1 + ((cntL ((Zaa a k).2.2.2.2.1):Nat):Int) + 1 + ((cntL ((Zaa a k).2.2.2.2.2.1.2):Nat):Int) + 1 + 1 + ((cntL ((Zaa a k).2.2.2.2.2.2.2.2.1.1):Nat):Int) + 1) 3) 0:=(congrArg (fun z=>z.2.2.2.2.2.2.2.2.1.2.2) hx).trans (by first | rfl | (simp only [GXA]; first | done | omega | (congr 1; omega) | (rw [Zan (by omega),decide_eq_decide]; done) | (rw [Zan (by omega),decide_eq_decide]; omega)))
  have f12:(Zaa a k).2.2.2.2.2.2.2.2.2.1.1=Zcs (m + ((cntL (List.take k a):Nat):Int) + 1 + 1 + 1 + 1 + ((cntL ((Zaa a k).2.2.2.2.1):Nat):Int) + 1 + ((cntL ((Zaa a k).2.2.2.2.2.1.2):Nat):Int) + 1 + 1 + ((cntL ((Zaa a k).2.2.2.2.2.2.2.2.1.1):Nat):Int) + 1 + 1):=(congrArg (fun z=>z.2.2.2.2.2.2.2.2.2.1.1) hx).trans (by first | rfl | (simp only [GXA]; first | done | omega | (congr 1; omega) | (rw [Zan (by omega),decide_eq_decide]; done) | (rw [Zan (by omega),decide_eq_decide]; omega)))
  have f13:(Zaa a k).2.2.2.2.2.2.2.2.2.1.2=eqI (Int.tmod (m + ((cntL (List.take k a):Nat):Int) + 1 + 1 + 1 + 1 + ((cntL ((Zaa a k).2.2.2.2.1):Nat):Int) + 1 + ((cntL ((Zaa a k).2.2.2.2.2.1.2):Nat):Int) + 1 + 1 + ((cntL ((Zaa a k).2.2.2.2.2.2.2.2.1.1):Nat):Int) + 1 + 1 + 1) 3) 0:=(congrArg (fun z=>z.2.2.2.2.2.2.2.2.2.1.2) hx).trans (by first | rfl | (simp only [GXA]; first | done | omega | (congr 1; omega) | (rw [Zan (by omega),decide_eq_decide]; done) | (rw [Zan (by omega),decide_eq_decide]; omega)))
  have f14:(Zaa a k).2.2.2.2.2.2.2.2.2.2.1.1=Zcs (m + ((cntL (List.take k a):Nat):Int) + 1 + 1 + 1 + 1 + ((cntL ((Zaa a k).2.2.2.2.1):Nat):Int) + 1 + ((cntL ((Zaa a k).2.2.2.2.2.1.2):Nat):Int) + 1 + 1 + ((cntL ((Zaa a k).2.2.2.2.2.2.2.2.1.1):Nat):Int) + 1 + 1 + 1 + 1):=(congrArg (fun z=>z.2.2.2.2.2.2.2.2.2.2.1.1) hx).trans (by first | rfl | (simp only [GXA]; first | done | omega | (congr 1; omega) | (rw [Zan (by omega),decide_eq_decide]; done) | (rw [Zan (by omega),decide_eq_decide]; omega)))
  have f15:(Zaa a k).2.2.2.2.2.2.2.2.2.2.1.2=Zcs (m + ((cntL (List.take k a):Nat):Int) + 1 + 1 + 1 + 1 + ((cntL ((Zaa a k).2.2.2.2.1):Nat):Int) + 1 + ((cntL ((Zaa a k).2.2.2.2.2.1.2):Nat):Int) + 1 + 1 + ((cntL ((Zaa a k).2.2.2.2.2.2.2.2.1.1):Nat):Int) + 1 + 1 + 1 + 1 + 1):=(congrArg (fun z=>z.2.2.2.2.2.2.2.2.2.2.1.2) hx).trans (by first | rfl | (simp only [GXA]; first | done | omega | (congr 1; omega) | (rw [Zan (by omega),decide_eq_decide]; done) | (rw [Zan (by omega),decide_eq_decide]; omega)))
  have f16:(Zaa a k).2.2.2.2.2.2.2.2.2.2.2=m + ((cntL (List.take k a):Nat):Int) + 1 + 1 + 1 + 1 + ((cntL ((Zaa a k).2.2.2.2.1):Nat):Int) + 1 + ((cntL ((Zaa a k).2.2.2.2.2.1.2):Nat):Int) + 1 + 1 + ((cntL ((Zaa a k).2.2.2.2.2.2.2.2.1.1):Nat):Int) + 1 + 1 + 1 + 1 + 1 + 1:=(congrArg (fun z=>z.2.2.2.2.2.2.2.2.2.2.2) hx).trans (by first | rfl | (simp only [GXA]; first | done | omega | (congr 1; omega) | (rw [Zan (by omega),decide_eq_decide]; done) | (rw [Zan (by omega),decide_eq_decide]; omega)))
  simp (disch:=omega) only [ZaX,Za7,Zbh,ZaD,Zbx,Zbk,Za9,ZbE,ZaQ,Za5,Zb9]
  exact ZeX
 ·exact Ze0
def Zoo:ZaE Tryz.prog:=⟨29,[.v (.list Zae), .v Zax],fun x=>ZeL x.1 x.2.1,fun x=>.c (.int .i64 (Zb9 x.1 x.2.1)),fun _=>[],fun x hx=>Zon x.1 x.2.1 hx,Tryz.call29⟩
abbrev Zbl (a:ZaT) (m:Int):Int:=m + ((cntI a:Nat):Int)
abbrev Zeu (a:ZaT) (m:Int):Prop:=mrkI a m=a∧0≤m∧m + cntI a≤4611686018427387904
theorem Zr3 (a:ZaT) (m:Int) (hpre:Zeu a m):Zao Tryz.prog 12 [.ag (cellsOf Zbm a), .c (.int .i64 m)] (.c (.int .i64 (Zbl a m))) []:=by
 refine bc0 [Zua,Zoo] [] [] [] L0 Tryz.func12 (fun hwf=>?_)
 refine Eq.mpr (β:=T5 (pt (ZgF a.1 m)∧T3 (bif ltI (ZbE a.1 m) 0 then True∧rI (-1) (Zbl a m) else T3 (pt (ZeL a.2 (ZbE a.1 m))∧T3 (bif ltI (Zb9 a.2 (ZbE a.1 m)) 0 then True∧rI (-1) (Zbl a m) else T2 (rI (Zb9 a.2 (ZbE a.1 m)) (Zbl a m))))))) (by kernel_rfl) ?_
 obtain ⟨hmm,hm0,hm1⟩:=hpre
 have hc0:cntI a=cntL a.1.1 + (cntL a.1.2.1 + (0)) + (cntL a.2):=rfl
 have hc1:cntI a.1=cntL a.1.1 + (cntL a.1.2.1 + (0)):=rfl
 have g0:mrkI a.1 (m)=a.1:=by
  have h0:a.1=mrkI a.1 (m):=congrArg (fun z:ZaT=>z.1) hmm.symm
  exact Zz0
 have g1:markL a.2 (m + ((cntI a.1:Nat):Int))=a.2:=by
  have h0:a.2=markL a.2 (m + ((cntI a.1:Nat):Int)):=congrArg (fun z:ZaT=>z.2) hmm.symm
  have hK:m + ((cntI a.1:Nat):Int)=m + ((cntI a.1:Nat):Int):=by first | rfl | (simp only [gc1,gc2,gc3,gc4]; omega) | omega
  rw [hK] at h0
  exact h0.symm
 simp only [SIA,eq_self]
 simp only [Za7,Zbh,ZaD,Zbx,Zbk,Za9,ZbE,ZaQ,Za5,Zb9,Zbl]
 exact Zzx
def Zr4:ZaE Tryz.prog:=⟨12,[.s Zbm, .v Zax],fun x=>Zeu x.1 x.2.1,fun x=>.c (.int .i64 (Zbl x.1 x.2.1)),fun _=>[],fun x hx=>Zr3 x.1 x.2.1 hx,Tryz.call12⟩
end Go.Proofs.YtafhbjjcpncfnaaGreat
