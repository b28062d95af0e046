import Derived.Test.YtkompmgleojmlaaGreatHMarkB
import Derived.Test.YtkompmgleojmlaaGreatHBlMkS
set_option linter.unusedSimpArgs false
set_option linter.unusedVariables false
set_option maxRecDepth 100000
set_option maxHeartbeats 4000000
namespace Go.Proofs.YtkompmgleojmlaaGreat
open Go.ChangeShapes Go.WideShapes Go.ChangeAt Go.RowKit Go.Joins Go.Deep
open GoRep (rep bulk)
open GoMark (mrk cnt mrkI cntI)
abbrev Zba (a:List ByteArray) (m:Int):Int:=m + ((cntL a:Nat):Int)
abbrev Zfb (a:List ByteArray) (m:Int):Prop:=markL a m=a∧0≤m∧m + cntL a≤4611686018427387904
def Zpm (a:List ByteArray) (m:Int):Nat→List AV→Mem→Zbj
 | 2,tm,M=>⟨Nat,fun y=>(Zcn (ZcC tm [(1, .c (.int .i64 (m + ((cntL (List.take y a):Nat):Int)))),(4, .any),(5, .c (.int .i64 ((y:Nat):Int)))]) 6 15,M),fun y=>(y≤List.length a),fun y=>(List.length a - y)⟩
 | _,_,_=>⟨Unit,fun _=>([],[]),fun _=>False,fun _=>0⟩
theorem Zpn (a:List ByteArray) (m:Int) (hpre:Zfb a m):Zam Tryz.prog 211 [.c (.hs .no ZaW a), .c (.int .i64 m)] (.c (.int .i64 (Zba a m))) []:=by
 refine bc0 [Zco] [] [] [] (Zpm a m) Tryz.func211 (fun hwf=>?_)
 refine Eq.mpr (β:=T2 ((∃ q:Nat,(q≤a.length)∧lxs [hn ZaW a] (vI m (m + (cntL (List.take q a):Int))∧lxs [.tp [], .tp []] (True∧vI 0 q∧TN 15 (lxs [.tp []] True)))∧pt (True))∧∀ y0:Nat,(y0≤a.length)→T4 (bif ltI y0 a.length then pt (true=true)∧T2 (ix 1 y0 a.length∧T2 (pt (Zgt (m + (cntL (List.take y0 a):Int)))∧True∧bif !eqS (ZaF a y0) (Zct (m + (cntL (List.take y0 a):Int))) then True∧rI (-1) (Zba a m) else T6 (∃ y0' : Nat,(y0'≤a.length)∧(a.length - y0') < (a.length - y0)∧lxs [hn ZaW a] (vI (w64 ((m + (cntL (List.take y0 a):Int)) + 1)) (m + (cntL (List.take y0' a):Int))∧lxs [.tp [], .tp []] (True∧vI (w64 ((y0:Int) + 1)) y0'∧TN 15 (lxs [.tp []] True)))∧pt (True)))) else T2 (rI (m + (cntL (List.take y0 a):Int)) (Zba a m))))) (by kernel_rfl) ?_
 unfold T2 T4 T6
 obtain ⟨hmm,hm0,hm1⟩:=hpre
 have hlm:a.length≤maxLen:=hwf.1.1
 unfold maxLen at hlm
 simp only [SIA,eq_self]
 refine ⟨⟨0,Nat.zero_le _,by simp [cntL],rfl⟩,fun k hk=>⟨fun hlt=>?_,fun hge=>?_⟩⟩
 ·have hlt:k < a.length:=by omega
  have hg:a[k]?=some (ZaF a k):=Zau (t:=ZaW) hlt
  have hc:cntL (List.take (k + 1) a)=cntL (List.take k a) + (1):=ZcN hg
  have hcl:cntL (List.take (k + 1) a)≤cntL a:=Zel a (k + 1)
  have hx:=ZeH hmm hg
  have f0:(ZaF a k)=Zct (m + ((cntL (List.take k a):Nat):Int)):=(congrArg (fun z=>z) hx).trans (by first | rfl | (simp only [GXA]; first | done | omega | (congr 1; omega) | (rw [Zan (by omega),decide_eq_decide]; done) | (rw [Zan (by omega),decide_eq_decide]; omega)))
  simp (disch:=omega) only [Za3,Zba]
  exact ZfK
 ·exact ZfN
def Zpo:ZaC Tryz.prog:=⟨211,[.v (.list ZaW), .v Zaz],fun x=>Zfb x.1 x.2.1,fun x=>.c (.int .i64 (Zba x.1 x.2.1)),fun _=>[],fun x hx=>Zpn x.1 x.2.1 hx,Tryz.call211⟩
abbrev Zcu (a:List Int) (m:Int):Int:=m + ((cntL a:Nat):Int)
abbrev ZaD (a:List ZaZ) (m:Int):Int:=m + ((cntL a:Nat):Int)
abbrev ZfT (a:List ZaZ) (m:Int):Prop:=markL a m=a∧0≤m∧m + cntL a≤4611686018427387904
def Zsa (a:List ZaZ) (m:Int):Nat→List AV→Mem→Zbj
 | 2,tm,M=>⟨Nat,fun y=>(Zcn (ZcC tm [(1, .c (.int .i64 (m + ((cntL (List.take y a):Nat):Int)))),(4, .any),(5, .c (.int .i64 ((y:Nat):Int)))]) 6 33,M),fun y=>(y≤List.length a),fun y=>(List.length a - y)⟩
 | _,_,_=>⟨Unit,fun _=>([],[]),fun _=>False,fun _=>0⟩
def Zuj (y0:Nat) (a:List ZaZ):Prop:=ix 3 y0 a.length
theorem Zsb (a:List ZaZ) (m:Int) (hpre:ZfT a m):Zam Tryz.prog 135 [.c (.hs .no Zak a), .c (.int .i64 m)] (.c (.int .i64 (ZaD a m))) []:=by
 refine bc0 [Zpo] [] [] [] (Zsa a m) Tryz.func135 (fun hwf=>?_)
 refine Eq.mpr (β:=T2 ((∃ q:Nat,(q≤a.length)∧lxs [hn Zak a] (vI m (m + (cntL (List.take q a):Int))∧lxs [.tp [], .tp []] (True∧vI 0 q∧TN 33 (lxs [.tp []] True)))∧pt (True))∧∀ y0:Nat,(y0≤a.length)→T4 (bif ltI y0 a.length then T2 (Zuj y0 a∧T4 (bif neI (Zaq a y0).1 (m + (cntL (List.take y0 a):Int)) then True∧rI (-1) (ZaD a m) else T5 (Zuj y0 a∧T3 (pt (Zfb (Zaq a y0).2.1 (w64 ((m + (cntL (List.take y0 a):Int)) + 1)))∧T3 (bif ltI (Zba (Zaq a y0).2.1 (w64 ((m + (cntL (List.take y0 a):Int)) + 1))) 0 then True∧rI (-1) (ZaD a m) else T2 (Zuj y0 a∧T4 (bif neI (Zaq a y0).2.2 (Zba (Zaq a y0).2.1 (w64 ((m + (cntL (List.take y0 a):Int)) + 1))) then True∧rI (-1) (ZaD a m) else T6 (∃ y0' : Nat,(y0'≤a.length)∧(a.length - y0') < (a.length - y0)∧lxs [hn Zak a] (vI (w64 (Zba (Zaq a y0).2.1 (w64 ((m + (cntL (List.take y0 a):Int)) + 1)) + 1)) (m + (cntL (List.take y0' a):Int))∧lxs [.tp [], .tp []] (True∧vI (w64 ((y0:Int) + 1)) y0'∧TN 33 (lxs [.tp []] True)))∧pt (True))))))))) else T2 (rI (m + (cntL (List.take y0 a):Int)) (ZaD a m))))) (by kernel_rfl) ?_
 unfold Zuj T2 T3 T4 T5 T6
 obtain ⟨hmm,hm0,hm1⟩:=hpre
 have hlm:a.length≤maxLen:=hwf.1.1
 unfold maxLen at hlm
 simp only [SIA,eq_self]
 refine ⟨⟨0,Nat.zero_le _,by simp [cntL],rfl⟩,fun k hk=>⟨fun hlt=>?_,fun hge=>?_⟩⟩
 ·have hlt:k < a.length:=by omega
  have hg:a[k]?=some (Zaq a k):=Zau (t:=Zak) hlt
  have hc:cntL (List.take (k + 1) a)=cntL (List.take k a) + (1 + (cntL (Zaq a k).2.1 + (1))):=ZcN hg
  have hcl:cntL (List.take (k + 1) a)≤cntL a:=Zel a (k + 1)
  have hx:=ZeH hmm hg
  have f0:(Zaq a k).1=m + ((cntL (List.take k a):Nat):Int):=(congrArg (fun z=>z.1) hx).trans (by first | rfl | (simp only [GXA]; first | done | omega | (congr 1; omega) | (rw [Zan (by omega),decide_eq_decide]; done) | (rw [Zan (by omega),decide_eq_decide]; omega)))
  have f1:(Zaq a k).2.1=markL ((Zaq a k).2.1) (m + ((cntL (List.take k a):Nat):Int) + 1):=(congrArg (fun z=>z.2.1) hx).trans (by first | rfl | (simp only [GXA]; first | done | omega | (congr 1; omega) | (rw [Zan (by omega),decide_eq_decide]; done) | (rw [Zan (by omega),decide_eq_decide]; omega)))
  have f2:(Zaq a k).2.2=m + ((cntL (List.take k a):Nat):Int) + 1 + ((cntL ((Zaq a k).2.1):Nat):Int):=(congrArg (fun z=>z.2.2) hx).trans (by first | rfl | (simp only [GXA]; first | done | omega | (congr 1; omega) | (rw [Zan (by omega),decide_eq_decide]; done) | (rw [Zan (by omega),decide_eq_decide]; omega)))
  simp (disch:=omega) only [Za3,Zba,Zcu,ZaD]
  exact ZfK
 ·exact ZfN
def Zsc:ZaC Tryz.prog:=⟨135,[.v (.list Zak), .v Zaz],fun x=>ZfT x.1 x.2.1,fun x=>.c (.int .i64 (ZaD x.1 x.2.1)),fun _=>[],fun x hx=>Zsb x.1 x.2.1 hx,Tryz.call135⟩
abbrev Zbz (a:List Zds) (m:Int):Int:=m + ((cntL a:Nat):Int)
abbrev ZhO (a:List Zds) (m:Int):Prop:=markL a m=a∧0≤m∧m + cntL a≤4611686018427387904
def Zww (a:List Zds) (m:Int):Nat→List AV→Mem→Zbj
 | 2,tm,M=>⟨Nat,fun y=>(Zcn (ZcC tm [(1, .c (.int .i64 (m + ((cntL (List.take y a):Nat):Int)))),(4, .any),(5, .c (.int .i64 ((y:Nat):Int)))]) 6 34,M),fun y=>(y≤List.length a),fun y=>(List.length a - y)⟩
 | _,_,_=>⟨Unit,fun _=>([],[]),fun _=>False,fun _=>0⟩
def Zuk (y0:Nat) (a:List Zds):Prop:=ix 3 y0 a.length
theorem Zwx (a:List Zds) (m:Int) (hpre:ZhO a m):Zam Tryz.prog 210 [.c (.hs .no ZaU a), .c (.int .i64 m)] (.c (.int .i64 (Zbz a m))) []:=by
 refine bc0 [Zco] [] [] [] (Zww a m) Tryz.func210 (fun hwf=>?_)
 refine Eq.mpr (β:=T2 ((∃ q:Nat,(q≤a.length)∧lxs [hn ZaU a] (vI m (m + (cntL (List.take q a):Int))∧lxs [.tp [], .tp []] (True∧vI 0 q∧TN 34 (lxs [.tp []] True)))∧pt (True))∧∀ y0:Nat,(y0≤a.length)→T4 (bif ltI y0 a.length then T2 (Zuk y0 a∧T4 (bif neI (ZaG a y0).1 (m + (cntL (List.take y0 a):Int)) then True∧rI (-1) (Zbz a m) else T5 (Zuk y0 a∧T4 (bif neI (ZaG a y0).2.1 (w64 ((m + (cntL (List.take y0 a):Int)) + 1)) then True∧rI (-1) (Zbz a m) else T3 (pt (true=true)∧T2 (Zuk y0 a∧T3 (pt (Zgt (w64 ((w64 ((m + (cntL (List.take y0 a):Int)) + 1)) + 1)))∧True∧bif !eqS (ZaG a y0).2.2 (Zct (w64 ((w64 ((m + (cntL (List.take y0 a):Int)) + 1)) + 1))) then True∧rI (-1) (Zbz a m) else T6 (∃ y0' : Nat,(y0'≤a.length)∧(a.length - y0') < (a.length - y0)∧lxs [hn ZaU a] (vI (w64 ((w64 ((w64 ((m + (cntL (List.take y0 a):Int)) + 1)) + 1)) + 1)) (m + (cntL (List.take y0' a):Int))∧lxs [.tp [], .tp []] (True∧vI (w64 ((y0:Int) + 1)) y0'∧TN 34 (lxs [.tp []] True)))∧pt (True))))))))) else T2 (rI (m + (cntL (List.take y0 a):Int)) (Zbz a m))))) (by kernel_rfl) ?_
 unfold Zuk T2 T3 T4 T5 T6
 obtain ⟨hmm,hm0,hm1⟩:=hpre
 have hlm:a.length≤maxLen:=hwf.1.1
 unfold maxLen at hlm
 simp only [SIA,eq_self]
 refine ⟨⟨0,Nat.zero_le _,by simp [cntL],rfl⟩,fun k hk=>⟨fun hlt=>?_,fun hge=>?_⟩⟩
 ·have hlt:k < a.length:=by omega
  have hg:a[k]?=some (ZaG a k):=Zau (t:=ZaU) hlt
  have hc:cntL (List.take (k + 1) a)=cntL (List.take k a) + (1 + (1 + (1))):=ZcN hg
  have hcl:cntL (List.take (k + 1) a)≤cntL a:=Zel a (k + 1)
  have hx:=ZeH hmm hg
  have f0:(ZaG a k).1=m + ((cntL (List.take k a):Nat):Int):=(congrArg (fun z=>z.1) hx).trans (by first | rfl | (simp only [GXA]; first | done | omega | (congr 1; omega) | (rw [Zan (by omega),decide_eq_decide]; done) | (rw [Zan (by omega),decide_eq_decide]; omega)))
  have f1:(ZaG a k).2.1=m + ((cntL (List.take k a):Nat):Int) + 1:=(congrArg (fun z=>z.2.1) hx).trans (by first | rfl | (simp only [GXA]; first | done | omega | (congr 1; omega) | (rw [Zan (by omega),decide_eq_decide]; done) | (rw [Zan (by omega),decide_eq_decide]; omega)))
  have f2:(ZaG a k).2.2=Zct (m + ((cntL (List.take k a):Nat):Int) + 1 + 1):=(congrArg (fun z=>z.2.2) hx).trans (by first | rfl | (simp only [GXA]; first | done | omega | (congr 1; omega) | (rw [Zan (by omega),decide_eq_decide]; done) | (rw [Zan (by omega),decide_eq_decide]; omega)))
  simp (disch:=omega) only [Za3,Zba,Zcu,ZaD,Zbz]
  exact ZfK
 ·exact ZfN
def Zwy:ZaC Tryz.prog:=⟨210,[.v (.list ZaU), .v Zaz],fun x=>ZhO x.1 x.2.1,fun x=>.c (.int .i64 (Zbz x.1 x.2.1)),fun _=>[],fun x hx=>Zwx x.1 x.2.1 hx,Tryz.call210⟩
abbrev Zbo (a:List ZaM) (m:Int):Int:=m + ((cntL a:Nat):Int)
abbrev ZhP (a:List ZaM) (m:Int):Prop:=markL a m=a∧0≤m∧m + cntL a≤4611686018427387904
def Zwz (a:List ZaM) (m:Int):Nat→List AV→Mem→Zbj
 | 2,tm,M=>⟨Nat,fun y=>(Zcn (ZcC tm [(1, .c (.int .i64 (m + ((cntL (List.take y a):Nat):Int)))),(4, .any),(5, .c (.int .i64 ((y:Nat):Int)))]) 6 43,M),fun y=>(y≤List.length a),fun y=>(List.length a - y)⟩
 | _,_,_=>⟨Unit,fun _=>([],[]),fun _=>False,fun _=>0⟩
def Zpp (y0:Nat) (a:List ZaM):Prop:=ix 4 y0 a.length
theorem ZwA (a:List ZaM) (m:Int) (hpre:ZhP a m):Zam Tryz.prog 132 [.c (.hs .no Zaj a), .c (.int .i64 m)] (.c (.int .i64 (Zbo a m))) []:=by
 refine bc0 [Zco,Zwy] [] [] [] (Zwz a m) Tryz.func132 (fun hwf=>?_)
 refine Eq.mpr (β:=T2 ((∃ q:Nat,(q≤a.length)∧lxs [hn Zaj a] (vI m (m + (cntL (List.take q a):Int))∧lxs [.tp [], .tp []] (True∧vI 0 q∧TN 43 (lxs [.tp []] True)))∧pt (True))∧∀ y0:Nat,(y0≤a.length)→T4 (bif ltI y0 a.length then pt (true=true)∧T2 (Zpp y0 a∧T3 (pt (Zgt (m + (cntL (List.take y0 a):Int)))∧True∧bif !eqS (Zab a y0).1 (Zct (m + (cntL (List.take y0 a):Int))) then True∧rI (-1) (Zbo a m) else T5 (Zpp y0 a∧T4 (bif neI (Zab a y0).2.1 (w64 ((m + (cntL (List.take y0 a):Int)) + 1)) then True∧rI (-1) (Zbo a m) else T5 (Zpp y0 a∧T4 (bif neI (Zab a y0).2.2.1 (w64 ((w64 ((m + (cntL (List.take y0 a):Int)) + 1)) + 1)) then True∧rI (-1) (Zbo a m) else T5 (Zpp y0 a∧T3 (pt (ZhO (Zab a y0).2.2.2 (w64 ((w64 ((w64 ((m + (cntL (List.take y0 a):Int)) + 1)) + 1)) + 1)))∧T3 (bif ltI (Zbz (Zab a y0).2.2.2 (w64 ((w64 ((w64 ((m + (cntL (List.take y0 a):Int)) + 1)) + 1)) + 1))) 0 then True∧rI (-1) (Zbo a m) else T3 (∃ y0' : Nat,(y0'≤a.length)∧(a.length - y0') < (a.length - y0)∧lxs [hn Zaj a] (vI (Zbz (Zab a y0).2.2.2 (w64 ((w64 ((w64 ((m + (cntL (List.take y0 a):Int)) + 1)) + 1)) + 1))) (m + (cntL (List.take y0' a):Int))∧lxs [.tp [], .tp []] (True∧vI (w64 ((y0:Int) + 1)) y0'∧TN 43 (lxs [.tp []] True)))∧pt (True))))))))))) else T2 (rI (m + (cntL (List.take y0 a):Int)) (Zbo a m))))) (by kernel_rfl) ?_
 unfold Zpp T2 T3 T4 T5
 obtain ⟨hmm,hm0,hm1⟩:=hpre
 have hlm:a.length≤maxLen:=hwf.1.1
 unfold maxLen at hlm
 simp only [SIA,eq_self]
 refine ⟨⟨0,Nat.zero_le _,by simp [cntL],rfl⟩,fun k hk=>⟨fun hlt=>?_,fun hge=>?_⟩⟩
 ·have hlt:k < a.length:=by omega
  have hg:a[k]?=some (Zab a k):=Zau (t:=Zaj) hlt
  have hc:cntL (List.take (k + 1) a)=cntL (List.take k a) + (1 + (1 + (1 + (cntL (Zab a k).2.2.2)))):=ZcN hg
  have hcl:cntL (List.take (k + 1) a)≤cntL a:=Zel a (k + 1)
  have hx:=ZeH hmm hg
  have f0:(Zab a k).1=Zct (m + ((cntL (List.take k a):Nat):Int)):=(congrArg (fun z=>z.1) hx).trans (by first | rfl | (simp only [GXA]; first | done | omega | (congr 1; omega) | (rw [Zan (by omega),decide_eq_decide]; done) | (rw [Zan (by omega),decide_eq_decide]; omega)))
  have f1:(Zab a k).2.1=m + ((cntL (List.take k a):Nat):Int) + 1:=(congrArg (fun z=>z.2.1) hx).trans (by first | rfl | (simp only [GXA]; first | done | omega | (congr 1; omega) | (rw [Zan (by omega),decide_eq_decide]; done) | (rw [Zan (by omega),decide_eq_decide]; omega)))
  have f2:(Zab a k).2.2.1=m + ((cntL (List.take k a):Nat):Int) + 1 + 1:=(congrArg (fun z=>z.2.2.1) hx).trans (by first | rfl | (simp only [GXA]; first | done | omega | (congr 1; omega) | (rw [Zan (by omega),decide_eq_decide]; done) | (rw [Zan (by omega),decide_eq_decide]; omega)))
  have f3:(Zab a k).2.2.2=markL ((Zab a k).2.2.2) (m + ((cntL (List.take k a):Nat):Int) + 1 + 1 + 1):=(congrArg (fun z=>z.2.2.2) hx).trans (by first | rfl | (simp only [GXA]; first | done | omega | (congr 1; omega) | (rw [Zan (by omega),decide_eq_decide]; done) | (rw [Zan (by omega),decide_eq_decide]; omega)))
  simp (disch:=omega) only [Za3,Zba,Zcu,ZaD,Zbz,Zbo]
  exact ZfK
 ·exact ZfN
def ZwB:ZaC Tryz.prog:=⟨132,[.v (.list Zaj), .v Zaz],fun x=>ZhP x.1 x.2.1,fun x=>.c (.int .i64 (Zbo x.1 x.2.1)),fun _=>[],fun x hx=>ZwA x.1 x.2.1 hx,Tryz.call132⟩
abbrev Zbb (a:List Zax) (m:Int):Int:=m + ((cntL a:Nat):Int)
abbrev Zfc (a:List Zax) (m:Int):Prop:=markL a m=a∧0≤m∧m + cntL a≤4611686018427387904
def Zpq (a:List Zax) (m:Int):Nat→List AV→Mem→Zbj
 | 2,tm,M=>⟨Nat,fun y=>(Zcn (ZcC tm [(1, .c (.int .i64 (m + ((cntL (List.take y a):Nat):Int)))),(4, .any),(5, .c (.int .i64 ((y:Nat):Int)))]) 6 62,M),fun y=>(y≤List.length a),fun y=>(List.length a - y)⟩
 | _,_,_=>⟨Unit,fun _=>([],[]),fun _=>False,fun _=>0⟩
def Zlu (y0:Nat) (a:List Zax):Prop:=ix 6 y0 a.length
theorem Zpr (a:List Zax) (m:Int) (hpre:Zfc a m):Zam Tryz.prog 133 [.c (.hs .no Zag a), .c (.int .i64 m)] (.c (.int .i64 (Zbb a m))) []:=by
 refine bc0 [Zco] [] [] [] (Zpq a m) Tryz.func133 (fun hwf=>?_)
 refine Eq.mpr (β:=T2 ((∃ q:Nat,(q≤a.length)∧lxs [hn Zag a] (vI m (m + (cntL (List.take q a):Int))∧lxs [.tp [], .tp []] (True∧vI 0 q∧TN 62 (lxs [.tp []] True)))∧pt (True))∧∀ y0:Nat,(y0≤a.length)→T4 (bif ltI y0 a.length then T2 (Zlu y0 a∧T4 (bif neI (Zac a y0).1 (m + (cntL (List.take y0 a):Int)) then True∧rI (-1) (Zbb a m) else T5 (Zlu y0 a∧T4 (bif neI (Zac a y0).2.1 (w64 ((m + (cntL (List.take y0 a):Int)) + 1)) then True∧rI (-1) (Zbb a m) else T5 (Zlu y0 a∧T4 (bif neI (Zac a y0).2.2.1 (w64 ((w64 ((m + (cntL (List.take y0 a):Int)) + 1)) + 1)) then True∧rI (-1) (Zbb a m) else T5 (Zlu y0 a∧T4 (bif neI (Zac a y0).2.2.2.1 (w64 ((w64 ((w64 ((m + (cntL (List.take y0 a):Int)) + 1)) + 1)) + 1)) then True∧rI (-1) (Zbb a m) else T3 (pt (true=true)∧T2 (Zlu y0 a∧T3 (pt (Zgt (w64 ((w64 ((w64 ((w64 ((m + (cntL (List.take y0 a):Int)) + 1)) + 1)) + 1)) + 1)))∧True∧bif !eqS (Zac a y0).2.2.2.2.1 (Zct (w64 ((w64 ((w64 ((w64 ((m + (cntL (List.take y0 a):Int)) + 1)) + 1)) + 1)) + 1))) then True∧rI (-1) (Zbb a m) else T3 (pt (true=true)∧T2 (Zlu y0 a∧T3 (pt (Zgt (w64 ((w64 ((w64 ((w64 ((w64 ((m + (cntL (List.take y0 a):Int)) + 1)) + 1)) + 1)) + 1)) + 1)))∧True∧bif !eqS (Zac a y0).2.2.2.2.2 (Zct (w64 ((w64 ((w64 ((w64 ((w64 ((m + (cntL (List.take y0 a):Int)) + 1)) + 1)) + 1)) + 1)) + 1))) then True∧rI (-1) (Zbb a m) else T6 (∃ y0' : Nat,(y0'≤a.length)∧(a.length - y0') < (a.length - y0)∧lxs [hn Zag a] (vI (w64 ((w64 ((w64 ((w64 ((w64 ((w64 ((m + (cntL (List.take y0 a):Int)) + 1)) + 1)) + 1)) + 1)) + 1)) + 1)) (m + (cntL (List.take y0' a):Int))∧lxs [.tp [], .tp []] (True∧vI (w64 ((y0:Int) + 1)) y0'∧TN 62 (lxs [.tp []] True)))∧pt (True)))))))))))))))) else T2 (rI (m + (cntL (List.take y0 a):Int)) (Zbb a m))))) (by kernel_rfl) ?_
 unfold Zlu T2 T3 T4 T5 T6
 obtain ⟨hmm,hm0,hm1⟩:=hpre
 have hlm:a.length≤maxLen:=hwf.1.1
 unfold maxLen at hlm
 simp only [SIA,eq_self]
 refine ⟨⟨0,Nat.zero_le _,by simp [cntL],rfl⟩,fun k hk=>⟨fun hlt=>?_,fun hge=>?_⟩⟩
 ·have hlt:k < a.length:=by omega
  have hg:a[k]?=some (Zac a k):=Zau (t:=Zag) hlt
  have hc:cntL (List.take (k + 1) a)=cntL (List.take k a) + (1 + (1 + (1 + (1 + (1 + (1)))))):=ZcN hg
  have hcl:cntL (List.take (k + 1) a)≤cntL a:=Zel a (k + 1)
  have hx:=ZeH hmm hg
  have f0:(Zac a k).1=m + ((cntL (List.take k a):Nat):Int):=(congrArg (fun z=>z.1) hx).trans (by first | rfl | (simp only [GXA]; first | done | omega | (congr 1; omega) | (rw [Zan (by omega),decide_eq_decide]; done) | (rw [Zan (by omega),decide_eq_decide]; omega)))
  have f1:(Zac a k).2.1=m + ((cntL (List.take k a):Nat):Int) + 1:=(congrArg (fun z=>z.2.1) hx).trans (by first | rfl | (simp only [GXA]; first | done | omega | (congr 1; omega) | (rw [Zan (by omega),decide_eq_decide]; done) | (rw [Zan (by omega),decide_eq_decide]; omega)))
  have f2:(Zac a k).2.2.1=m + ((cntL (List.take k a):Nat):Int) + 1 + 1:=(congrArg (fun z=>z.2.2.1) hx).trans (by first | rfl | (simp only [GXA]; first | done | omega | (congr 1; omega) | (rw [Zan (by omega),decide_eq_decide]; done) | (rw [Zan (by omega),decide_eq_decide]; omega)))
  have f3:(Zac a k).2.2.2.1=m + ((cntL (List.take k a):Nat):Int) + 1 + 1 + 1:=(congrArg (fun z=>z.2.2.2.1) hx).trans (by first | rfl | (simp only [GXA]; first | done | omega | (congr 1; omega) | (rw [Zan (by omega),decide_eq_decide]; done) | (rw [Zan (by omega),decide_eq_decide]; omega)))
  have f4:(Zac a k).2.2.2.2.1=Zct (m + ((cntL (List.take k a):Nat):Int) + 1 + 1 + 1 + 1):=(congrArg (fun z=>z.2.2.2.2.1) hx).trans (by first | rfl | (simp only [GXA]; first | done | omega | (congr 1; omega) | (rw [Zan (by omega),decide_eq_decide]; done) | (rw [Zan (by omega),decide_eq_decide]; omega)))
  have f5:(Zac a k).2.2.2.2.2=Zct (m + ((cntL (List.take k a):Nat):Int) + 1 + 1 + 1 + 1 + 1):=(congrArg (fun z=>z.2.2.2.2.2) hx).trans (by first | rfl | (simp only [GXA]; first | done | omega | (congr 1; omega) | (rw [Zan (by omega),decide_eq_decide]; done) | (rw [Zan (by omega),decide_eq_decide]; omega)))
  simp (disch:=omega) only [Za3,Zba,Zcu,ZaD,Zbz,Zbo,Zbb]
  exact ZfK
 ·exact ZfN
def Zps:ZaC Tryz.prog:=⟨133,[.v (.list Zag), .v Zaz],fun x=>Zfc x.1 x.2.1,fun x=>.c (.int .i64 (Zbb x.1 x.2.1)),fun _=>[],fun x hx=>Zpr x.1 x.2.1 hx,Tryz.call133⟩
abbrev ZbE (a:ZaI) (m:Int):Int:=m + ((cntI a:Nat):Int)
abbrev ZgE (a:ZaI) (m:Int):Prop:=mrkI a m=a∧0≤m∧m + cntI a≤4611686018427387904
theorem Zul (a:ZaI) (m:Int) (hpre:ZgE a m):Zam Tryz.prog 53 [.ag (cellsOf ZbJ a), .c (.int .i64 m)] (.c (.int .i64 (ZbE a m))) []:=by
 refine bc0 [ZwB,Zps] [] [] [] L0 Tryz.func53 (fun hwf=>?_)
 refine Eq.mpr (β:=T5 (pt (ZhP a.1 m)∧T3 (bif ltI (Zbo a.1 m) 0 then True∧rI (-1) (ZbE a m) else T3 (pt (Zfc a.2.1 (Zbo a.1 m))∧T3 (bif ltI (Zbb a.2.1 (Zbo a.1 m)) 0 then True∧rI (-1) (ZbE a m) else T2 (rI (Zbb a.2.1 (Zbo a.1 m)) (ZbE a m))))))) (by kernel_rfl) ?_
 obtain ⟨hmm,hm0,hm1⟩:=hpre
 have hc0:cntI a=cntL a.1 + (cntL a.2.1 + (0)):=rfl
 have g0:markL a.1 (m)=a.1:=by
  have h0:a.1=markL a.1 (m):=congrArg (fun z:ZaI=>z.1) hmm.symm
  exact ZzZ
 have g1:markL a.2.1 (m + ((cntL a.1:Nat):Int))=a.2.1:=by
  have h0:a.2.1=markL a.2.1 (m + ((cntI a.1:Nat):Int)):=congrArg (fun z:ZaI=>z.2.1) hmm.symm
  have hK:m + ((cntI a.1:Nat):Int)=m + ((cntL a.1:Nat):Int):=by first | rfl | (simp only [gc1,gc2,gc3,gc4]; omega) | omega
  rw [hK] at h0
  exact h0.symm
 simp only [SIA,eq_self]
 simp only [Zba,Zcu,ZaD,Zbz,Zbo,Zbb,ZbE]
 exact Zzx
def Zum:ZaC Tryz.prog:=⟨53,[.s ZbJ, .v Zaz],fun x=>ZgE x.1 x.2.1,fun x=>.c (.int .i64 (ZbE x.1 x.2.1)),fun _=>[],fun x hx=>Zul x.1 x.2.1 hx,Tryz.call53⟩
abbrev ZaR (a:List ZbX) (m:Int):Int:=m + ((cntL a:Nat):Int)
abbrev ZgF (a:List ZbX) (m:Int):Prop:=markL a m=a∧0≤m∧m + cntL a≤4611686018427387904
def Zun (a:List ZbX) (m:Int):Nat→List AV→Mem→Zbj
 | 2,tm,M=>⟨Nat,fun y=>(Zcn (ZcC tm [(1, .c (.int .i64 (m + ((cntL (List.take y a):Nat):Int)))),(4, .any),(5, .c (.int .i64 ((y:Nat):Int)))]) 6 24,M),fun y=>(y≤List.length a),fun y=>(List.length a - y)⟩
 | _,_,_=>⟨Unit,fun _=>([],[]),fun _=>False,fun _=>0⟩
theorem Zuo (a:List ZbX) (m:Int) (hpre:ZgF a m):Zam Tryz.prog 134 [.c (.hs .no Zay a), .c (.int .i64 m)] (.c (.int .i64 (ZaR a m))) []:=by
 refine bc0 [] [] [] [] (Zun a m) Tryz.func134 (fun hwf=>?_)
 refine Eq.mpr (β:=T2 ((∃ q:Nat,(q≤a.length)∧lxs [hn Zay a] (vI m (m + (cntL (List.take q a):Int))∧lxs [.tp [], .tp []] (True∧vI 0 q∧TN 24 (lxs [.tp []] True)))∧pt (True))∧∀ y0:Nat,(y0≤a.length)→T4 (bif ltI y0 a.length then T2 (ix 2 y0 a.length∧T4 (bif neI (ZaX a y0).1 (m + (cntL (List.take y0 a):Int)) then True∧rI (-1) (ZaR a m) else T5 (ix 2 y0 a.length∧T4 (bif neI (ZaX a y0).2 (w64 ((m + (cntL (List.take y0 a):Int)) + 1)) then True∧rI (-1) (ZaR a m) else T6 (∃ y0' : Nat,(y0'≤a.length)∧(a.length - y0') < (a.length - y0)∧lxs [hn Zay a] (vI (w64 ((w64 ((m + (cntL (List.take y0 a):Int)) + 1)) + 1)) (m + (cntL (List.take y0' a):Int))∧lxs [.tp [], .tp []] (True∧vI (w64 ((y0:Int) + 1)) y0'∧TN 24 (lxs [.tp []] True)))∧pt (True)))))) else T2 (rI (m + (cntL (List.take y0 a):Int)) (ZaR a m))))) (by kernel_rfl) ?_
 unfold T2 T4 T5 T6
 obtain ⟨hmm,hm0,hm1⟩:=hpre
 have hlm:a.length≤maxLen:=hwf.1.1
 unfold maxLen at hlm
 simp only [SIA,eq_self]
 refine ⟨⟨0,Nat.zero_le _,by simp [cntL],rfl⟩,fun k hk=>⟨fun hlt=>?_,fun hge=>?_⟩⟩
 ·have hlt:k < a.length:=by omega
  have hg:a[k]?=some (ZaX a k):=Zau (t:=Zay) hlt
  have hc:cntL (List.take (k + 1) a)=cntL (List.take k a) + (1 + (1)):=ZcN hg
  have hcl:cntL (List.take (k + 1) a)≤cntL a:=Zel a (k + 1)
  have hx:=ZeH hmm hg
  have f0:(ZaX a k).1=m + ((cntL (List.take k a):Nat):Int):=(congrArg (fun z=>z.1) hx).trans (by first | rfl | (simp only [GXA]; first | done | omega | (congr 1; omega) | (rw [Zan (by omega),decide_eq_decide]; done) | (rw [Zan (by omega),decide_eq_decide]; omega)))
  have f1:(ZaX a k).2=m + ((cntL (List.take k a):Nat):Int) + 1:=(congrArg (fun z=>z.2) hx).trans (by first | rfl | (simp only [GXA]; first | done | omega | (congr 1; omega) | (rw [Zan (by omega),decide_eq_decide]; done) | (rw [Zan (by omega),decide_eq_decide]; omega)))
  simp (disch:=omega) only [Za3,Zba,Zcu,ZaD,Zbz,Zbo,Zbb,ZbE,ZaR]
  exact ZfK
 ·exact ZfN
def Zup:ZaC Tryz.prog:=⟨134,[.v (.list Zay), .v Zaz],fun x=>ZgF x.1 x.2.1,fun x=>.c (.int .i64 (ZaR x.1 x.2.1)),fun _=>[],fun x hx=>Zuo x.1 x.2.1 hx,Tryz.call134⟩
abbrev Za5 (a:List ZaO) (m:Int):Int:=m + ((cntL a:Nat):Int)
abbrev ZgG (a:List ZaO) (m:Int):Prop:=markL a m=a∧0≤m∧m + cntL a≤4611686018427387904
def Zuq (a:List ZaO) (m:Int):Nat→List AV→Mem→Zbj
 | 2,tm,M=>⟨Nat,fun y=>(Zcn (ZcC tm [(1, .c (.int .i64 (m + ((cntL (List.take y a):Nat):Int)))),(4, .any),(5, .c (.int .i64 ((y:Nat):Int)))]) 6 43,M),fun y=>(y≤List.length a),fun y=>(List.length a - y)⟩
 | _,_,_=>⟨Unit,fun _=>([],[]),fun _=>False,fun _=>0⟩
def Zpt (y0:Nat) (a:List ZaO):Prop:=ix 4 y0 a.length
theorem Zur (a:List ZaO) (m:Int) (hpre:ZgG a m):Zam Tryz.prog 136 [.c (.hs .no Zal a), .c (.int .i64 m)] (.c (.int .i64 (Za5 a m))) []:=by
 refine bc0 [Zco] [] [] [] (Zuq a m) Tryz.func136 (fun hwf=>?_)
 refine Eq.mpr (β:=T2 ((∃ q:Nat,(q≤a.length)∧lxs [hn Zal a] (vI m (m + (cntL (List.take q a):Int))∧lxs [.tp [], .tp []] (True∧vI 0 q∧TN 43 (lxs [.tp []] True)))∧pt (True))∧∀ y0:Nat,(y0≤a.length)→T4 (bif ltI y0 a.length then T2 (Zpt y0 a∧T4 (bif neI (Zaf a y0).1 (m + (cntL (List.take y0 a):Int)) then True∧rI (-1) (Za5 a m) else T5 (Zpt y0 a∧T4 (bif neI (Zaf a y0).2.1 (w64 ((m + (cntL (List.take y0 a):Int)) + 1)) then True∧rI (-1) (Za5 a m) else T5 (Zpt y0 a∧T4 (bif neI (Zaf a y0).2.2.1 (w64 ((w64 ((m + (cntL (List.take y0 a):Int)) + 1)) + 1)) then True∧rI (-1) (Za5 a m) else T3 (pt (true=true)∧T2 (Zpt y0 a∧T3 (pt (Zgt (w64 ((w64 ((w64 ((m + (cntL (List.take y0 a):Int)) + 1)) + 1)) + 1)))∧True∧bif !eqS (Zaf a y0).2.2.2 (Zct (w64 ((w64 ((w64 ((m + (cntL (List.take y0 a):Int)) + 1)) + 1)) + 1))) then True∧rI (-1) (Za5 a m) else T6 (∃ y0' : Nat,(y0'≤a.length)∧(a.length - y0') < (a.length - y0)∧lxs [hn Zal a] (vI (w64 ((w64 ((w64 ((w64 ((m + (cntL (List.take y0 a):Int)) + 1)) + 1)) + 1)) + 1)) (m + (cntL (List.take y0' a):Int))∧lxs [.tp [], .tp []] (True∧vI (w64 ((y0:Int) + 1)) y0'∧TN 43 (lxs [.tp []] True)))∧pt (True))))))))))) else T2 (rI (m + (cntL (List.take y0 a):Int)) (Za5 a m))))) (by kernel_rfl) ?_
 unfold Zpt T2 T3 T4 T5 T6
 obtain ⟨hmm,hm0,hm1⟩:=hpre
 have hlm:a.length≤maxLen:=hwf.1.1
 unfold maxLen at hlm
 simp only [SIA,eq_self]
 refine ⟨⟨0,Nat.zero_le _,by simp [cntL],rfl⟩,fun k hk=>⟨fun hlt=>?_,fun hge=>?_⟩⟩
 ·have hlt:k < a.length:=by omega
  have hg:a[k]?=some (Zaf a k):=Zau (t:=Zal) hlt
  have hc:cntL (List.take (k + 1) a)=cntL (List.take k a) + (1 + (1 + (1 + (1)))):=ZcN hg
  have hcl:cntL (List.take (k + 1) a)≤cntL a:=Zel a (k + 1)
  have hx:=ZeH hmm hg
  have f0:(Zaf a k).1=m + ((cntL (List.take k a):Nat):Int):=(congrArg (fun z=>z.1) hx).trans (by first | rfl | (simp only [GXA]; first | done | omega | (congr 1; omega) | (rw [Zan (by omega),decide_eq_decide]; done) | (rw [Zan (by omega),decide_eq_decide]; omega)))
  have f1:(Zaf a k).2.1=m + ((cntL (List.take k a):Nat):Int) + 1:=(congrArg (fun z=>z.2.1) hx).trans (by first | rfl | (simp only [GXA]; first | done | omega | (congr 1; omega) | (rw [Zan (by omega),decide_eq_decide]; done) | (rw [Zan (by omega),decide_eq_decide]; omega)))
  have f2:(Zaf a k).2.2.1=m + ((cntL (List.take k a):Nat):Int) + 1 + 1:=(congrArg (fun z=>z.2.2.1) hx).trans (by first | rfl | (simp only [GXA]; first | done | omega | (congr 1; omega) | (rw [Zan (by omega),decide_eq_decide]; done) | (rw [Zan (by omega),decide_eq_decide]; omega)))
  have f3:(Zaf a k).2.2.2=Zct (m + ((cntL (List.take k a):Nat):Int) + 1 + 1 + 1):=(congrArg (fun z=>z.2.2.2) hx).trans (by first | rfl | (simp only [GXA]; first | done | omega | (congr 1; omega) | (rw [Zan (by omega),decide_eq_decide]; done) | (rw [Zan (by omega),decide_eq_decide]; omega)))
  simp (disch:=omega) only [Za3,Zba,Zcu,ZaD,Zbz,Zbo,Zbb,ZbE,ZaR,Za5]
  exact ZfK
 ·exact ZfN
def Zus:ZaC Tryz.prog:=⟨136,[.v (.list Zal), .v Zaz],fun x=>ZgG x.1 x.2.1,fun x=>.c (.int .i64 (Za5 x.1 x.2.1)),fun _=>[],fun x hx=>Zur x.1 x.2.1 hx,Tryz.call136⟩
set_option maxRecDepth 100000
set_option maxHeartbeats 4000000
abbrev Zca (a:List Zad) (m:Int):Int:=m + ((cntL a:Nat):Int)
abbrev ZeM (a:List Zad) (m:Int):Prop:=markL a m=a∧0≤m∧m + cntL a≤4611686018427387904
def Zoo (a:List Zad) (m:Int):Nat→List AV→Mem→Zbj
 | 2,tm,M=>⟨Nat,fun y=>(Zcn (ZcC tm [(1, .c (.int .i64 (m + ((cntL (List.take y a):Nat):Int)))),(4, .any),(5, .c (.int .i64 ((y:Nat):Int)))]) 6 184,M),fun y=>(y≤List.length a),fun y=>(List.length a - y)⟩
 | _,_,_=>⟨Unit,fun _=>([],[]),fun _=>False,fun _=>0⟩
def ZdU (y0:Nat) (a:List Zad):Prop:=ix 17 y0 a.length
def ZdV (a:List Zad) (m:Int):Prop:=True∧rI (-1) (Zca a m)
theorem Zop (a:List Zad) (m:Int) (hpre:ZeM a m):Zam Tryz.prog 54 [.c (.hs .no Zae a), .c (.int .i64 m)] (.c (.int .i64 (Zca a m))) []:=by
 refine bc0 [Zup,Zsc,Zco,Zus] [] [] [] (Zoo a m) Tryz.func54 (fun hwf=>?_)
 refine Eq.mpr (β:=T2 ((∃ q:Nat,(q≤a.length)∧lxs [hn Zae a] (vI m (m + (cntL (List.take q a):Int))∧lxs [.tp [], .tp []] (True∧vI 0 q∧TN 184 (lxs [.tp []] True)))∧pt (True))∧∀ y0:Nat,(y0≤a.length)→T4 (bif ltI y0 a.length then T2 (ZdU y0 a∧T3 ((3:Int) ≠ 0∧True∧some TypeDesc.bool=some TypeDesc.bool∧bif !eqO (Zaa a y0).1 (eqI (Int.tmod (m + (cntL (List.take y0 a):Int)) 3) 0) then ZdV a m else T5 (ZdU y0 a∧T4 (bif neI (Zaa a y0).2.1 (w64 ((m + (cntL (List.take y0 a):Int)) + 1)) then ZdV a m else T5 (ZdU y0 a∧T4 (bif neI (Zaa a y0).2.2.1 (w64 ((w64 ((m + (cntL (List.take y0 a):Int)) + 1)) + 1)) then ZdV a m else T5 (ZdU y0 a∧T4 (bif neI (Zaa a y0).2.2.2.1 (w64 ((w64 ((w64 ((m + (cntL (List.take y0 a):Int)) + 1)) + 1)) + 1)) then ZdV a m else T5 (ZdU y0 a∧T4 (pt (ZgF (Zaa a y0).2.2.2.2.1 (w64 ((w64 ((w64 ((w64 ((m + (cntL (List.take y0 a):Int)) + 1)) + 1)) + 1)) + 1)))∧T3 (bif ltI (ZaR (Zaa a y0).2.2.2.2.1 (w64 ((w64 ((w64 ((w64 ((m + (cntL (List.take y0 a):Int)) + 1)) + 1)) + 1)) + 1))) 0 then ZdV a m else T2 (ZdU y0 a∧T4 ((3:Int) ≠ 0∧True∧some TypeDesc.bool=some TypeDesc.bool∧bif !eqO (Zaa a y0).2.2.2.2.2.1.1 (eqI (Int.tmod (ZaR (Zaa a y0).2.2.2.2.1 (w64 ((w64 ((w64 ((w64 ((m + (cntL (List.take y0 a):Int)) + 1)) + 1)) + 1)) + 1))) 3) 0) then ZdV a m else T5 (ZdU y0 a∧T4 (pt (ZfT (Zaa a y0).2.2.2.2.2.1.2 (w64 (ZaR (Zaa a y0).2.2.2.2.1 (w64 ((w64 ((w64 ((w64 ((m + (cntL (List.take y0 a):Int)) + 1)) + 1)) + 1)) + 1)) + 1)))∧T3 (bif ltI (ZaD (Zaa a y0).2.2.2.2.2.1.2 (w64 (ZaR (Zaa a y0).2.2.2.2.1 (w64 ((w64 ((w64 ((w64 ((m + (cntL (List.take y0 a):Int)) + 1)) + 1)) + 1)) + 1)) + 1))) 0 then ZdV a m else pt (true=true)∧T2 (ZdU y0 a∧T3 (pt (Zgt (ZaD (Zaa a y0).2.2.2.2.2.1.2 (w64 (ZaR (Zaa a y0).2.2.2.2.1 (w64 ((w64 ((w64 ((w64 ((m + (cntL (List.take y0 a):Int)) + 1)) + 1)) + 1)) + 1)) + 1))))∧True∧bif !eqS (Zaa a y0).2.2.2.2.2.2.1 (Zct (ZaD (Zaa a y0).2.2.2.2.2.1.2 (w64 (ZaR (Zaa a y0).2.2.2.2.1 (w64 ((w64 ((w64 ((w64 ((m + (cntL (List.take y0 a):Int)) + 1)) + 1)) + 1)) + 1)) + 1)))) then ZdV a m else T3 (pt (true=true)∧T2 (ZdU y0 a∧T3 (pt (Zgt (w64 (ZaD (Zaa a y0).2.2.2.2.2.1.2 (w64 (ZaR (Zaa a y0).2.2.2.2.1 (w64 ((w64 ((w64 ((w64 ((m + (cntL (List.take y0 a):Int)) + 1)) + 1)) + 1)) + 1)) + 1)) + 1)))∧True∧bif !eqS (Zaa a y0).2.2.2.2.2.2.2.1 (Zct (w64 (ZaD (Zaa a y0).2.2.2.2.2.1.2 (w64 (ZaR (Zaa a y0).2.2.2.2.1 (w64 ((w64 ((w64 ((w64 ((m + (cntL (List.take y0 a):Int)) + 1)) + 1)) + 1)) + 1)) + 1)) + 1))) then ZdV a m else T5 (ZdU y0 a∧T4 (pt (ZgG (Zaa a y0).2.2.2.2.2.2.2.2.1.1 (w64 ((w64 (ZaD (Zaa a y0).2.2.2.2.2.1.2 (w64 (ZaR (Zaa a y0).2.2.2.2.1 (w64 ((w64 ((w64 ((w64 ((m + (cntL (List.take y0 a):Int)) + 1)) + 1)) + 1)) + 1)) + 1)) + 1)) + 1)))∧T3 (bif ltI (Za5 (Zaa a y0).2.2.2.2.2.2.2.2.1.1 (w64 ((w64 (ZaD (Zaa a y0).2.2.2.2.2.1.2 (w64 (ZaR (Zaa a y0).2.2.2.2.1 (w64 ((w64 ((w64 ((w64 ((m + (cntL (List.take y0 a):Int)) + 1)) + 1)) + 1)) + 1)) + 1)) + 1)) + 1))) 0 then ZdV a m else T2 (ZdU y0 a∧T4 ((3:Int) ≠ 0∧True∧some TypeDesc.bool=some TypeDesc.bool∧bif !eqO (Zaa a y0).2.2.2.2.2.2.2.2.1.2.1 (eqI (Int.tmod (Za5 (Zaa a y0).2.2.2.2.2.2.2.2.1.1 (w64 ((w64 (ZaD (Zaa a y0).2.2.2.2.2.1.2 (w64 (ZaR (Zaa a y0).2.2.2.2.1 (w64 ((w64 ((w64 ((w64 ((m + (cntL (List.take y0 a):Int)) + 1)) + 1)) + 1)) + 1)) + 1)) + 1)) + 1))) 3) 0) then ZdV a m else T5 (ZdU y0 a∧T4 ((3:Int) ≠ 0∧True∧some TypeDesc.bool=some TypeDesc.bool∧bif !eqO (Zaa a y0).2.2.2.2.2.2.2.2.1.2.2 (eqI (Int.tmod (w64 (Za5 (Zaa a y0).2.2.2.2.2.2.2.2.1.1 (w64 ((w64 (ZaD (Zaa a y0).2.2.2.2.2.1.2 (w64 (ZaR (Zaa a y0).2.2.2.2.1 (w64 ((w64 ((w64 ((w64 ((m + (cntL (List.take y0 a):Int)) + 1)) + 1)) + 1)) + 1)) + 1)) + 1)) + 1)) + 1)) 3) 0) then ZdV a m else T3 (pt (true=true)∧T2 (ZdU y0 a∧T4 (pt (Zgt (w64 ((w64 (Za5 (Zaa a y0).2.2.2.2.2.2.2.2.1.1 (w64 ((w64 (ZaD (Zaa a y0).2.2.2.2.2.1.2 (w64 (ZaR (Zaa a y0).2.2.2.2.1 (w64 ((w64 ((w64 ((w64 ((m + (cntL (List.take y0 a):Int)) + 1)) + 1)) + 1)) + 1)) + 1)) + 1)) + 1)) + 1)) + 1)))∧True∧bif !eqS (Zaa a y0).2.2.2.2.2.2.2.2.2.1.1 (Zct (w64 ((w64 (Za5 (Zaa a y0).2.2.2.2.2.2.2.2.1.1 (w64 ((w64 (ZaD (Zaa a y0).2.2.2.2.2.1.2 (w64 (ZaR (Zaa a y0).2.2.2.2.1 (w64 ((w64 ((w64 ((w64 ((m + (cntL (List.take y0 a):Int)) + 1)) + 1)) + 1)) + 1)) + 1)) + 1)) + 1)) + 1)) + 1))) then ZdV a m else T5 (ZdU y0 a∧T4 ((3:Int) ≠ 0∧True∧some TypeDesc.bool=some TypeDesc.bool∧bif !eqO (Zaa a y0).2.2.2.2.2.2.2.2.2.1.2 (eqI (Int.tmod (w64 ((w64 ((w64 (Za5 (Zaa a y0).2.2.2.2.2.2.2.2.1.1 (w64 ((w64 (ZaD (Zaa a y0).2.2.2.2.2.1.2 (w64 (ZaR (Zaa a y0).2.2.2.2.1 (w64 ((w64 ((w64 ((w64 ((m + (cntL (List.take y0 a):Int)) + 1)) + 1)) + 1)) + 1)) + 1)) + 1)) + 1)) + 1)) + 1)) + 1)) 3) 0) then ZdV a m else T3 (pt (true=true)∧T2 (ZdU y0 a∧T4 (pt (Zgt (w64 ((w64 ((w64 ((w64 (Za5 (Zaa a y0).2.2.2.2.2.2.2.2.1.1 (w64 ((w64 (ZaD (Zaa a y0).2.2.2.2.2.1.2 (w64 (ZaR (Zaa a y0).2.2.2.2.1 (w64 ((w64 ((w64 ((w64 ((m + (cntL (List.take y0 a):Int)) + 1)) + 1)) + 1)) + 1)) + 1)) + 1)) + 1)) + 1)) + 1)) + 1)) + 1)))∧True∧bif !eqS (Zaa a y0).2.2.2.2.2.2.2.2.2.2.1.1 (Zct (w64 ((w64 ((w64 ((w64 (Za5 (Zaa a y0).2.2.2.2.2.2.2.2.1.1 (w64 ((w64 (ZaD (Zaa a y0).2.2.2.2.2.1.2 (w64 (ZaR (Zaa a y0).2.2.2.2.1 (w64 ((w64 ((w64 ((w64 ((m + (cntL (List.take y0 a):Int)) + 1)) + 1)) + 1)) + 1)) + 1)) + 1)) + 1)) + 1)) + 1)) + 1)) + 1))) then ZdV a m else T3 (pt (true=true)∧T2 (ZdU y0 a∧T4 (pt (Zgt (w64 ((w64 ((w64 ((w64 ((w64 (Za5 (Zaa a y0).2.2.2.2.2.2.2.2.1.1 (w64 ((w64 (ZaD (Zaa a y0).2.2.2.2.2.1.2 (w64 (ZaR (Zaa a y0).2.2.2.2.1 (w64 ((w64 ((w64 ((w64 ((m + (cntL (List.take y0 a):Int)) + 1)) + 1)) + 1)) + 1)) + 1)) + 1)) + 1)) + 1)) + 1)) + 1)) + 1)) + 1)))∧True∧bif !eqS (Zaa a y0).2.2.2.2.2.2.2.2.2.2.1.2 (Zct (w64 ((w64 ((w64 ((w64 ((w64 (Za5 (Zaa a y0).2.2.2.2.2.2.2.2.1.1 (w64 ((w64 (ZaD (Zaa a y0).2.2.2.2.2.1.2 (w64 (ZaR (Zaa a y0).2.2.2.2.1 (w64 ((w64 ((w64 ((w64 ((m + (cntL (List.take y0 a):Int)) + 1)) + 1)) + 1)) + 1)) + 1)) + 1)) + 1)) + 1)) + 1)) + 1)) + 1)) + 1))) then ZdV a m else T5 (ZdU y0 a∧T4 (bif neI (Zaa a y0).2.2.2.2.2.2.2.2.2.2.2 (w64 ((w64 ((w64 ((w64 ((w64 ((w64 (Za5 (Zaa a y0).2.2.2.2.2.2.2.2.1.1 (w64 ((w64 (ZaD (Zaa a y0).2.2.2.2.2.1.2 (w64 (ZaR (Zaa a y0).2.2.2.2.1 (w64 ((w64 ((w64 ((w64 ((m + (cntL (List.take y0 a):Int)) + 1)) + 1)) + 1)) + 1)) + 1)) + 1)) + 1)) + 1)) + 1)) + 1)) + 1)) + 1)) + 1)) then ZdV a m else T6 (∃ y0' : Nat,(y0'≤a.length)∧(a.length - y0') < (a.length - y0)∧lxs [hn Zae a] (vI (w64 ((w64 ((w64 ((w64 ((w64 ((w64 ((w64 (Za5 (Zaa a y0).2.2.2.2.2.2.2.2.1.1 (w64 ((w64 (ZaD (Zaa a y0).2.2.2.2.2.1.2 (w64 (ZaR (Zaa a y0).2.2.2.2.1 (w64 ((w64 ((w64 ((w64 ((m + (cntL (List.take y0 a):Int)) + 1)) + 1)) + 1)) + 1)) + 1)) + 1)) + 1)) + 1)) + 1)) + 1)) + 1)) + 1)) + 1)) + 1)) (m + (cntL (List.take y0' a):Int))∧lxs [.tp [], .tp []] (True∧vI (w64 ((y0:Int) + 1)) y0'∧TN 184 (lxs [.tp []] True)))∧pt (True))))))))))))))))))))))))))))))))))))))))))) else T2 (rI (m + (cntL (List.take y0 a):Int)) (Zca a m))))) (by kernel_rfl) ?_
 unfold ZdV ZdU T2 T3 T4 T5 T6
 obtain ⟨hmm,hm0,hm1⟩:=hpre
 have hlm:a.length≤maxLen:=hwf.1.1
 unfold maxLen at hlm
 simp only [SIA,eq_self]
 refine ⟨⟨0,Nat.zero_le _,by simp [cntL],rfl⟩,fun k hk=>⟨fun hlt=>?_,fun hge=>?_⟩⟩
 ·have hlt:k < a.length:=by omega
  have hg:a[k]?=some (Zaa a k):=Zau (t:=Zae) hlt
  have hc:cntL (List.take (k + 1) a)=cntL (List.take k a) + (1 + (1 + (1 + (1 + (cntL (Zaa a k).2.2.2.2.1 + (1 + (cntL (Zaa a k).2.2.2.2.2.1.2) + (1 + (1 + (cntL (Zaa a k).2.2.2.2.2.2.2.2.1.1 + (1 + (1)) + (1 + (1) + (1 + (1) + (1)))))))))))):=ZcN hg
  have hcl:cntL (List.take (k + 1) a)≤cntL a:=Zel a (k + 1)
  have hx:=ZeH hmm hg
  have f0:(Zaa a k).1=eqI (Int.tmod (m + ((cntL (List.take k a):Nat):Int)) 3) 0:=(congrArg (fun z=>z.1) hx).trans (by first | rfl | (simp only [GXA]; first | done | omega | (congr 1; omega) | (rw [Zan (by omega),decide_eq_decide]; done) | (rw [Zan (by omega),decide_eq_decide]; omega)))
  have f1:(Zaa a k).2.1=m + ((cntL (List.take k a):Nat):Int) + 1:=(congrArg (fun z=>z.2.1) hx).trans (by first | rfl | (simp only [GXA]; first | done | omega | (congr 1; omega) | (rw [Zan (by omega),decide_eq_decide]; done) | (rw [Zan (by omega),decide_eq_decide]; omega)))
  have f2:(Zaa a k).2.2.1=m + ((cntL (List.take k a):Nat):Int) + 1 + 1:=(congrArg (fun z=>z.2.2.1) hx).trans (by first | rfl | (simp only [GXA]; first | done | omega | (congr 1; omega) | (rw [Zan (by omega),decide_eq_decide]; done) | (rw [Zan (by omega),decide_eq_decide]; omega)))
  have f3:(Zaa a k).2.2.2.1=m + ((cntL (List.take k a):Nat):Int) + 1 + 1 + 1:=(congrArg (fun z=>z.2.2.2.1) hx).trans (by first | rfl | (simp only [GXA]; first | done | omega | (congr 1; omega) | (rw [Zan (by omega),decide_eq_decide]; done) | (rw [Zan (by omega),decide_eq_decide]; omega)))
  have f4:(Zaa a k).2.2.2.2.1=markL ((Zaa a k).2.2.2.2.1) (m + ((cntL (List.take k a):Nat):Int) + 1 + 1 + 1 + 1):=(congrArg (fun z=>z.2.2.2.2.1) hx).trans (by first | rfl | (simp only [GXA]; first | done | omega | (congr 1; omega) | (rw [Zan (by omega),decide_eq_decide]; done) | (rw [Zan (by omega),decide_eq_decide]; omega)))
  have f5:(Zaa a k).2.2.2.2.2.1.1=eqI (Int.tmod (m + ((cntL (List.take k a):Nat):Int) + 1 + 1 + 1 + 1 + ((cntL ((Zaa a k).2.2.2.2.1):Nat):Int)) 3) 0:=(congrArg (fun z=>z.2.2.2.2.2.1.1) hx).trans (by first | rfl | (simp only [GXA]; first | done | omega | (congr 1; omega) | (rw [Zan (by omega),decide_eq_decide]; done) | (rw [Zan (by omega),decide_eq_decide]; omega)))
  have f6:(Zaa a k).2.2.2.2.2.1.2=markL ((Zaa a k).2.2.2.2.2.1.2) (m + ((cntL (List.take k a):Nat):Int) + 1 + 1 + 1 + 1 + ((cntL ((Zaa a k).2.2.2.2.1):Nat):Int) + 1):=(congrArg (fun z=>z.2.2.2.2.2.1.2) hx).trans (by first | rfl | (simp only [GXA]; first | done | omega | (congr 1; omega) | (rw [Zan (by omega),decide_eq_decide]; done) | (rw [Zan (by omega),decide_eq_decide]; omega)))
  have f7:(Zaa a k).2.2.2.2.2.2.1=Zct (m + ((cntL (List.take k a):Nat):Int) + 1 + 1 + 1 + 1 + ((cntL ((Zaa a k).2.2.2.2.1):Nat):Int) + 1 + ((cntL ((Zaa a k).2.2.2.2.2.1.2):Nat):Int)):=(congrArg (fun z=>z.2.2.2.2.2.2.1) hx).trans (by first | rfl | (simp only [GXA]; first | done | omega | (congr 1; omega) | (rw [Zan (by omega),decide_eq_decide]; done) | (rw [Zan (by omega),decide_eq_decide]; omega)))
  have f8:(Zaa a k).2.2.2.2.2.2.2.1=Zct (m + ((cntL (List.take k a):Nat):Int) + 1 + 1 + 1 + 1 + ((cntL ((Zaa a k).2.2.2.2.1):Nat):Int) + 1 + ((cntL ((Zaa a k).2.2.2.2.2.1.2):Nat):Int) + 1):=(congrArg (fun z=>z.2.2.2.2.2.2.2.1) hx).trans (by first | rfl | (simp only [GXA]; first | done | omega | (congr 1; omega) | (rw [Zan (by omega),decide_eq_decide]; done) | (rw [Zan (by omega),decide_eq_decide]; omega)))
  have f9:(Zaa a k).2.2.2.2.2.2.2.2.1.1=markL ((Zaa a k).2.2.2.2.2.2.2.2.1.1) (m + ((cntL (List.take k a):Nat):Int) + 1 + 1 + 1 + 1 + ((cntL ((Zaa a k).2.2.2.2.1):Nat):Int) + 1 + ((cntL ((Zaa a k).2.2.2.2.2.1.2):Nat):Int) + 1 + 1):=(congrArg (fun z=>z.2.2.2.2.2.2.2.2.1.1) hx).trans (by first | rfl | (simp only [GXA]; first | done | omega | (congr 1; omega) | (rw [Zan (by omega),decide_eq_decide]; done) | (rw [Zan (by omega),decide_eq_decide]; omega)))
  have f10:(Zaa a k).2.2.2.2.2.2.2.2.1.2.1=eqI (Int.tmod (m + ((cntL (List.take k a):Nat):Int) + 1 + 1 + 1 + 1 + ((cntL ((Zaa a k).2.2.2.2.1):Nat):Int) + 1 + ((cntL ((Zaa a k).2.2.2.2.2.1.2):Nat):Int) + 1 + 1 + ((cntL ((Zaa a k).2.2.2.2.2.2.2.2.1.1):Nat):Int)) 3) 0:=(congrArg (fun z=>z.2.2.2.2.2.2.2.2.1.2.1) hx).trans (by first | rfl | (simp only [GXA]; first | done | omega | (congr 1; omega) | (rw [Zan (by omega),decide_eq_decide]; done) | (rw [Zan (by omega),decide_eq_decide]; omega)))
  have f11:(Zaa a k).2.2.2.2.2.2.2.2.1.2.2=eqI (Int.tmod (m + ((cntL (List.take k a):Nat):Int) + 1 + 1 + 1 + 1 + ((cntL ((Zaa a k).2.2.2.2.1):Nat):Int) + 1 + ((cntL ((Zaa a k).2.2.2.2.2.1.2):Nat):Int) + 1 + 1 + ((cntL ((Zaa a k).2.2.2.2.2.2.2.2.1.1):Nat):Int) + 1) 3) 0:=(congrArg (fun z=>z.2.2.2.2.2.2.2.2.1.2.2) hx).trans (by first | rfl | (simp only [GXA]; first | done | omega | (congr 1; omega) | (rw [Zan (by omega),decide_eq_decide]; done) | (rw [Zan (by omega),decide_eq_decide]; omega)))
  have f12:(Zaa a k).2.2.2.2.2.2.2.2.2.1.1=Zct (m + ((cntL (List.take k a):Nat):Int) + 1 + 1 + 1 + 1 + ((cntL ((Zaa a k).2.2.2.2.1):Nat):Int) + 1 + ((cntL ((Zaa a k).2.2.2.2.2.1.2):Nat):Int) + 1 + 1 + ((cntL ((Zaa a k).2.2.2.2.2.2.2.2.1.1):Nat):Int) + 1 + 1):=(congrArg (fun z=>z.2.2.2.2.2.2.2.2.2.1.1) hx).trans (by first | rfl | (simp only [GXA]; first | done | omega | (congr 1; omega) | (rw [Zan (by omega),decide_eq_decide]; done) | (rw [Zan (by omega),decide_eq_decide]; omega)))
  have f13:(Zaa a k).2.2.2.2.2.2.2.2.2.1.2=eqI (Int.tmod (m + ((cntL (List.take k a):Nat):Int) + 1 + 1 + 1 + 1 + ((cntL ((Zaa a k).2.2.2.2.1):Nat):Int) + 1 + ((cntL ((Zaa a k).2.2.2.2.2.1.2):Nat):Int) + 1 + 1 + ((cntL ((Zaa a k).2.2.2.2.2.2.2.2.1.1):Nat):Int) + 1 + 1 + 1) 3) 0:=(congrArg (fun z=>z.2.2.2.2.2.2.2.2.2.1.2) hx).trans (by first | rfl | (simp only [GXA]; first | done | omega | (congr 1; omega) | (rw [Zan (by omega),decide_eq_decide]; done) | (rw [Zan (by omega),decide_eq_decide]; omega)))
  have f14:(Zaa a k).2.2.2.2.2.2.2.2.2.2.1.1=Zct (m + ((cntL (List.take k a):Nat):Int) + 1 + 1 + 1 + 1 + ((cntL ((Zaa a k).2.2.2.2.1):Nat):Int) + 1 + ((cntL ((Zaa a k).2.2.2.2.2.1.2):Nat):Int) + 1 + 1 + ((cntL ((Zaa a k).2.2.2.2.2.2.2.2.1.1):Nat):Int) + 1 + 1 + 1 + 1):=(congrArg (fun z=>z.2.2.2.2.2.2.2.2.2.2.1.1) hx).trans (by first | rfl | (simp only [GXA]; first | done | omega | (congr 1; omega) | (rw [Zan (by omega),decide_eq_decide]; done) | (rw [Zan (by omega),decide_eq_decide]; omega)))
  have f15:(Zaa a k).2.2.2.2.2.2.2.2.2.2.1.2=Zct (m + ((cntL (List.take k a):Nat):Int) + 1 + 1 + 1 + 1 + ((cntL ((Zaa a k).2.2.2.2.1):Nat):Int) + 1 + ((cntL ((Zaa a k).2.2.2.2.2.1.2):Nat):Int) + 1 + 1 + ((cntL ((Zaa a k).2.2.2.2.2.2.2.2.1.1):Nat):Int) + 1 + 1 + 1 + 1 + 1):=(congrArg (fun z=>z.2.2.2.2.2.2.2.2.2.2.1.2) hx).trans (by first | rfl | (simp only [GXA]; first | done | omega | (congr 1; omega) | (rw [Zan (by omega),decide_eq_decide]; done) | (rw [Zan (by omega),decide_eq_decide]; omega)))
  have f16:(Zaa a k).2.2.2.2.2.2.2.2.2.2.2=m + ((cntL (List.take k a):Nat):Int) + 1 + 1 + 1 + 1 + ((cntL ((Zaa a k).2.2.2.2.1):Nat):Int) + 1 + ((cntL ((Zaa a k).2.2.2.2.2.1.2):Nat):Int) + 1 + 1 + ((cntL ((Zaa a k).2.2.2.2.2.2.2.2.1.1):Nat):Int) + 1 + 1 + 1 + 1 + 1 + 1:=(congrArg (fun z=>z.2.2.2.2.2.2.2.2.2.2.2) hx).trans (by first | rfl | (simp only [GXA]; first | done | omega | (congr 1; omega) | (rw [Zan (by omega),decide_eq_decide]; done) | (rw [Zan (by omega),decide_eq_decide]; omega)))
  simp (disch:=omega) only [Za3,Zba,Zcu,ZaD,Zbz,Zbo,Zbb,ZbE,ZaR,Za5,Zca]
  exact ZfK
 ·exact ZfN
def Zoq:ZaC Tryz.prog:=⟨54,[.v (.list Zae), .v Zaz],fun x=>ZeM x.1 x.2.1,fun x=>.c (.int .i64 (Zca x.1 x.2.1)),fun _=>[],fun x hx=>Zop x.1 x.2.1 hx,Tryz.call54⟩
abbrev Za4 (a:ZaE) (m:Int):Int:=m + ((cntI a:Nat):Int)
abbrev Zcl (a:ZaE) (m:Int):Prop:=mrkI a m=a∧0≤m∧m + cntI a≤4611686018427387904
theorem Zsd (a:ZaE) (m:Int) (hpre:Zcl a m):Zam Tryz.prog 17 [.ag (cellsOf ZaV a), .c (.int .i64 m)] (.c (.int .i64 (Za4 a m))) []:=by
 refine bc0 [Zum,Zoq] [] [] [] L0 Tryz.func17 (fun hwf=>?_)
 refine Eq.mpr (β:=T5 (pt (ZgE a.1 m)∧T3 (bif ltI (ZbE a.1 m) 0 then True∧rI (-1) (Za4 a m) else T3 (pt (ZeM a.2 (ZbE a.1 m))∧T3 (bif ltI (Zca a.2 (ZbE a.1 m)) 0 then True∧rI (-1) (Za4 a m) else T2 (rI (Zca a.2 (ZbE a.1 m)) (Za4 a m))))))) (by kernel_rfl) ?_
 obtain ⟨hmm,hm0,hm1⟩:=hpre
 have hc0:cntI a=cntL a.1.1 + (cntL a.1.2.1 + (0)) + (cntL a.2):=rfl
 have hc1:cntI a.1=cntL a.1.1 + (cntL a.1.2.1 + (0)):=rfl
 have g0:mrkI a.1 (m)=a.1:=by
  have h0:a.1=mrkI a.1 (m):=congrArg (fun z:ZaE=>z.1) hmm.symm
  exact ZzZ
 have g1:markL a.2 (m + ((cntI a.1:Nat):Int))=a.2:=by
  have h0:a.2=markL a.2 (m + ((cntI a.1:Nat):Int)):=congrArg (fun z:ZaE=>z.2) hmm.symm
  have hK:m + ((cntI a.1:Nat):Int)=m + ((cntI a.1:Nat):Int):=by first | rfl | (simp only [gc1,gc2,gc3,gc4]; omega) | omega
  rw [hK] at h0
  exact h0.symm
 simp only [SIA,eq_self]
 simp only [Zba,Zcu,ZaD,Zbz,Zbo,Zbb,ZbE,ZaR,Za5,Zca,Za4]
 exact Zzx
def ZhQ:ZaC Tryz.prog:=⟨17,[.s ZaV, .v Zaz],fun x=>Zcl x.1 x.2.1,fun x=>.c (.int .i64 (Za4 x.1 x.2.1)),fun _=>[],fun x hx=>Zsd x.1 x.2.1 hx,Tryz.call17⟩
end Go.Proofs.YtkompmgleojmlaaGreat
