import Derived.Test.YtkompmgleojmlaaGreatFMarkB
import Derived.Test.YtkompmgleojmlaaGreatFBlMkS
set_option linter.unusedSimpArgs false
set_option linter.unusedVariables false
set_option maxRecDepth 100000
set_option maxHeartbeats 4000000
namespace Go.Proofs.YtkompmgleojmlaaGreat
open Go.ChangeShapes Go.WideShapes Go.ChangeAt Go.RowKit Go.Joins Go.Deep
open GoRep (rep bulk)
open GoMark (mrk cnt mrkI cntI)
abbrev ZaX (a:List ByteArray) (m:Int):Int:=m + ((cntL a:Nat):Int)
abbrev Zet (a:List ByteArray) (m:Int):Prop:=markL a m=a∧0≤m∧m + cntL a≤4611686018427387904
def ZnI (a:List ByteArray) (m:Int):Nat→List AV→Mem→Zbn
  | 2,tm,M=>⟨Nat,fun y=>(ZcN (ZcV tm [(1, .c (.int .i64 (m + ((cntL (List.take y a):Nat):Int)))),(4, .any),(5, .c (.int .i64 ((y:Nat):Int)))]) 6 15,M),fun y=>(y≤List.length a),fun y=>(List.length a - y)⟩
  | _,_,_=>⟨Unit,fun _=>([],[]),fun _=>False,fun _=>0⟩
theorem ZnJ (a:List ByteArray) (m:Int) (hpre:Zet a m):Zat Tryz.prog 211 [.c (.hs .no ZaK a), .c (.int .i64 m)] (.c (.int .i64 (ZaX a m))) []:=by
  refine bc0 [Zb0] [] [] [] (ZnI a m) Tryz.func211 (fun hwf=>?_)
  refine Eq.mpr (β:=(T2 ((∃ q:Nat,(q≤List.length a)∧((lxs [hn ZaK a] (vI m (m + (cntL (List.take q a):Int))∧lxs [.tp [], .tp []] (True∧vI 0 q∧TN 15 (lxs [.tp []] True))))∧pt (True)))∧∀ y0:Nat,(y0≤List.length a)→(T4 (bif (ltI y0 (List.length a)) then ((pt (true=true))∧(T2 ((ix 1 y0 (List.length a))∧(T2 ((pt (Zfx (m + (cntL (List.take y0 a):Int))))∧(True∧(bif (!eqS (ZaJ a y0) (Zb3 (m + (cntL (List.take y0 a):Int)))) then (True∧(rI (-1) (ZaX a m))) else (T6 (∃ y0' : Nat,(y0'≤List.length a)∧(List.length a - y0') < (List.length a - y0)∧((lxs [hn ZaK a] (vI (w64 ((m + (cntL (List.take y0 a):Int)) + 1)) (m + (cntL (List.take y0' a):Int))∧lxs [.tp [], .tp []] (True∧vI (w64 ((y0:Int) + 1)) y0'∧TN 15 (lxs [.tp []] True))))∧pt (True))))))))))) else (T2 (rI (m + (cntL (List.take y0 a):Int)) (ZaX a m)))))))) (by kernel_rfl) ?_
  unfold T2 T4 T6
  obtain ⟨hmm,hm0,hm1⟩:=hpre
  have hlm:a.length≤maxLen:=hwf.1.1
  unfold maxLen at hlm
  simp only [SIA,eq_self]
  refine ⟨⟨0,Nat.zero_le _,by simp [cntL],rfl⟩,fun k hk=>⟨fun hlt=>?_,fun hge=>?_⟩⟩
  · have hlt:k < a.length:=by omega
    have hg:a[k]?=some (ZaJ a k):=Zau (t:=ZaK) hlt
    have hc:cntL (List.take (k + 1) a)=cntL (List.take k a) + (1):=Zch hg
    have hcl:cntL (List.take (k + 1) a)≤cntL a:=ZdA a (k + 1)
    have hx:=ZdV hmm hg
    have f0:(ZaJ a k)=Zb3 (m + ((cntL (List.take k a):Nat):Int)):=(congrArg (fun z=>z) hx).trans (by first | rfl | (simp only [GXA]; first | done | omega | (congr 1; omega) | (rw [Zaj (by omega),decide_eq_decide]; done) | (rw [Zaj (by omega),decide_eq_decide]; omega)))
    simp (disch:=omega) only [ZaR,ZaX]
    exact ZeW
  · exact ZeY
def ZnK:ZaI Tryz.prog:=⟨211,[.v (.list ZaK), .v ZaC],fun x=>Zet x.1 x.2.1,fun x=>.c (.int .i64 (ZaX x.1 x.2.1)),fun _=>[],fun x hx=>ZnJ x.1 x.2.1 hx,Tryz.call211⟩
abbrev Zb4 (a:List Int) (m:Int):Int:=m + ((cntL a:Nat):Int)
abbrev ZaA (a:List Za3) (m:Int):Int:=m + ((cntL a:Nat):Int)
abbrev Ze5 (a:List Za3) (m:Int):Prop:=markL a m=a∧0≤m∧m + cntL a≤4611686018427387904
def Zp0 (a:List Za3) (m:Int):Nat→List AV→Mem→Zbn
  | 2,tm,M=>⟨Nat,fun y=>(ZcN (ZcV tm [(1, .c (.int .i64 (m + ((cntL (List.take y a):Nat):Int)))),(4, .any),(5, .c (.int .i64 ((y:Nat):Int)))]) 6 33,M),fun y=>(y≤List.length a),fun y=>(List.length a - y)⟩
  | _,_,_=>⟨Unit,fun _=>([],[]),fun _=>False,fun _=>0⟩
def ZrG (y0:Nat) (a:List Za3):Prop:=(ix 3 y0 (List.length a))
theorem Zp1 (a:List Za3) (m:Int) (hpre:Ze5 a m):Zat Tryz.prog 135 [.c (.hs .no Zar a), .c (.int .i64 m)] (.c (.int .i64 (ZaA a m))) []:=by
  refine bc0 [ZnK] [] [] [] (Zp0 a m) Tryz.func135 (fun hwf=>?_)
  refine Eq.mpr (β:=(T2 ((∃ q:Nat,(q≤List.length a)∧((lxs [hn Zar a] (vI m (m + (cntL (List.take q a):Int))∧lxs [.tp [], .tp []] (True∧vI 0 q∧TN 33 (lxs [.tp []] True))))∧pt (True)))∧∀ y0:Nat,(y0≤List.length a)→(T4 (bif (ltI y0 (List.length a)) then (T2 ((ZrG y0 a)∧(T4 (bif (neI (Zav a y0).1 (m + (cntL (List.take y0 a):Int))) then (True∧(rI (-1) (ZaA a m))) else (T5 ((ZrG y0 a)∧(T3 ((pt (Zet (Zav a y0).2.1 (w64 ((m + (cntL (List.take y0 a):Int)) + 1))))∧(T3 (bif (ltI (ZaX (Zav a y0).2.1 (w64 ((m + (cntL (List.take y0 a):Int)) + 1))) 0) then (True∧(rI (-1) (ZaA a m))) else (T2 ((ZrG y0 a)∧(T4 (bif (neI (Zav a y0).2.2 (ZaX (Zav a y0).2.1 (w64 ((m + (cntL (List.take y0 a):Int)) + 1)))) then (True∧(rI (-1) (ZaA a m))) else (T6 (∃ y0' : Nat,(y0'≤List.length a)∧(List.length a - y0') < (List.length a - y0)∧((lxs [hn Zar a] (vI (w64 (ZaX (Zav a y0).2.1 (w64 ((m + (cntL (List.take y0 a):Int)) + 1)) + 1)) (m + (cntL (List.take y0' a):Int))∧lxs [.tp [], .tp []] (True∧vI (w64 ((y0:Int) + 1)) y0'∧TN 33 (lxs [.tp []] True))))∧pt (True)))))))))))))))))) else (T2 (rI (m + (cntL (List.take y0 a):Int)) (ZaA a m)))))))) (by kernel_rfl) ?_
  unfold ZrG T2 T3 T4 T5 T6
  obtain ⟨hmm,hm0,hm1⟩:=hpre
  have hlm:a.length≤maxLen:=hwf.1.1
  unfold maxLen at hlm
  simp only [SIA,eq_self]
  refine ⟨⟨0,Nat.zero_le _,by simp [cntL],rfl⟩,fun k hk=>⟨fun hlt=>?_,fun hge=>?_⟩⟩
  · have hlt:k < a.length:=by omega
    have hg:a[k]?=some (Zav a k):=Zau (t:=Zar) hlt
    have hc:cntL (List.take (k + 1) a)=cntL (List.take k a) + (1 + (cntL (Zav a k).2.1 + (1))):=Zch hg
    have hcl:cntL (List.take (k + 1) a)≤cntL a:=ZdA a (k + 1)
    have hx:=ZdV hmm hg
    have f0:(Zav a k).1=m + ((cntL (List.take k a):Nat):Int):=(congrArg (fun z=>z.1) hx).trans (by first | rfl | (simp only [GXA]; first | done | omega | (congr 1; omega) | (rw [Zaj (by omega),decide_eq_decide]; done) | (rw [Zaj (by omega),decide_eq_decide]; omega)))
    have f1:(Zav a k).2.1=markL ((Zav a k).2.1) (m + ((cntL (List.take k a):Nat):Int) + 1):=(congrArg (fun z=>z.2.1) hx).trans (by first | rfl | (simp only [GXA]; first | done | omega | (congr 1; omega) | (rw [Zaj (by omega),decide_eq_decide]; done) | (rw [Zaj (by omega),decide_eq_decide]; omega)))
    have f2:(Zav a k).2.2=m + ((cntL (List.take k a):Nat):Int) + 1 + ((cntL ((Zav a k).2.1):Nat):Int):=(congrArg (fun z=>z.2.2) hx).trans (by first | rfl | (simp only [GXA]; first | done | omega | (congr 1; omega) | (rw [Zaj (by omega),decide_eq_decide]; done) | (rw [Zaj (by omega),decide_eq_decide]; omega)))
    simp (disch:=omega) only [ZaR,ZaX,Zb4,ZaA]
    exact ZeW
  · exact ZeY
def Zp2:ZaI Tryz.prog:=⟨135,[.v (.list Zar), .v ZaC],fun x=>Ze5 x.1 x.2.1,fun x=>.c (.int .i64 (ZaA x.1 x.2.1)),fun _=>[],fun x hx=>Zp1 x.1 x.2.1 hx,Tryz.call135⟩
abbrev Zbd (a:List ZcU) (m:Int):Int:=m + ((cntL a:Nat):Int)
abbrev ZgP (a:List ZcU) (m:Int):Prop:=markL a m=a∧0≤m∧m + cntL a≤4611686018427387904
def Ztw (a:List ZcU) (m:Int):Nat→List AV→Mem→Zbn
  | 2,tm,M=>⟨Nat,fun y=>(ZcN (ZcV tm [(1, .c (.int .i64 (m + ((cntL (List.take y a):Nat):Int)))),(4, .any),(5, .c (.int .i64 ((y:Nat):Int)))]) 6 34,M),fun y=>(y≤List.length a),fun y=>(List.length a - y)⟩
  | _,_,_=>⟨Unit,fun _=>([],[]),fun _=>False,fun _=>0⟩
def ZrH (y0:Nat) (a:List ZcU):Prop:=(ix 3 y0 (List.length a))
theorem Ztx (a:List ZcU) (m:Int) (hpre:ZgP a m):Zat Tryz.prog 210 [.c (.hs .no ZaT a), .c (.int .i64 m)] (.c (.int .i64 (Zbd a m))) []:=by
  refine bc0 [Zb0] [] [] [] (Ztw a m) Tryz.func210 (fun hwf=>?_)
  refine Eq.mpr (β:=(T2 ((∃ q:Nat,(q≤List.length a)∧((lxs [hn ZaT a] (vI m (m + (cntL (List.take q a):Int))∧lxs [.tp [], .tp []] (True∧vI 0 q∧TN 34 (lxs [.tp []] True))))∧pt (True)))∧∀ y0:Nat,(y0≤List.length a)→(T4 (bif (ltI y0 (List.length a)) then (T2 ((ZrH y0 a)∧(T4 (bif (neI (ZaL a y0).1 (m + (cntL (List.take y0 a):Int))) then (True∧(rI (-1) (Zbd a m))) else (T5 ((ZrH y0 a)∧(T4 (bif (neI (ZaL a y0).2.1 (w64 ((m + (cntL (List.take y0 a):Int)) + 1))) then (True∧(rI (-1) (Zbd a m))) else (T3 ((pt (true=true))∧(T2 ((ZrH y0 a)∧(T3 ((pt (Zfx (w64 ((w64 ((m + (cntL (List.take y0 a):Int)) + 1)) + 1))))∧(True∧(bif (!eqS (ZaL a y0).2.2 (Zb3 (w64 ((w64 ((m + (cntL (List.take y0 a):Int)) + 1)) + 1)))) then (True∧(rI (-1) (Zbd a m))) else (T6 (∃ y0' : Nat,(y0'≤List.length a)∧(List.length a - y0') < (List.length a - y0)∧((lxs [hn ZaT a] (vI (w64 ((w64 ((w64 ((m + (cntL (List.take y0 a):Int)) + 1)) + 1)) + 1)) (m + (cntL (List.take y0' a):Int))∧lxs [.tp [], .tp []] (True∧vI (w64 ((y0:Int) + 1)) y0'∧TN 34 (lxs [.tp []] True))))∧pt (True)))))))))))))))))))) else (T2 (rI (m + (cntL (List.take y0 a):Int)) (Zbd a m)))))))) (by kernel_rfl) ?_
  unfold ZrH T2 T3 T4 T5 T6
  obtain ⟨hmm,hm0,hm1⟩:=hpre
  have hlm:a.length≤maxLen:=hwf.1.1
  unfold maxLen at hlm
  simp only [SIA,eq_self]
  refine ⟨⟨0,Nat.zero_le _,by simp [cntL],rfl⟩,fun k hk=>⟨fun hlt=>?_,fun hge=>?_⟩⟩
  · have hlt:k < a.length:=by omega
    have hg:a[k]?=some (ZaL a k):=Zau (t:=ZaT) hlt
    have hc:cntL (List.take (k + 1) a)=cntL (List.take k a) + (1 + (1 + (1))):=Zch hg
    have hcl:cntL (List.take (k + 1) a)≤cntL a:=ZdA a (k + 1)
    have hx:=ZdV hmm hg
    have f0:(ZaL a k).1=m + ((cntL (List.take k a):Nat):Int):=(congrArg (fun z=>z.1) hx).trans (by first | rfl | (simp only [GXA]; first | done | omega | (congr 1; omega) | (rw [Zaj (by omega),decide_eq_decide]; done) | (rw [Zaj (by omega),decide_eq_decide]; omega)))
    have f1:(ZaL a k).2.1=m + ((cntL (List.take k a):Nat):Int) + 1:=(congrArg (fun z=>z.2.1) hx).trans (by first | rfl | (simp only [GXA]; first | done | omega | (congr 1; omega) | (rw [Zaj (by omega),decide_eq_decide]; done) | (rw [Zaj (by omega),decide_eq_decide]; omega)))
    have f2:(ZaL a k).2.2=Zb3 (m + ((cntL (List.take k a):Nat):Int) + 1 + 1):=(congrArg (fun z=>z.2.2) hx).trans (by first | rfl | (simp only [GXA]; first | done | omega | (congr 1; omega) | (rw [Zaj (by omega),decide_eq_decide]; done) | (rw [Zaj (by omega),decide_eq_decide]; omega)))
    simp (disch:=omega) only [ZaR,ZaX,Zb4,ZaA,Zbd]
    exact ZeW
  · exact ZeY
def Zty:ZaI Tryz.prog:=⟨210,[.v (.list ZaT), .v ZaC],fun x=>ZgP x.1 x.2.1,fun x=>.c (.int .i64 (Zbd x.1 x.2.1)),fun _=>[],fun x hx=>Ztx x.1 x.2.1 hx,Tryz.call210⟩
abbrev Za5 (a:List ZaM) (m:Int):Int:=m + ((cntL a:Nat):Int)
abbrev ZgQ (a:List ZaM) (m:Int):Prop:=markL a m=a∧0≤m∧m + cntL a≤4611686018427387904
def Ztz (a:List ZaM) (m:Int):Nat→List AV→Mem→Zbn
  | 2,tm,M=>⟨Nat,fun y=>(ZcN (ZcV tm [(1, .c (.int .i64 (m + ((cntL (List.take y a):Nat):Int)))),(4, .any),(5, .c (.int .i64 ((y:Nat):Int)))]) 6 43,M),fun y=>(y≤List.length a),fun y=>(List.length a - y)⟩
  | _,_,_=>⟨Unit,fun _=>([],[]),fun _=>False,fun _=>0⟩
def ZnL (y0:Nat) (a:List ZaM):Prop:=(ix 4 y0 (List.length a))
theorem ZtA (a:List ZaM) (m:Int) (hpre:ZgQ a m):Zat Tryz.prog 132 [.c (.hs .no Zak a), .c (.int .i64 m)] (.c (.int .i64 (Za5 a m))) []:=by
  refine bc0 [Zb0,Zty] [] [] [] (Ztz a m) Tryz.func132 (fun hwf=>?_)
  refine Eq.mpr (β:=(T2 ((∃ q:Nat,(q≤List.length a)∧((lxs [hn Zak a] (vI m (m + (cntL (List.take q a):Int))∧lxs [.tp [], .tp []] (True∧vI 0 q∧TN 43 (lxs [.tp []] True))))∧pt (True)))∧∀ y0:Nat,(y0≤List.length a)→(T4 (bif (ltI y0 (List.length a)) then ((pt (true=true))∧(T2 ((ZnL y0 a)∧(T3 ((pt (Zfx (m + (cntL (List.take y0 a):Int))))∧(True∧(bif (!eqS (Zab a y0).1 (Zb3 (m + (cntL (List.take y0 a):Int)))) then (True∧(rI (-1) (Za5 a m))) else (T5 ((ZnL y0 a)∧(T4 (bif (neI (Zab a y0).2.1 (w64 ((m + (cntL (List.take y0 a):Int)) + 1))) then (True∧(rI (-1) (Za5 a m))) else (T5 ((ZnL y0 a)∧(T4 (bif (neI (Zab a y0).2.2.1 (w64 ((w64 ((m + (cntL (List.take y0 a):Int)) + 1)) + 1))) then (True∧(rI (-1) (Za5 a m))) else (T5 ((ZnL y0 a)∧(T3 ((pt (ZgP (Zab a y0).2.2.2 (w64 ((w64 ((w64 ((m + (cntL (List.take y0 a):Int)) + 1)) + 1)) + 1))))∧(T3 (bif (ltI (Zbd (Zab a y0).2.2.2 (w64 ((w64 ((w64 ((m + (cntL (List.take y0 a):Int)) + 1)) + 1)) + 1))) 0) then (True∧(rI (-1) (Za5 a m))) else (T3 (∃ y0' : Nat,(y0'≤List.length a)∧(List.length a - y0') < (List.length a - y0)∧((lxs [hn Zak a] (vI (Zbd (Zab a y0).2.2.2 (w64 ((w64 ((w64 ((m + (cntL (List.take y0 a):Int)) + 1)) + 1)) + 1))) (m + (cntL (List.take y0' a):Int))∧lxs [.tp [], .tp []] (True∧vI (w64 ((y0:Int) + 1)) y0'∧TN 43 (lxs [.tp []] True))))∧pt (True))))))))))))))))))))))))) else (T2 (rI (m + (cntL (List.take y0 a):Int)) (Za5 a m)))))))) (by kernel_rfl) ?_
  unfold ZnL T2 T3 T4 T5
  obtain ⟨hmm,hm0,hm1⟩:=hpre
  have hlm:a.length≤maxLen:=hwf.1.1
  unfold maxLen at hlm
  simp only [SIA,eq_self]
  refine ⟨⟨0,Nat.zero_le _,by simp [cntL],rfl⟩,fun k hk=>⟨fun hlt=>?_,fun hge=>?_⟩⟩
  · have hlt:k < a.length:=by omega
    have hg:a[k]?=some (Zab a k):=Zau (t:=Zak) hlt
    have hc:cntL (List.take (k + 1) a)=cntL (List.take k a) + (1 + (1 + (1 + (cntL (Zab a k).2.2.2)))):=Zch hg
    have hcl:cntL (List.take (k + 1) a)≤cntL a:=ZdA a (k + 1)
    have hx:=ZdV hmm hg
    have f0:(Zab a k).1=Zb3 (m + ((cntL (List.take k a):Nat):Int)):=(congrArg (fun z=>z.1) hx).trans (by first | rfl | (simp only [GXA]; first | done | omega | (congr 1; omega) | (rw [Zaj (by omega),decide_eq_decide]; done) | (rw [Zaj (by omega),decide_eq_decide]; omega)))
    have f1:(Zab a k).2.1=m + ((cntL (List.take k a):Nat):Int) + 1:=(congrArg (fun z=>z.2.1) hx).trans (by first | rfl | (simp only [GXA]; first | done | omega | (congr 1; omega) | (rw [Zaj (by omega),decide_eq_decide]; done) | (rw [Zaj (by omega),decide_eq_decide]; omega)))
    have f2:(Zab a k).2.2.1=m + ((cntL (List.take k a):Nat):Int) + 1 + 1:=(congrArg (fun z=>z.2.2.1) hx).trans (by first | rfl | (simp only [GXA]; first | done | omega | (congr 1; omega) | (rw [Zaj (by omega),decide_eq_decide]; done) | (rw [Zaj (by omega),decide_eq_decide]; omega)))
    have f3:(Zab a k).2.2.2=markL ((Zab a k).2.2.2) (m + ((cntL (List.take k a):Nat):Int) + 1 + 1 + 1):=(congrArg (fun z=>z.2.2.2) hx).trans (by first | rfl | (simp only [GXA]; first | done | omega | (congr 1; omega) | (rw [Zaj (by omega),decide_eq_decide]; done) | (rw [Zaj (by omega),decide_eq_decide]; omega)))
    simp (disch:=omega) only [ZaR,ZaX,Zb4,ZaA,Zbd,Za5]
    exact ZeW
  · exact ZeY
def ZtB:ZaI Tryz.prog:=⟨132,[.v (.list Zak), .v ZaC],fun x=>ZgQ x.1 x.2.1,fun x=>.c (.int .i64 (Za5 x.1 x.2.1)),fun _=>[],fun x hx=>ZtA x.1 x.2.1 hx,Tryz.call132⟩
abbrev ZaY (a:List Zax) (m:Int):Int:=m + ((cntL a:Nat):Int)
abbrev Zeu (a:List Zax) (m:Int):Prop:=markL a m=a∧0≤m∧m + cntL a≤4611686018427387904
def ZnM (a:List Zax) (m:Int):Nat→List AV→Mem→Zbn
  | 2,tm,M=>⟨Nat,fun y=>(ZcN (ZcV tm [(1, .c (.int .i64 (m + ((cntL (List.take y a):Nat):Int)))),(4, .any),(5, .c (.int .i64 ((y:Nat):Int)))]) 6 62,M),fun y=>(y≤List.length a),fun y=>(List.length a - y)⟩
  | _,_,_=>⟨Unit,fun _=>([],[]),fun _=>False,fun _=>0⟩
def Zkk (y0:Nat) (a:List Zax):Prop:=(ix 6 y0 (List.length a))
theorem ZnN (a:List Zax) (m:Int) (hpre:Zeu a m):Zat Tryz.prog 133 [.c (.hs .no Zah a), .c (.int .i64 m)] (.c (.int .i64 (ZaY a m))) []:=by
  refine bc0 [Zb0] [] [] [] (ZnM a m) Tryz.func133 (fun hwf=>?_)
  refine Eq.mpr (β:=(T2 ((∃ q:Nat,(q≤List.length a)∧((lxs [hn Zah a] (vI m (m + (cntL (List.take q a):Int))∧lxs [.tp [], .tp []] (True∧vI 0 q∧TN 62 (lxs [.tp []] True))))∧pt (True)))∧∀ y0:Nat,(y0≤List.length a)→(T4 (bif (ltI y0 (List.length a)) then (T2 ((Zkk y0 a)∧(T4 (bif (neI (Zac a y0).1 (m + (cntL (List.take y0 a):Int))) then (True∧(rI (-1) (ZaY a m))) else (T5 ((Zkk y0 a)∧(T4 (bif (neI (Zac a y0).2.1 (w64 ((m + (cntL (List.take y0 a):Int)) + 1))) then (True∧(rI (-1) (ZaY a m))) else (T5 ((Zkk y0 a)∧(T4 (bif (neI (Zac a y0).2.2.1 (w64 ((w64 ((m + (cntL (List.take y0 a):Int)) + 1)) + 1))) then (True∧(rI (-1) (ZaY a m))) else (T5 ((Zkk y0 a)∧(T4 (bif (neI (Zac a y0).2.2.2.1 (w64 ((w64 ((w64 ((m + (cntL (List.take y0 a):Int)) + 1)) + 1)) + 1))) then (True∧(rI (-1) (ZaY a m))) else (T3 ((pt (true=true))∧(T2 ((Zkk y0 a)∧(T3 ((pt (Zfx (w64 ((w64 ((w64 ((w64 ((m + (cntL (List.take y0 a):Int)) + 1)) + 1)) + 1)) + 1))))∧(True∧(bif (!eqS (Zac a y0).2.2.2.2.1 (Zb3 (w64 ((w64 ((w64 ((w64 ((m + (cntL (List.take y0 a):Int)) + 1)) + 1)) + 1)) + 1)))) then (True∧(rI (-1) (ZaY a m))) else (T3 ((pt (true=true))∧(T2 ((Zkk y0 a)∧(T3 ((pt (Zfx (w64 ((w64 ((w64 ((w64 ((w64 ((m + (cntL (List.take y0 a):Int)) + 1)) + 1)) + 1)) + 1)) + 1))))∧(True∧(bif (!eqS (Zac a y0).2.2.2.2.2 (Zb3 (w64 ((w64 ((w64 ((w64 ((w64 ((m + (cntL (List.take y0 a):Int)) + 1)) + 1)) + 1)) + 1)) + 1)))) then (True∧(rI (-1) (ZaY a m))) else (T6 (∃ y0' : Nat,(y0'≤List.length a)∧(List.length a - y0') < (List.length a - y0)∧((lxs [hn Zah a] (vI (w64 ((w64 ((w64 ((w64 ((w64 ((w64 ((m + (cntL (List.take y0 a):Int)) + 1)) + 1)) + 1)) + 1)) + 1)) + 1)) (m + (cntL (List.take y0' a):Int))∧lxs [.tp [], .tp []] (True∧vI (w64 ((y0:Int) + 1)) y0'∧TN 62 (lxs [.tp []] True))))∧pt (True)))))))))))))))))))))))))))))))))))) else (T2 (rI (m + (cntL (List.take y0 a):Int)) (ZaY a m)))))))) (by kernel_rfl) ?_
  unfold Zkk T2 T3 T4 T5 T6
  obtain ⟨hmm,hm0,hm1⟩:=hpre
  have hlm:a.length≤maxLen:=hwf.1.1
  unfold maxLen at hlm
  simp only [SIA,eq_self]
  refine ⟨⟨0,Nat.zero_le _,by simp [cntL],rfl⟩,fun k hk=>⟨fun hlt=>?_,fun hge=>?_⟩⟩
  · have hlt:k < a.length:=by omega
    have hg:a[k]?=some (Zac a k):=Zau (t:=Zah) hlt
    have hc:cntL (List.take (k + 1) a)=cntL (List.take k a) + (1 + (1 + (1 + (1 + (1 + (1)))))):=Zch hg
    have hcl:cntL (List.take (k + 1) a)≤cntL a:=ZdA a (k + 1)
    have hx:=ZdV hmm hg
    have f0:(Zac a k).1=m + ((cntL (List.take k a):Nat):Int):=(congrArg (fun z=>z.1) hx).trans (by first | rfl | (simp only [GXA]; first | done | omega | (congr 1; omega) | (rw [Zaj (by omega),decide_eq_decide]; done) | (rw [Zaj (by omega),decide_eq_decide]; omega)))
    have f1:(Zac a k).2.1=m + ((cntL (List.take k a):Nat):Int) + 1:=(congrArg (fun z=>z.2.1) hx).trans (by first | rfl | (simp only [GXA]; first | done | omega | (congr 1; omega) | (rw [Zaj (by omega),decide_eq_decide]; done) | (rw [Zaj (by omega),decide_eq_decide]; omega)))
    have f2:(Zac a k).2.2.1=m + ((cntL (List.take k a):Nat):Int) + 1 + 1:=(congrArg (fun z=>z.2.2.1) hx).trans (by first | rfl | (simp only [GXA]; first | done | omega | (congr 1; omega) | (rw [Zaj (by omega),decide_eq_decide]; done) | (rw [Zaj (by omega),decide_eq_decide]; omega)))
    have f3:(Zac a k).2.2.2.1=m + ((cntL (List.take k a):Nat):Int) + 1 + 1 + 1:=(congrArg (fun z=>z.2.2.2.1) hx).trans (by first | rfl | (simp only [GXA]; first | done | omega | (congr 1; omega) | (rw [Zaj (by omega),decide_eq_decide]; done) | (rw [Zaj (by omega),decide_eq_decide]; omega)))
    have f4:(Zac a k).2.2.2.2.1=Zb3 (m + ((cntL (List.take k a):Nat):Int) + 1 + 1 + 1 + 1):=(congrArg (fun z=>z.2.2.2.2.1) hx).trans (by first | rfl | (simp only [GXA]; first | done | omega | (congr 1; omega) | (rw [Zaj (by omega),decide_eq_decide]; done) | (rw [Zaj (by omega),decide_eq_decide]; omega)))
    have f5:(Zac a k).2.2.2.2.2=Zb3 (m + ((cntL (List.take k a):Nat):Int) + 1 + 1 + 1 + 1 + 1):=(congrArg (fun z=>z.2.2.2.2.2) hx).trans (by first | rfl | (simp only [GXA]; first | done | omega | (congr 1; omega) | (rw [Zaj (by omega),decide_eq_decide]; done) | (rw [Zaj (by omega),decide_eq_decide]; omega)))
    simp (disch:=omega) only [ZaR,ZaX,Zb4,ZaA,Zbd,Za5,ZaY]
    exact ZeW
  · exact ZeY
def ZnO:ZaI Tryz.prog:=⟨133,[.v (.list Zah), .v ZaC],fun x=>Zeu x.1 x.2.1,fun x=>.c (.int .i64 (ZaY x.1 x.2.1)),fun _=>[],fun x hx=>ZnN x.1 x.2.1 hx,Tryz.call133⟩
abbrev Zbj (a:Za7) (m:Int):Int:=m + ((cntI a:Nat):Int)
abbrev ZfK (a:Za7) (m:Int):Prop:=mrkI a m=a∧0≤m∧m + cntI a≤4611686018427387904
theorem ZrI (a:Za7) (m:Int) (hpre:ZfK a m):Zat Tryz.prog 53 [.ag (cellsOf ZbI a), .c (.int .i64 m)] (.c (.int .i64 (Zbj a m))) []:=by
  refine bc0 [ZtB,ZnO] [] [] [] L0 Tryz.func53 (fun hwf=>?_)
  refine Eq.mpr (β:=(T5 ((pt (ZgQ a.1 m))∧(T3 (bif (ltI (Za5 a.1 m) 0) then (True∧(rI (-1) (Zbj a m))) else (T3 ((pt (Zeu a.2.1 (Za5 a.1 m)))∧(T3 (bif (ltI (ZaY a.2.1 (Za5 a.1 m)) 0) then (True∧(rI (-1) (Zbj a m))) else (T2 (rI (ZaY a.2.1 (Za5 a.1 m)) (Zbj a m)))))))))))) (by kernel_rfl) ?_
  obtain ⟨hmm,hm0,hm1⟩:=hpre
  have hc0:cntI a=cntL a.1 + (cntL a.2.1 + (0)):=rfl
  have g0:markL a.1 (m)=a.1:=by
    have h0:a.1=markL a.1 (m):=congrArg (fun z:Za7=>z.1) hmm.symm
    exact ZwF
  have g1:markL a.2.1 (m + ((cntL a.1:Nat):Int))=a.2.1:=by
    have h0:a.2.1=markL a.2.1 (m + ((cntI a.1:Nat):Int)):=congrArg (fun z:Za7=>z.2.1) hmm.symm
    have hK:m + ((cntI a.1:Nat):Int)=m + ((cntL a.1:Nat):Int):=by first | rfl | (simp only [gc1,gc2,gc3,gc4]; omega) | omega
    rw [hK] at h0
    exact h0.symm
  simp only [SIA,eq_self]
  simp only [ZaX,Zb4,ZaA,Zbd,Za5,ZaY,Zbj]
  exact Zwd
def ZrJ:ZaI Tryz.prog:=⟨53,[.s ZbI, .v ZaC],fun x=>ZfK x.1 x.2.1,fun x=>.c (.int .i64 (Zbj x.1 x.2.1)),fun _=>[],fun x hx=>ZrI x.1 x.2.1 hx,Tryz.call53⟩
abbrev ZaH (a:List Zb9) (m:Int):Int:=m + ((cntL a:Nat):Int)
abbrev ZfL (a:List Zb9) (m:Int):Prop:=markL a m=a∧0≤m∧m + cntL a≤4611686018427387904
def ZrK (a:List Zb9) (m:Int):Nat→List AV→Mem→Zbn
  | 2,tm,M=>⟨Nat,fun y=>(ZcN (ZcV tm [(1, .c (.int .i64 (m + ((cntL (List.take y a):Nat):Int)))),(4, .any),(5, .c (.int .i64 ((y:Nat):Int)))]) 6 24,M),fun y=>(y≤List.length a),fun y=>(List.length a - y)⟩
  | _,_,_=>⟨Unit,fun _=>([],[]),fun _=>False,fun _=>0⟩
theorem ZrL (a:List Zb9) (m:Int) (hpre:ZfL a m):Zat Tryz.prog 134 [.c (.hs .no ZaN a), .c (.int .i64 m)] (.c (.int .i64 (ZaH a m))) []:=by
  refine bc0 [] [] [] [] (ZrK a m) Tryz.func134 (fun hwf=>?_)
  refine Eq.mpr (β:=(T2 ((∃ q:Nat,(q≤List.length a)∧((lxs [hn ZaN a] (vI m (m + (cntL (List.take q a):Int))∧lxs [.tp [], .tp []] (True∧vI 0 q∧TN 24 (lxs [.tp []] True))))∧pt (True)))∧∀ y0:Nat,(y0≤List.length a)→(T4 (bif (ltI y0 (List.length a)) then (T2 ((ix 2 y0 (List.length a))∧(T4 (bif (neI (ZbE a y0).1 (m + (cntL (List.take y0 a):Int))) then (True∧(rI (-1) (ZaH a m))) else (T5 ((ix 2 y0 (List.length a))∧(T4 (bif (neI (ZbE a y0).2 (w64 ((m + (cntL (List.take y0 a):Int)) + 1))) then (True∧(rI (-1) (ZaH a m))) else (T6 (∃ y0' : Nat,(y0'≤List.length a)∧(List.length a - y0') < (List.length a - y0)∧((lxs [hn ZaN a] (vI (w64 ((w64 ((m + (cntL (List.take y0 a):Int)) + 1)) + 1)) (m + (cntL (List.take y0' a):Int))∧lxs [.tp [], .tp []] (True∧vI (w64 ((y0:Int) + 1)) y0'∧TN 24 (lxs [.tp []] True))))∧pt (True)))))))))))) else (T2 (rI (m + (cntL (List.take y0 a):Int)) (ZaH a m)))))))) (by kernel_rfl) ?_
  unfold T2 T4 T5 T6
  obtain ⟨hmm,hm0,hm1⟩:=hpre
  have hlm:a.length≤maxLen:=hwf.1.1
  unfold maxLen at hlm
  simp only [SIA,eq_self]
  refine ⟨⟨0,Nat.zero_le _,by simp [cntL],rfl⟩,fun k hk=>⟨fun hlt=>?_,fun hge=>?_⟩⟩
  · have hlt:k < a.length:=by omega
    have hg:a[k]?=some (ZbE a k):=Zau (t:=ZaN) hlt
    have hc:cntL (List.take (k + 1) a)=cntL (List.take k a) + (1 + (1)):=Zch hg
    have hcl:cntL (List.take (k + 1) a)≤cntL a:=ZdA a (k + 1)
    have hx:=ZdV hmm hg
    have f0:(ZbE a k).1=m + ((cntL (List.take k a):Nat):Int):=(congrArg (fun z=>z.1) hx).trans (by first | rfl | (simp only [GXA]; first | done | omega | (congr 1; omega) | (rw [Zaj (by omega),decide_eq_decide]; done) | (rw [Zaj (by omega),decide_eq_decide]; omega)))
    have f1:(ZbE a k).2=m + ((cntL (List.take k a):Nat):Int) + 1:=(congrArg (fun z=>z.2) hx).trans (by first | rfl | (simp only [GXA]; first | done | omega | (congr 1; omega) | (rw [Zaj (by omega),decide_eq_decide]; done) | (rw [Zaj (by omega),decide_eq_decide]; omega)))
    simp (disch:=omega) only [ZaR,ZaX,Zb4,ZaA,Zbd,Za5,ZaY,Zbj,ZaH]
    exact ZeW
  · exact ZeY
def ZrM:ZaI Tryz.prog:=⟨134,[.v (.list ZaN), .v ZaC],fun x=>ZfL x.1 x.2.1,fun x=>.c (.int .i64 (ZaH x.1 x.2.1)),fun _=>[],fun x hx=>ZrL x.1 x.2.1 hx,Tryz.call134⟩
abbrev ZaS (a:List Zay) (m:Int):Int:=m + ((cntL a:Nat):Int)
abbrev ZfM (a:List Zay) (m:Int):Prop:=markL a m=a∧0≤m∧m + cntL a≤4611686018427387904
def ZrN (a:List Zay) (m:Int):Nat→List AV→Mem→Zbn
  | 2,tm,M=>⟨Nat,fun y=>(ZcN (ZcV tm [(1, .c (.int .i64 (m + ((cntL (List.take y a):Nat):Int)))),(4, .any),(5, .c (.int .i64 ((y:Nat):Int)))]) 6 43,M),fun y=>(y≤List.length a),fun y=>(List.length a - y)⟩
  | _,_,_=>⟨Unit,fun _=>([],[]),fun _=>False,fun _=>0⟩
def ZnP (y0:Nat) (a:List Zay):Prop:=(ix 4 y0 (List.length a))
theorem ZrO (a:List Zay) (m:Int) (hpre:ZfM a m):Zat Tryz.prog 136 [.c (.hs .no Zai a), .c (.int .i64 m)] (.c (.int .i64 (ZaS a m))) []:=by
  refine bc0 [Zb0] [] [] [] (ZrN a m) Tryz.func136 (fun hwf=>?_)
  refine Eq.mpr (β:=(T2 ((∃ q:Nat,(q≤List.length a)∧((lxs [hn Zai a] (vI m (m + (cntL (List.take q a):Int))∧lxs [.tp [], .tp []] (True∧vI 0 q∧TN 43 (lxs [.tp []] True))))∧pt (True)))∧∀ y0:Nat,(y0≤List.length a)→(T4 (bif (ltI y0 (List.length a)) then (T2 ((ZnP y0 a)∧(T4 (bif (neI (Zaf a y0).1 (m + (cntL (List.take y0 a):Int))) then (True∧(rI (-1) (ZaS a m))) else (T5 ((ZnP y0 a)∧(T4 (bif (neI (Zaf a y0).2.1 (w64 ((m + (cntL (List.take y0 a):Int)) + 1))) then (True∧(rI (-1) (ZaS a m))) else (T5 ((ZnP y0 a)∧(T4 (bif (neI (Zaf a y0).2.2.1 (w64 ((w64 ((m + (cntL (List.take y0 a):Int)) + 1)) + 1))) then (True∧(rI (-1) (ZaS a m))) else (T3 ((pt (true=true))∧(T2 ((ZnP y0 a)∧(T3 ((pt (Zfx (w64 ((w64 ((w64 ((m + (cntL (List.take y0 a):Int)) + 1)) + 1)) + 1))))∧(True∧(bif (!eqS (Zaf a y0).2.2.2 (Zb3 (w64 ((w64 ((w64 ((m + (cntL (List.take y0 a):Int)) + 1)) + 1)) + 1)))) then (True∧(rI (-1) (ZaS a m))) else (T6 (∃ y0' : Nat,(y0'≤List.length a)∧(List.length a - y0') < (List.length a - y0)∧((lxs [hn Zai a] (vI (w64 ((w64 ((w64 ((w64 ((m + (cntL (List.take y0 a):Int)) + 1)) + 1)) + 1)) + 1)) (m + (cntL (List.take y0' a):Int))∧lxs [.tp [], .tp []] (True∧vI (w64 ((y0:Int) + 1)) y0'∧TN 43 (lxs [.tp []] True))))∧pt (True)))))))))))))))))))))))) else (T2 (rI (m + (cntL (List.take y0 a):Int)) (ZaS a m)))))))) (by kernel_rfl) ?_
  unfold ZnP T2 T3 T4 T5 T6
  obtain ⟨hmm,hm0,hm1⟩:=hpre
  have hlm:a.length≤maxLen:=hwf.1.1
  unfold maxLen at hlm
  simp only [SIA,eq_self]
  refine ⟨⟨0,Nat.zero_le _,by simp [cntL],rfl⟩,fun k hk=>⟨fun hlt=>?_,fun hge=>?_⟩⟩
  · have hlt:k < a.length:=by omega
    have hg:a[k]?=some (Zaf a k):=Zau (t:=Zai) hlt
    have hc:cntL (List.take (k + 1) a)=cntL (List.take k a) + (1 + (1 + (1 + (1)))):=Zch hg
    have hcl:cntL (List.take (k + 1) a)≤cntL a:=ZdA a (k + 1)
    have hx:=ZdV hmm hg
    have f0:(Zaf a k).1=m + ((cntL (List.take k a):Nat):Int):=(congrArg (fun z=>z.1) hx).trans (by first | rfl | (simp only [GXA]; first | done | omega | (congr 1; omega) | (rw [Zaj (by omega),decide_eq_decide]; done) | (rw [Zaj (by omega),decide_eq_decide]; omega)))
    have f1:(Zaf a k).2.1=m + ((cntL (List.take k a):Nat):Int) + 1:=(congrArg (fun z=>z.2.1) hx).trans (by first | rfl | (simp only [GXA]; first | done | omega | (congr 1; omega) | (rw [Zaj (by omega),decide_eq_decide]; done) | (rw [Zaj (by omega),decide_eq_decide]; omega)))
    have f2:(Zaf a k).2.2.1=m + ((cntL (List.take k a):Nat):Int) + 1 + 1:=(congrArg (fun z=>z.2.2.1) hx).trans (by first | rfl | (simp only [GXA]; first | done | omega | (congr 1; omega) | (rw [Zaj (by omega),decide_eq_decide]; done) | (rw [Zaj (by omega),decide_eq_decide]; omega)))
    have f3:(Zaf a k).2.2.2=Zb3 (m + ((cntL (List.take k a):Nat):Int) + 1 + 1 + 1):=(congrArg (fun z=>z.2.2.2) hx).trans (by first | rfl | (simp only [GXA]; first | done | omega | (congr 1; omega) | (rw [Zaj (by omega),decide_eq_decide]; done) | (rw [Zaj (by omega),decide_eq_decide]; omega)))
    simp (disch:=omega) only [ZaR,ZaX,Zb4,ZaA,Zbd,Za5,ZaY,Zbj,ZaH,ZaS]
    exact ZeW
  · exact ZeY
def ZrP:ZaI Tryz.prog:=⟨136,[.v (.list Zai), .v ZaC],fun x=>ZfM x.1 x.2.1,fun x=>.c (.int .i64 (ZaS x.1 x.2.1)),fun _=>[],fun x hx=>ZrO x.1 x.2.1 hx,Tryz.call136⟩
set_option maxRecDepth 100000
set_option maxHeartbeats 4000000
abbrev ZbM (a:List Zal) (m:Int):Int:=m + ((cntL a:Nat):Int)
abbrev Zd1 (a:List Zal) (m:Int):Prop:=markL a m=a∧0≤m∧m + cntL a≤4611686018427387904
def ZmW (a:List Zal) (m:Int):Nat→List AV→Mem→Zbn
  | 2,tm,M=>⟨Nat,fun y=>(ZcN (ZcV tm [(1, .c (.int .i64 (m + ((cntL (List.take y a):Nat):Int)))),(4, .any),(5, .c (.int .i64 ((y:Nat):Int)))]) 6 184,M),fun y=>(y≤List.length a),fun y=>(List.length a - y)⟩
  | _,_,_=>⟨Unit,fun _=>([],[]),fun _=>False,fun _=>0⟩
def Zdf (y0:Nat) (a:List Zal):Prop:=(ix 17 y0 (List.length a))
def Zdg (a:List Zal) (m:Int):Prop:=(True∧(rI (-1) (ZbM a m)))
theorem ZmX (a:List Zal) (m:Int) (hpre:Zd1 a m):Zat Tryz.prog 54 [.c (.hs .no Zae a), .c (.int .i64 m)] (.c (.int .i64 (ZbM a m))) []:=by
  refine bc0 [ZrM,Zp2,Zb0,ZrP] [] [] [] (ZmW a m) Tryz.func54 (fun hwf=>?_)
  refine Eq.mpr (β:=(T2 ((∃ q:Nat,(q≤List.length a)∧((lxs [hn Zae a] (vI m (m + (cntL (List.take q a):Int))∧lxs [.tp [], .tp []] (True∧vI 0 q∧TN 184 (lxs [.tp []] True))))∧pt (True)))∧∀ y0:Nat,(y0≤List.length a)→(T4 (bif (ltI y0 (List.length a)) then (T2 ((Zdf y0 a)∧(T3 ((3:Int) ≠ 0∧(True∧(some TypeDesc.bool=some TypeDesc.bool∧(bif (!eqO (Zaa a y0).1 (eqI (Int.tmod (m + (cntL (List.take y0 a):Int)) 3) 0)) then (Zdg a m) else (T5 ((Zdf y0 a)∧(T4 (bif (neI (Zaa a y0).2.1 (w64 ((m + (cntL (List.take y0 a):Int)) + 1))) then (Zdg a m) else (T5 ((Zdf y0 a)∧(T4 (bif (neI (Zaa a y0).2.2.1 (w64 ((w64 ((m + (cntL (List.take y0 a):Int)) + 1)) + 1))) then (Zdg a m) else (T5 ((Zdf y0 a)∧(T4 (bif (neI (Zaa a y0).2.2.2.1 (w64 ((w64 ((w64 ((m + (cntL (List.take y0 a):Int)) + 1)) + 1)) + 1))) then (Zdg a m) else (T5 ((Zdf y0 a)∧(T4 ((pt (ZfL (Zaa a y0).2.2.2.2.1 (w64 ((w64 ((w64 ((w64 ((m + (cntL (List.take y0 a):Int)) + 1)) + 1)) + 1)) + 1))))∧(T3 (bif (ltI (ZaH (Zaa a y0).2.2.2.2.1 (w64 ((w64 ((w64 ((w64 ((m + (cntL (List.take y0 a):Int)) + 1)) + 1)) + 1)) + 1))) 0) then (Zdg a m) else (T2 ((Zdf y0 a)∧(T4 ((3:Int) ≠ 0∧(True∧(some TypeDesc.bool=some TypeDesc.bool∧(bif (!eqO (Zaa a y0).2.2.2.2.2.1.1 (eqI (Int.tmod (ZaH (Zaa a y0).2.2.2.2.1 (w64 ((w64 ((w64 ((w64 ((m + (cntL (List.take y0 a):Int)) + 1)) + 1)) + 1)) + 1))) 3) 0)) then (Zdg a m) else (T5 ((Zdf y0 a)∧(T4 ((pt (Ze5 (Zaa a y0).2.2.2.2.2.1.2 (w64 (ZaH (Zaa a y0).2.2.2.2.1 (w64 ((w64 ((w64 ((w64 ((m + (cntL (List.take y0 a):Int)) + 1)) + 1)) + 1)) + 1)) + 1))))∧(T3 (bif (ltI (ZaA (Zaa a y0).2.2.2.2.2.1.2 (w64 (ZaH (Zaa a y0).2.2.2.2.1 (w64 ((w64 ((w64 ((w64 ((m + (cntL (List.take y0 a):Int)) + 1)) + 1)) + 1)) + 1)) + 1))) 0) then (Zdg a m) else ((pt (true=true))∧(T2 ((Zdf y0 a)∧(T3 ((pt (Zfx (ZaA (Zaa a y0).2.2.2.2.2.1.2 (w64 (ZaH (Zaa a y0).2.2.2.2.1 (w64 ((w64 ((w64 ((w64 ((m + (cntL (List.take y0 a):Int)) + 1)) + 1)) + 1)) + 1)) + 1)))))∧(True∧(bif (!eqS (Zaa a y0).2.2.2.2.2.2.1 (Zb3 (ZaA (Zaa a y0).2.2.2.2.2.1.2 (w64 (ZaH (Zaa a y0).2.2.2.2.1 (w64 ((w64 ((w64 ((w64 ((m + (cntL (List.take y0 a):Int)) + 1)) + 1)) + 1)) + 1)) + 1))))) then (Zdg a m) else (T3 ((pt (true=true))∧(T2 ((Zdf y0 a)∧(T3 ((pt (Zfx (w64 (ZaA (Zaa a y0).2.2.2.2.2.1.2 (w64 (ZaH (Zaa a y0).2.2.2.2.1 (w64 ((w64 ((w64 ((w64 ((m + (cntL (List.take y0 a):Int)) + 1)) + 1)) + 1)) + 1)) + 1)) + 1))))∧(True∧(bif (!eqS (Zaa a y0).2.2.2.2.2.2.2.1 (Zb3 (w64 (ZaA (Zaa a y0).2.2.2.2.2.1.2 (w64 (ZaH (Zaa a y0).2.2.2.2.1 (w64 ((w64 ((w64 ((w64 ((m + (cntL (List.take y0 a):Int)) + 1)) + 1)) + 1)) + 1)) + 1)) + 1)))) then (Zdg a m) else (T5 ((Zdf y0 a)∧(T4 ((pt (ZfM (Zaa a y0).2.2.2.2.2.2.2.2.1.1 (w64 ((w64 (ZaA (Zaa a y0).2.2.2.2.2.1.2 (w64 (ZaH (Zaa a y0).2.2.2.2.1 (w64 ((w64 ((w64 ((w64 ((m + (cntL (List.take y0 a):Int)) + 1)) + 1)) + 1)) + 1)) + 1)) + 1)) + 1))))∧(T3 (bif (ltI (ZaS (Zaa a y0).2.2.2.2.2.2.2.2.1.1 (w64 ((w64 (ZaA (Zaa a y0).2.2.2.2.2.1.2 (w64 (ZaH (Zaa a y0).2.2.2.2.1 (w64 ((w64 ((w64 ((w64 ((m + (cntL (List.take y0 a):Int)) + 1)) + 1)) + 1)) + 1)) + 1)) + 1)) + 1))) 0) then (Zdg a m) else (T2 ((Zdf y0 a)∧(T4 ((3:Int) ≠ 0∧(True∧(some TypeDesc.bool=some TypeDesc.bool∧(bif (!eqO (Zaa a y0).2.2.2.2.2.2.2.2.1.2.1 (eqI (Int.tmod (ZaS (Zaa a y0).2.2.2.2.2.2.2.2.1.1 (w64 ((w64 (ZaA (Zaa a y0).2.2.2.2.2.1.2 (w64 (ZaH (Zaa a y0).2.2.2.2.1 (w64 ((w64 ((w64 ((w64 ((m + (cntL (List.take y0 a):Int)) + 1)) + 1)) + 1)) + 1)) + 1)) + 1)) + 1))) 3) 0)) then (Zdg a m) else (T5 ((Zdf y0 a)∧(T4 ((3:Int) ≠ 0∧(True∧(some TypeDesc.bool=some TypeDesc.bool∧(bif (!eqO (Zaa a y0).2.2.2.2.2.2.2.2.1.2.2 (eqI (Int.tmod (w64 (ZaS (Zaa a y0).2.2.2.2.2.2.2.2.1.1 (w64 ((w64 (ZaA (Zaa a y0).2.2.2.2.2.1.2 (w64 (ZaH (Zaa a y0).2.2.2.2.1 (w64 ((w64 ((w64 ((w64 ((m + (cntL (List.take y0 a):Int)) + 1)) + 1)) + 1)) + 1)) + 1)) + 1)) + 1)) + 1)) 3) 0)) then (Zdg a m) else (T3 ((pt (true=true))∧(T2 ((Zdf y0 a)∧(T4 ((pt (Zfx (w64 ((w64 (ZaS (Zaa a y0).2.2.2.2.2.2.2.2.1.1 (w64 ((w64 (ZaA (Zaa a y0).2.2.2.2.2.1.2 (w64 (ZaH (Zaa a y0).2.2.2.2.1 (w64 ((w64 ((w64 ((w64 ((m + (cntL (List.take y0 a):Int)) + 1)) + 1)) + 1)) + 1)) + 1)) + 1)) + 1)) + 1)) + 1))))∧(True∧(bif (!eqS (Zaa a y0).2.2.2.2.2.2.2.2.2.1.1 (Zb3 (w64 ((w64 (ZaS (Zaa a y0).2.2.2.2.2.2.2.2.1.1 (w64 ((w64 (ZaA (Zaa a y0).2.2.2.2.2.1.2 (w64 (ZaH (Zaa a y0).2.2.2.2.1 (w64 ((w64 ((w64 ((w64 ((m + (cntL (List.take y0 a):Int)) + 1)) + 1)) + 1)) + 1)) + 1)) + 1)) + 1)) + 1)) + 1)))) then (Zdg a m) else (T5 ((Zdf y0 a)∧(T4 ((3:Int) ≠ 0∧(True∧(some TypeDesc.bool=some TypeDesc.bool∧(bif (!eqO (Zaa a y0).2.2.2.2.2.2.2.2.2.1.2 (eqI (Int.tmod (w64 ((w64 ((w64 (ZaS (Zaa a y0).2.2.2.2.2.2.2.2.1.1 (w64 ((w64 (ZaA (Zaa a y0).2.2.2.2.2.1.2 (w64 (ZaH (Zaa a y0).2.2.2.2.1 (w64 ((w64 ((w64 ((w64 ((m + (cntL (List.take y0 a):Int)) + 1)) + 1)) + 1)) + 1)) + 1)) + 1)) + 1)) + 1)) + 1)) + 1)) 3) 0)) then (Zdg a m) else (T3 ((pt (true=true))∧(T2 ((Zdf y0 a)∧(T4 ((pt (Zfx (w64 ((w64 ((w64 ((w64 (ZaS (Zaa a y0).2.2.2.2.2.2.2.2.1.1 (w64 ((w64 (ZaA (Zaa a y0).2.2.2.2.2.1.2 (w64 (ZaH (Zaa a y0).2.2.2.2.1 (w64 ((w64 ((w64 ((w64 ((m + (cntL (List.take y0 a):Int)) + 1)) + 1)) + 1)) + 1)) + 1)) + 1)) + 1)) + 1)) + 1)) + 1)) + 1))))∧(True∧(bif (!eqS (Zaa a y0).2.2.2.2.2.2.2.2.2.2.1.1 (Zb3 (w64 ((w64 ((w64 ((w64 (ZaS (Zaa a y0).2.2.2.2.2.2.2.2.1.1 (w64 ((w64 (ZaA (Zaa a y0).2.2.2.2.2.1.2 (w64 (ZaH (Zaa a y0).2.2.2.2.1 (w64 ((w64 ((w64 ((w64 ((m + (cntL (List.take y0 a):Int)) + 1)) + 1)) + 1)) + 1)) + 1)) + 1)) + 1)) + 1)) + 1)) + 1)) + 1)))) then (Zdg a m) else (T3 ((pt (true=true))∧(T2 ((Zdf y0 a)∧(T4 ((pt (Zfx (w64 ((w64 ((w64 ((w64 ((w64 (ZaS (Zaa a y0).2.2.2.2.2.2.2.2.1.1 (w64 ((w64 (ZaA (Zaa a y0).2.2.2.2.2.1.2 (w64 (ZaH (Zaa a y0).2.2.2.2.1 (w64 ((w64 ((w64 ((w64 ((m + (cntL (List.take y0 a):Int)) + 1)) + 1)) + 1)) + 1)) + 1)) + 1)) + 1)) + 1)) + 1)) + 1)) + 1)) + 1))))∧(True∧(bif (!eqS (Zaa a y0).2.2.2.2.2.2.2.2.2.2.1.2 (Zb3 (w64 ((w64 ((w64 ((w64 ((w64 (ZaS (Zaa a y0).2.2.2.2.2.2.2.2.1.1 (w64 ((w64 (ZaA (Zaa a y0).2.2.2.2.2.1.2 (w64 (ZaH (Zaa a y0).2.2.2.2.1 (w64 ((w64 ((w64 ((w64 ((m + (cntL (List.take y0 a):Int)) + 1)) + 1)) + 1)) + 1)) + 1)) + 1)) + 1)) + 1)) + 1)) + 1)) + 1)) + 1)))) then (Zdg a m) else (T5 ((Zdf y0 a)∧(T4 (bif (neI (Zaa a y0).2.2.2.2.2.2.2.2.2.2.2 (w64 ((w64 ((w64 ((w64 ((w64 ((w64 (ZaS (Zaa a y0).2.2.2.2.2.2.2.2.1.1 (w64 ((w64 (ZaA (Zaa a y0).2.2.2.2.2.1.2 (w64 (ZaH (Zaa a y0).2.2.2.2.1 (w64 ((w64 ((w64 ((w64 ((m + (cntL (List.take y0 a):Int)) + 1)) + 1)) + 1)) + 1)) + 1)) + 1)) + 1)) + 1)) + 1)) + 1)) + 1)) + 1)) + 1))) then (Zdg a m) else (T6 (∃ y0' : Nat,(y0'≤List.length a)∧(List.length a - y0') < (List.length a - y0)∧((lxs [hn Zae a] (vI (w64 ((w64 ((w64 ((w64 ((w64 ((w64 ((w64 (ZaS (Zaa a y0).2.2.2.2.2.2.2.2.1.1 (w64 ((w64 (ZaA (Zaa a y0).2.2.2.2.2.1.2 (w64 (ZaH (Zaa a y0).2.2.2.2.1 (w64 ((w64 ((w64 ((w64 ((m + (cntL (List.take y0 a):Int)) + 1)) + 1)) + 1)) + 1)) + 1)) + 1)) + 1)) + 1)) + 1)) + 1)) + 1)) + 1)) + 1)) + 1)) (m + (cntL (List.take y0' a):Int))∧lxs [.tp [], .tp []] (True∧vI (w64 ((y0:Int) + 1)) y0'∧TN 184 (lxs [.tp []] True))))∧pt (True)))))))))))))))))))))))))))))))))))))))))))))))))))))))))))))))))))))))))))))))))))))))))))))))))))))))))))))))) else (T2 (rI (m + (cntL (List.take y0 a):Int)) (ZbM a m)))))))) (by kernel_rfl) ?_
  unfold Zdg Zdf T2 T3 T4 T5 T6
  obtain ⟨hmm,hm0,hm1⟩:=hpre
  have hlm:a.length≤maxLen:=hwf.1.1
  unfold maxLen at hlm
  simp only [SIA,eq_self]
  refine ⟨⟨0,Nat.zero_le _,by simp [cntL],rfl⟩,fun k hk=>⟨fun hlt=>?_,fun hge=>?_⟩⟩
  · have hlt:k < a.length:=by omega
    have hg:a[k]?=some (Zaa a k):=Zau (t:=Zae) hlt
    have hc:cntL (List.take (k + 1) a)=cntL (List.take k a) + (1 + (1 + (1 + (1 + (cntL (Zaa a k).2.2.2.2.1 + (1 + (cntL (Zaa a k).2.2.2.2.2.1.2) + (1 + (1 + (cntL (Zaa a k).2.2.2.2.2.2.2.2.1.1 + (1 + (1)) + (1 + (1) + (1 + (1) + (1)))))))))))):=Zch hg
    have hcl:cntL (List.take (k + 1) a)≤cntL a:=ZdA a (k + 1)
    have hx:=ZdV hmm hg
    have f0:(Zaa a k).1=eqI (Int.tmod (m + ((cntL (List.take k a):Nat):Int)) 3) 0:=(congrArg (fun z=>z.1) hx).trans (by first | rfl | (simp only [GXA]; first | done | omega | (congr 1; omega) | (rw [Zaj (by omega),decide_eq_decide]; done) | (rw [Zaj (by omega),decide_eq_decide]; omega)))
    have f1:(Zaa a k).2.1=m + ((cntL (List.take k a):Nat):Int) + 1:=(congrArg (fun z=>z.2.1) hx).trans (by first | rfl | (simp only [GXA]; first | done | omega | (congr 1; omega) | (rw [Zaj (by omega),decide_eq_decide]; done) | (rw [Zaj (by omega),decide_eq_decide]; omega)))
    have f2:(Zaa a k).2.2.1=m + ((cntL (List.take k a):Nat):Int) + 1 + 1:=(congrArg (fun z=>z.2.2.1) hx).trans (by first | rfl | (simp only [GXA]; first | done | omega | (congr 1; omega) | (rw [Zaj (by omega),decide_eq_decide]; done) | (rw [Zaj (by omega),decide_eq_decide]; omega)))
    have f3:(Zaa a k).2.2.2.1=m + ((cntL (List.take k a):Nat):Int) + 1 + 1 + 1:=(congrArg (fun z=>z.2.2.2.1) hx).trans (by first | rfl | (simp only [GXA]; first | done | omega | (congr 1; omega) | (rw [Zaj (by omega),decide_eq_decide]; done) | (rw [Zaj (by omega),decide_eq_decide]; omega)))
    have f4:(Zaa a k).2.2.2.2.1=markL ((Zaa a k).2.2.2.2.1) (m + ((cntL (List.take k a):Nat):Int) + 1 + 1 + 1 + 1):=(congrArg (fun z=>z.2.2.2.2.1) hx).trans (by first | rfl | (simp only [GXA]; first | done | omega | (congr 1; omega) | (rw [Zaj (by omega),decide_eq_decide]; done) | (rw [Zaj (by omega),decide_eq_decide]; omega)))
    have f5:(Zaa a k).2.2.2.2.2.1.1=eqI (Int.tmod (m + ((cntL (List.take k a):Nat):Int) + 1 + 1 + 1 + 1 + ((cntL ((Zaa a k).2.2.2.2.1):Nat):Int)) 3) 0:=(congrArg (fun z=>z.2.2.2.2.2.1.1) hx).trans (by first | rfl | (simp only [GXA]; first | done | omega | (congr 1; omega) | (rw [Zaj (by omega),decide_eq_decide]; done) | (rw [Zaj (by omega),decide_eq_decide]; omega)))
    have f6:(Zaa a k).2.2.2.2.2.1.2=markL ((Zaa a k).2.2.2.2.2.1.2) (m + ((cntL (List.take k a):Nat):Int) + 1 + 1 + 1 + 1 + ((cntL ((Zaa a k).2.2.2.2.1):Nat):Int) + 1):=(congrArg (fun z=>z.2.2.2.2.2.1.2) hx).trans (by first | rfl | (simp only [GXA]; first | done | omega | (congr 1; omega) | (rw [Zaj (by omega),decide_eq_decide]; done) | (rw [Zaj (by omega),decide_eq_decide]; omega)))
    have f7:(Zaa a k).2.2.2.2.2.2.1=Zb3 (m + ((cntL (List.take k a):Nat):Int) + 1 + 1 + 1 + 1 + ((cntL ((Zaa a k).2.2.2.2.1):Nat):Int) + 1 + ((cntL ((Zaa a k).2.2.2.2.2.1.2):Nat):Int)):=(congrArg (fun z=>z.2.2.2.2.2.2.1) hx).trans (by first | rfl | (simp only [GXA]; first | done | omega | (congr 1; omega) | (rw [Zaj (by omega),decide_eq_decide]; done) | (rw [Zaj (by omega),decide_eq_decide]; omega)))
    have f8:(Zaa a k).2.2.2.2.2.2.2.1=Zb3 (m + ((cntL (List.take k a):Nat):Int) + 1 + 1 + 1 + 1 + ((cntL ((Zaa a k).2.2.2.2.1):Nat):Int) + 1 + ((cntL ((Zaa a k).2.2.2.2.2.1.2):Nat):Int) + 1):=(congrArg (fun z=>z.2.2.2.2.2.2.2.1) hx).trans (by first | rfl | (simp only [GXA]; first | done | omega | (congr 1; omega) | (rw [Zaj (by omega),decide_eq_decide]; done) | (rw [Zaj (by omega),decide_eq_decide]; omega)))
    have f9:(Zaa a k).2.2.2.2.2.2.2.2.1.1=markL ((Zaa a k).2.2.2.2.2.2.2.2.1.1) (m + ((cntL (List.take k a):Nat):Int) + 1 + 1 + 1 + 1 + ((cntL ((Zaa a k).2.2.2.2.1):Nat):Int) + 1 + ((cntL ((Zaa a k).2.2.2.2.2.1.2):Nat):Int) + 1 + 1):=(congrArg (fun z=>z.2.2.2.2.2.2.2.2.1.1) hx).trans (by first | rfl | (simp only [GXA]; first | done | omega | (congr 1; omega) | (rw [Zaj (by omega),decide_eq_decide]; done) | (rw [Zaj (by omega),decide_eq_decide]; omega)))
    have f10:(Zaa a k).2.2.2.2.2.2.2.2.1.2.1=eqI (Int.tmod (m + ((cntL (List.take k a):Nat):Int) + 1 + 1 + 1 + 1 + ((cntL ((Zaa a k).2.2.2.2.1):Nat):Int) + 1 + ((cntL ((Zaa a k).2.2.2.2.2.1.2):Nat):Int) + 1 + 1 + ((cntL ((Zaa a k).2.2.2.2.2.2.2.2.1.1):Nat):Int)) 3) 0:=(congrArg (fun z=>z.2.2.2.2.2.2.2.2.1.2.1) hx).trans (by first | rfl | (simp only [GXA]; first | done | omega | (congr 1; omega) | (rw [Zaj (by omega),decide_eq_decide]; done) | (rw [Zaj (by omega),decide_eq_decide]; omega)))
    have f11:(Zaa a k).2.2.2.2.2.2.2.2.1.2.2=eqI (Int.tmod (m + ((cntL (List.take k a):Nat):Int) + 1 + 1 + 1 + 1 + ((cntL ((Zaa a k).2.2.2.2.1):Nat):Int) + 1 + ((cntL ((Zaa a k).2.2.2.2.2.1.2):Nat):Int) + 1 + 1 + ((cntL ((Zaa a k).2.2.2.2.2.2.2.2.1.1):Nat):Int) + 1) 3) 0:=(congrArg (fun z=>z.2.2.2.2.2.2.2.2.1.2.2) hx).trans (by first | rfl | (simp only [GXA]; first | done | omega | (congr 1; omega) | (rw [Zaj (by omega),decide_eq_decide]; done) | (rw [Zaj (by omega),decide_eq_decide]; omega)))
    have f12:(Zaa a k).2.2.2.2.2.2.2.2.2.1.1=Zb3 (m + ((cntL (List.take k a):Nat):Int) + 1 + 1 + 1 + 1 + ((cntL ((Zaa a k).2.2.2.2.1):Nat):Int) + 1 + ((cntL ((Zaa a k).2.2.2.2.2.1.2):Nat):Int) + 1 + 1 + ((cntL ((Zaa a k).2.2.2.2.2.2.2.2.1.1):Nat):Int) + 1 + 1):=(congrArg (fun z=>z.2.2.2.2.2.2.2.2.2.1.1) hx).trans (by first | rfl | (simp only [GXA]; first | done | omega | (congr 1; omega) | (rw [Zaj (by omega),decide_eq_decide]; done) | (rw [Zaj (by omega),decide_eq_decide]; omega)))
    have f13:(Zaa a k).2.2.2.2.2.2.2.2.2.1.2=eqI (Int.tmod (m + ((cntL (List.take k a):Nat):Int) + 1 + 1 + 1 + 1 + ((cntL ((Zaa a k).2.2.2.2.1):Nat):Int) + 1 + ((cntL ((Zaa a k).2.2.2.2.2.1.2):Nat):Int) + 1 + 1 + ((cntL ((Zaa a k).2.2.2.2.2.2.2.2.1.1):Nat):Int) + 1 + 1 + 1) 3) 0:=(congrArg (fun z=>z.2.2.2.2.2.2.2.2.2.1.2) hx).trans (by first | rfl | (simp only [GXA]; first | done | omega | (congr 1; omega) | (rw [Zaj (by omega),decide_eq_decide]; done) | (rw [Zaj (by omega),decide_eq_decide]; omega)))
    have f14:(Zaa a k).2.2.2.2.2.2.2.2.2.2.1.1=Zb3 (m + ((cntL (List.take k a):Nat):Int) + 1 + 1 + 1 + 1 + ((cntL ((Zaa a k).2.2.2.2.1):Nat):Int) + 1 + ((cntL ((Zaa a k).2.2.2.2.2.1.2):Nat):Int) + 1 + 1 + ((cntL ((Zaa a k).2.2.2.2.2.2.2.2.1.1):Nat):Int) + 1 + 1 + 1 + 1):=(congrArg (fun z=>z.2.2.2.2.2.2.2.2.2.2.1.1) hx).trans (by first | rfl | (simp only [GXA]; first | done | omega | (congr 1; omega) | (rw [Zaj (by omega),decide_eq_decide]; done) | (rw [Zaj (by omega),decide_eq_decide]; omega)))
    have f15:(Zaa a k).2.2.2.2.2.2.2.2.2.2.1.2=Zb3 (m + ((cntL (List.take k a):Nat):Int) + 1 + 1 + 1 + 1 + ((cntL ((Zaa a k).2.2.2.2.1):Nat):Int) + 1 + ((cntL ((Zaa a k).2.2.2.2.2.1.2):Nat):Int) + 1 + 1 + ((cntL ((Zaa a k).2.2.2.2.2.2.2.2.1.1):Nat):Int) + 1 + 1 + 1 + 1 + 1):=(congrArg (fun z=>z.2.2.2.2.2.2.2.2.2.2.1.2) hx).trans (by first | rfl | (simp only [GXA]; first | done | omega | (congr 1; omega) | (rw [Zaj (by omega),decide_eq_decide]; done) | (rw [Zaj (by omega),decide_eq_decide]; omega)))
    have f16:(Zaa a k).2.2.2.2.2.2.2.2.2.2.2=m + ((cntL (List.take k a):Nat):Int) + 1 + 1 + 1 + 1 + ((cntL ((Zaa a k).2.2.2.2.1):Nat):Int) + 1 + ((cntL ((Zaa a k).2.2.2.2.2.1.2):Nat):Int) + 1 + 1 + ((cntL ((Zaa a k).2.2.2.2.2.2.2.2.1.1):Nat):Int) + 1 + 1 + 1 + 1 + 1 + 1:=(congrArg (fun z=>z.2.2.2.2.2.2.2.2.2.2.2) hx).trans (by first | rfl | (simp only [GXA]; first | done | omega | (congr 1; omega) | (rw [Zaj (by omega),decide_eq_decide]; done) | (rw [Zaj (by omega),decide_eq_decide]; omega)))
    simp (disch:=omega) only [ZaR,ZaX,Zb4,ZaA,Zbd,Za5,ZaY,Zbj,ZaH,ZaS,ZbM]
    exact ZeW
  · exact ZeY
def ZmY:ZaI Tryz.prog:=⟨54,[.v (.list Zae), .v ZaC],fun x=>Zd1 x.1 x.2.1,fun x=>.c (.int .i64 (ZbM x.1 x.2.1)),fun _=>[],fun x hx=>ZmX x.1 x.2.1 hx,Tryz.call54⟩
abbrev Zby (a:Za6) (m:Int):Int:=m + ((cntI a:Nat):Int)
abbrev ZdI (a:Za6) (m:Int):Prop:=mrkI a m=a∧0≤m∧m + cntI a≤4611686018427387904
theorem Zp3 (a:Za6) (m:Int) (hpre:ZdI a m):Zat Tryz.prog 17 [.ag (cellsOf Zbp a), .c (.int .i64 m)] (.c (.int .i64 (Zby a m))) []:=by
  refine bc0 [ZrJ,ZmY] [] [] [] L0 Tryz.func17 (fun hwf=>?_)
  refine Eq.mpr (β:=(T5 ((pt (ZfK a.1 m))∧(T3 (bif (ltI (Zbj a.1 m) 0) then (True∧(rI (-1) (Zby a m))) else (T3 ((pt (Zd1 a.2 (Zbj a.1 m)))∧(T3 (bif (ltI (ZbM a.2 (Zbj a.1 m)) 0) then (True∧(rI (-1) (Zby a m))) else (T2 (rI (ZbM a.2 (Zbj a.1 m)) (Zby a m)))))))))))) (by kernel_rfl) ?_
  obtain ⟨hmm,hm0,hm1⟩:=hpre
  have hc0:cntI a=cntL a.1.1 + (cntL a.1.2.1 + (0)) + (cntL a.2):=rfl
  have hc1:cntI a.1=cntL a.1.1 + (cntL a.1.2.1 + (0)):=rfl
  have g0:mrkI a.1 (m)=a.1:=by
    have h0:a.1=mrkI a.1 (m):=congrArg (fun z:Za6=>z.1) hmm.symm
    exact ZwF
  have g1:markL a.2 (m + ((cntI a.1:Nat):Int))=a.2:=by
    have h0:a.2=markL a.2 (m + ((cntI a.1:Nat):Int)):=congrArg (fun z:Za6=>z.2) hmm.symm
    have hK:m + ((cntI a.1:Nat):Int)=m + ((cntI a.1:Nat):Int):=by first | rfl | (simp only [gc1,gc2,gc3,gc4]; omega) | omega
    rw [hK] at h0
    exact h0.symm
  simp only [SIA,eq_self]
  simp only [ZaX,Zb4,ZaA,Zbd,Za5,ZaY,Zbj,ZaH,ZaS,ZbM,Zby]
  exact Zwd
def Zp4:ZaI Tryz.prog:=⟨17,[.s Zbp, .v ZaC],fun x=>ZdI x.1 x.2.1,fun x=>.c (.int .i64 (Zby x.1 x.2.1)),fun _=>[],fun x hx=>Zp3 x.1 x.2.1 hx,Tryz.call17⟩
end Go.Proofs.YtkompmgleojmlaaGreat
