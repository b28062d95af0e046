import Derived.Test.YtkeglpnnedflnaaGreatDoorPMarkB
set_option linter.unusedSimpArgs false
set_option linter.unusedVariables false
set_option maxRecDepth 100000
set_option maxHeartbeats 4000000
namespace Go.Proofs.YtkeglpnnedflnaaGreatDoor
open Go.ChangeShapes Go.WideShapes Go.ChangeAt Go.RowKit Go.Joins Go.Deep
open GoRep (rep bulk)
open GoMark (mrk cnt mrkI cntI)
abbrev ZaP (a:List ByteArray) (m:Int):Int:=m + ((cntL a:Nat):Int)
abbrev ZdX (a:List ByteArray) (m:Int):Prop:=markL a m=a∧0≤m∧m + cntL a≤4611686018427387904
def Zm1 (a:List ByteArray) (m:Int):Nat→List AV→Mem→Zbe
 | 2,tm,M=>⟨Nat,fun y=>(Zcp (ZcG tm [(1, .c (.int .i64 (m + ((cntL (List.take y a):Nat):Int)))),(4, .any),(5, .c (.int .i64 ((y:Nat):Int)))]) 6 15,M),fun y=>(y≤List.length a),fun y=>(List.length a - y)⟩
 | _,_,_=>⟨Unit,fun _=>([],[]),fun _=>False,fun _=>0⟩
theorem Zm2 (a:List ByteArray) (m:Int) (hpre:ZdX a m):Zaq Tryz.prog 180 [.c (.hs .no Zah a), .c (.int .i64 m)] (.c (.int .i64 (ZaP a m))) []:=by
 refine bc0 [Zh1] [] [] [] (Zm1 a m) Tryz.func180 (fun hwf=>?_)
 refine Eq.mpr (β:=T2 ((∃ q:Nat,(q≤a.length)∧lxs [hn Zah a] (vI m (m + (cntL (List.take q a):Int))∧lxs [.tp [], .tp []] (True∧vI 0 q∧TN 15 (lxs [.tp []] True)))∧pt (True))∧∀ y0:Nat,(y0≤a.length)→T4 (bif ltI y0 a.length then pt (true=true)∧T2 (ix 1 y0 a.length∧T2 (pt (ZEz (m + (cntL (List.take y0 a):Int)))∧True∧bif !eqS (Zaa a y0) (ZiF (m + (cntL (List.take y0 a):Int))) then True∧rI (-1) (ZaP a m) else T6 (∃ y0' : Nat,(y0'≤a.length)∧(a.length - y0') < (a.length - y0)∧lxs [hn Zah a] (vI (w64 ((m + (cntL (List.take y0 a):Int)) + 1)) (m + (cntL (List.take y0' a):Int))∧lxs [.tp [], .tp []] (True∧vI (w64 ((y0:Int) + 1)) y0'∧TN 15 (lxs [.tp []] True)))∧pt (True)))) else T2 (rI (m + (cntL (List.take y0 a):Int)) (ZaP a m))))) (by kernel_rfl) ?_
 unfold T2 T4 T6
 obtain ⟨hmm,hm0,hm1⟩:=hpre
 have hlm:a.length≤maxLen:=hwf.1.1
 unfold maxLen at hlm
 simp only [SIA,eq_self]
 refine ⟨⟨0,Nat.zero_le _,by simp [cntL],rfl⟩,fun k hk=>⟨fun hlt=>?_,fun hge=>?_⟩⟩
 ·have hlt:k < a.length:=by omega
  have hg:a[k]?=some (Zaa a k):=Zat (t:=Zah) hlt
  have hc:cntL (List.take (k + 1) a)=cntL (List.take k a) + (1):=Zfv hg
  have hcl:cntL (List.take (k + 1) a)≤cntL a:=Zjv a (k + 1)
  have hx:=ZlN hmm hg
  have f0:(Zaa a k)=ZiF (m + ((cntL (List.take k a):Nat):Int)):=(congrArg (fun z=>z) hx).trans (by first | rfl | (simp only [GXA]; first | done | omega | (congr 1; omega) | (rw [Zcu (by omega),decide_eq_decide]; done) | (rw [Zcu (by omega),decide_eq_decide]; omega)))
  simp (disch:=omega) only [Zb9,ZaP]
  all_goals exact ZoQ
 ·exact Zo3
def Zm3:ZaD Tryz.prog:=⟨180,[.v (.list Zah), .v ZaF],fun x=>ZdX x.1 x.2.1,fun x=>.c (.int .i64 (ZaP x.1 x.2.1)),fun _=>[],fun x hx=>Zm2 x.1 x.2.1 hx,Tryz.call180⟩
abbrev ZaY (a:List Zaj) (m:Int):Int:=m + ((cntL a:Nat):Int)
abbrev Ze6 (a:List Zaj) (m:Int):Prop:=markL a m=a∧0≤m∧m + cntL a≤4611686018427387904
def Zrh (a:List Zaj) (m:Int):Nat→List AV→Mem→Zbe
 | 2,tm,M=>⟨Nat,fun y=>(Zcp (ZcG tm [(1, .c (.int .i64 (m + ((cntL (List.take y a):Nat):Int)))),(4, .any),(5, .c (.int .i64 ((y:Nat):Int)))]) 6 24,M),fun y=>(y≤List.length a),fun y=>(List.length a - y)⟩
 | _,_,_=>⟨Unit,fun _=>([],[]),fun _=>False,fun _=>0⟩
theorem Zri (a:List Zaj) (m:Int) (hpre:Ze6 a m):Zaq Tryz.prog 76 [.c (.hs .no Zai a), .c (.int .i64 m)] (.c (.int .i64 (ZaY a m))) []:=by
 refine bc0 [] [] [] [] (Zrh a m) Tryz.func76 (fun hwf=>?_)
 refine Eq.mpr (β:=T2 ((∃ q:Nat,(q≤a.length)∧lxs [hn Zai a] (vI m (m + (cntL (List.take q a):Int))∧lxs [.tp [], .tp []] (True∧vI 0 q∧TN 24 (lxs [.tp []] True)))∧pt (True))∧∀ y0:Nat,(y0≤a.length)→T4 (bif ltI y0 a.length then T2 (ix 2 y0 a.length∧T4 (bif neI (Zak a y0).1 (m + (cntL (List.take y0 a):Int)) then True∧rI (-1) (ZaY a m) else T5 (ix 2 y0 a.length∧T4 (bif neI (Zak a y0).2 (w64 ((m + (cntL (List.take y0 a):Int)) + 1)) then True∧rI (-1) (ZaY a m) else T6 (∃ y0' : Nat,(y0'≤a.length)∧(a.length - y0') < (a.length - y0)∧lxs [hn Zai a] (vI (w64 ((w64 ((m + (cntL (List.take y0 a):Int)) + 1)) + 1)) (m + (cntL (List.take y0' a):Int))∧lxs [.tp [], .tp []] (True∧vI (w64 ((y0:Int) + 1)) y0'∧TN 24 (lxs [.tp []] True)))∧pt (True)))))) else T2 (rI (m + (cntL (List.take y0 a):Int)) (ZaY a m))))) (by kernel_rfl) ?_
 unfold T2 T4 T5 T6
 obtain ⟨hmm,hm0,hm1⟩:=hpre
 have hlm:a.length≤maxLen:=hwf.1.1
 unfold maxLen at hlm
 simp only [SIA,eq_self]
 refine ⟨⟨0,Nat.zero_le _,by simp [cntL],rfl⟩,fun k hk=>⟨fun hlt=>?_,fun hge=>?_⟩⟩
 ·have hlt:k < a.length:=by omega
  have hg:a[k]?=some (Zak a k):=Zat (t:=Zai) hlt
  have hc:cntL (List.take (k + 1) a)=cntL (List.take k a) + (1 + (1)):=Zfv hg
  have hcl:cntL (List.take (k + 1) a)≤cntL a:=Zjv a (k + 1)
  have hx:=ZlN hmm hg
  have f0:(Zak a k).1=m + ((cntL (List.take k a):Nat):Int):=(congrArg (fun z=>z.1) hx).trans (by first | rfl | (simp only [GXA]; first | done | omega | (congr 1; omega) | (rw [Zcu (by omega),decide_eq_decide]; done) | (rw [Zcu (by omega),decide_eq_decide]; omega)))
  have f1:(Zak a k).2=m + ((cntL (List.take k a):Nat):Int) + 1:=(congrArg (fun z=>z.2) hx).trans (by first | rfl | (simp only [GXA]; first | done | omega | (congr 1; omega) | (rw [Zcu (by omega),decide_eq_decide]; done) | (rw [Zcu (by omega),decide_eq_decide]; omega)))
  simp (disch:=omega) only [Zb9,ZaP,ZaY]
  all_goals exact ZoQ
 ·exact Zo3
def Zrj:ZaD Tryz.prog:=⟨76,[.v (.list Zai), .v ZaF],fun x=>Ze6 x.1 x.2.1,fun x=>.c (.int .i64 (ZaY x.1 x.2.1)),fun _=>[],fun x hx=>Zri x.1 x.2.1 hx,Tryz.call76⟩
abbrev Za6 (a:List GScope) (m:Int):Int:=m + ((cntL a:Nat):Int)
abbrev ZeC (a:List GScope) (m:Int):Prop:=markL a m=a∧0≤m∧m + cntL a≤4611686018427387904
def Zpi (a:List GScope) (m:Int):Nat→List AV→Mem→Zbe
 | 2,tm,M=>⟨Nat,fun y=>(Zcp (ZcG tm [(1, .c (.int .i64 (m + ((cntL (List.take y a):Nat):Int)))),(4, .any),(5, .c (.int .i64 ((y:Nat):Int)))]) 6 33,M),fun y=>(y≤List.length a),fun y=>(List.length a - y)⟩
 | _,_,_=>⟨Unit,fun _=>([],[]),fun _=>False,fun _=>0⟩
def Zrk (y0:Nat) (a:List GScope):Prop:=ix 3 y0 a.length
theorem Zpj (a:List GScope) (m:Int) (hpre:ZeC a m):Zaq Tryz.prog 133 [.c (.hs .no Zae a), .c (.int .i64 m)] (.c (.int .i64 (Za6 a m))) []:=by
 refine bc0 [Zm3] [] [] [] (Zpi a m) Tryz.func133 (fun hwf=>?_)
 refine Eq.mpr (β:=T2 ((∃ q:Nat,(q≤a.length)∧lxs [hn Zae a] (vI m (m + (cntL (List.take q a):Int))∧lxs [.tp [], .tp []] (True∧vI 0 q∧TN 33 (lxs [.tp []] True)))∧pt (True))∧∀ y0:Nat,(y0≤a.length)→T4 (bif ltI y0 a.length then T2 (Zrk y0 a∧T4 (bif neI (Zad a y0).1 (m + (cntL (List.take y0 a):Int)) then True∧rI (-1) (Za6 a m) else T5 (Zrk y0 a∧T3 (pt (ZdX (Zad a y0).2.1 (w64 ((m + (cntL (List.take y0 a):Int)) + 1)))∧T3 (bif ltI (ZaP (Zad a y0).2.1 (w64 ((m + (cntL (List.take y0 a):Int)) + 1))) 0 then True∧rI (-1) (Za6 a m) else T2 (Zrk y0 a∧T4 (bif neI (Zad a y0).2.2 (ZaP (Zad a y0).2.1 (w64 ((m + (cntL (List.take y0 a):Int)) + 1))) then True∧rI (-1) (Za6 a m) else T6 (∃ y0' : Nat,(y0'≤a.length)∧(a.length - y0') < (a.length - y0)∧lxs [hn Zae a] (vI (w64 (ZaP (Zad a y0).2.1 (w64 ((m + (cntL (List.take y0 a):Int)) + 1)) + 1)) (m + (cntL (List.take y0' a):Int))∧lxs [.tp [], .tp []] (True∧vI (w64 ((y0:Int) + 1)) y0'∧TN 33 (lxs [.tp []] True)))∧pt (True))))))))) else T2 (rI (m + (cntL (List.take y0 a):Int)) (Za6 a m))))) (by kernel_rfl) ?_
 unfold Zrk T2 T3 T4 T5 T6
 obtain ⟨hmm,hm0,hm1⟩:=hpre
 have hlm:a.length≤maxLen:=hwf.1.1
 unfold maxLen at hlm
 simp only [SIA,eq_self]
 refine ⟨⟨0,Nat.zero_le _,by simp [cntL],rfl⟩,fun k hk=>⟨fun hlt=>?_,fun hge=>?_⟩⟩
 ·have hlt:k < a.length:=by omega
  have hg:a[k]?=some (Zad a k):=Zat (t:=Zae) hlt
  have hc:cntL (List.take (k + 1) a)=cntL (List.take k a) + (1 + (cntL (Zad a k).2.1 + (1))):=Zfv hg
  have hcl:cntL (List.take (k + 1) a)≤cntL a:=Zjv a (k + 1)
  have hx:=ZlN hmm hg
  have f0:(Zad a k).1=m + ((cntL (List.take k a):Nat):Int):=(congrArg (fun z=>z.1) hx).trans (by first | rfl | (simp only [GXA]; first | done | omega | (congr 1; omega) | (rw [Zcu (by omega),decide_eq_decide]; done) | (rw [Zcu (by omega),decide_eq_decide]; omega)))
  have f1:(Zad a k).2.1=markL ((Zad a k).2.1) (m + ((cntL (List.take k a):Nat):Int) + 1):=(congrArg (fun z=>z.2.1) hx).trans (by first | rfl | (simp only [GXA]; first | done | omega | (congr 1; omega) | (rw [Zcu (by omega),decide_eq_decide]; done) | (rw [Zcu (by omega),decide_eq_decide]; omega)))
  have f2:(Zad a k).2.2=m + ((cntL (List.take k a):Nat):Int) + 1 + ((cntL ((Zad a k).2.1):Nat):Int):=(congrArg (fun z=>z.2.2) hx).trans (by first | rfl | (simp only [GXA]; first | done | omega | (congr 1; omega) | (rw [Zcu (by omega),decide_eq_decide]; done) | (rw [Zcu (by omega),decide_eq_decide]; omega)))
  simp (disch:=omega) only [Zb9,ZaP,ZaY,Za6]
  all_goals exact ZoQ
 ·exact Zo3
def Zpk:ZaD Tryz.prog:=⟨133,[.v (.list Zae), .v ZaF],fun x=>ZeC x.1 x.2.1,fun x=>.c (.int .i64 (Za6 x.1 x.2.1)),fun _=>[],fun x hx=>Zpj x.1 x.2.1 hx,Tryz.call133⟩
abbrev Zbr (a:GFilter) (m:Int):Int:=m + ((cntI a:Nat):Int)
abbrev ZeD (a:GFilter) (m:Int):Prop:=mrkI a m=a∧0≤m∧m + cntI a≤4611686018427387904
theorem Zpl (a:GFilter) (m:Int) (hpre:ZeD a m):Zaq Tryz.prog 77 [.ag [.bool a.1, .hs .no Zae a.2], .c (.int .i64 m)] (.c (.int .i64 (Zbr a m))) []:=by
 refine bc0 [Zpk] [] [] [] L0 Tryz.func77 (fun hwf=>?_)
 refine Eq.mpr (β:=T5 (pt (ZeC a.2 m)∧T3 (bif ltI (Za6 a.2 m) 0 then True∧rI (-1) (Zbr a m) else T2 (rI (Za6 a.2 m) (Zbr a m))))) (by kernel_rfl) ?_
 obtain ⟨hmm,hm0,hm1⟩:=hpre
 have hc0:cntI a=0 + (cntL a.2):=rfl
 have g1:markL a.2 (m)=a.2:=by
  have h0:a.2=markL a.2 (m + ((cntI a.1:Nat):Int)):=congrArg (fun z:GFilter=>z.2) hmm.symm
  have hK:m + ((cntI a.1:Nat):Int)=m:=by first | rfl | (simp only [gc1,gc2,gc3,gc4]; omega) | omega
  rw [hK] at h0
  exact h0.symm
 simp only [SIA,eq_self]
 simp only [ZaP,ZaY,Za6,Zbr]
 all_goals exact Zve
def Zpm:ZaD Tryz.prog:=⟨77,[.s ZbF, .v ZaF],fun x=>ZeD x.1 x.2.1,fun x=>.c (.int .i64 (Zbr x.1 x.2.1)),fun _=>[],fun x hx=>Zpl x.1 x.2.1 hx,Tryz.call77⟩
abbrev ZaZ (a:GCommand) (m:Int):Int:=m + ((cntI a:Nat):Int)
abbrev ZdY (a:GCommand) (m:Int):Prop:=mrkI a m=a∧0≤m∧m + cntI a≤4611686018427387904
theorem Zm4 (a:GCommand) (m:Int) (hpre:ZdY a m):Zaq Tryz.prog 20 [.ag (cellsOf ZaH a), .c (.int .i64 m)] (.c (.int .i64 (ZaZ a m))) []:=by
 refine bc0 [Zrj,Zpm] [] [] [] L0 Tryz.func20 (fun hwf=>?_)
 refine Eq.mpr (β:=T5 (pt (Ze6 a.2.2.2.2.2.1 m)∧T3 (bif ltI (ZaY a.2.2.2.2.2.1 m) 0 then True∧rI (-1) (ZaZ a m) else T3 (pt (ZeD a.2.2.2.2.2.2.2.2.2 (ZaY a.2.2.2.2.2.1 m))∧T3 (bif ltI (Zbr a.2.2.2.2.2.2.2.2.2 (ZaY a.2.2.2.2.2.1 m)) 0 then True∧rI (-1) (ZaZ a m) else T2 (rI (Zbr a.2.2.2.2.2.2.2.2.2 (ZaY a.2.2.2.2.2.1 m)) (ZaZ a m))))))) (by kernel_rfl) ?_
 obtain ⟨hmm,hm0,hm1⟩:=hpre
 have hc0:cntI a=0 + (0 + (0 + (0 + (0 + (cntL a.2.2.2.2.2.1 + (0 + (0 + (0 + (0 + (cntL a.2.2.2.2.2.2.2.2.2.2)))))))))):=rfl
 have hc1:cntI a.2.2.2.2.2.2.2.2.2=0 + (cntL a.2.2.2.2.2.2.2.2.2.2):=rfl
 have g5:markL a.2.2.2.2.2.1 (m)=a.2.2.2.2.2.1:=by
  have h0:a.2.2.2.2.2.1=markL a.2.2.2.2.2.1 (m + ((cntI a.1:Nat):Int) + ((cntI a.2.1:Nat):Int) + ((cntI a.2.2.1:Nat):Int) + ((cntI a.2.2.2.1:Nat):Int) + ((cntI a.2.2.2.2.1:Nat):Int)):=congrArg (fun z:GCommand=>z.2.2.2.2.2.1) hmm.symm
  have hK:m + ((cntI a.1:Nat):Int) + ((cntI a.2.1:Nat):Int) + ((cntI a.2.2.1:Nat):Int) + ((cntI a.2.2.2.1:Nat):Int) + ((cntI a.2.2.2.2.1:Nat):Int)=m:=by first | rfl | (simp only [gc1,gc2,gc3,gc4]; omega) | omega
  rw [hK] at h0
  exact h0.symm
 have g9:mrkI a.2.2.2.2.2.2.2.2.2 (m + ((cntL a.2.2.2.2.2.1:Nat):Int))=a.2.2.2.2.2.2.2.2.2:=by
  have h0:a.2.2.2.2.2.2.2.2.2=mrkI a.2.2.2.2.2.2.2.2.2 (m + ((cntI a.1:Nat):Int) + ((cntI a.2.1:Nat):Int) + ((cntI a.2.2.1:Nat):Int) + ((cntI a.2.2.2.1:Nat):Int) + ((cntI a.2.2.2.2.1:Nat):Int) + ((cntI a.2.2.2.2.2.1:Nat):Int) + ((cntI a.2.2.2.2.2.2.1:Nat):Int) + ((cntI a.2.2.2.2.2.2.2.1:Nat):Int) + ((cntI a.2.2.2.2.2.2.2.2.1:Nat):Int)):=congrArg (fun z:GCommand=>z.2.2.2.2.2.2.2.2.2) hmm.symm
  have hK:m + ((cntI a.1:Nat):Int) + ((cntI a.2.1:Nat):Int) + ((cntI a.2.2.1:Nat):Int) + ((cntI a.2.2.2.1:Nat):Int) + ((cntI a.2.2.2.2.1:Nat):Int) + ((cntI a.2.2.2.2.2.1:Nat):Int) + ((cntI a.2.2.2.2.2.2.1:Nat):Int) + ((cntI a.2.2.2.2.2.2.2.1:Nat):Int) + ((cntI a.2.2.2.2.2.2.2.2.1:Nat):Int)=m + ((cntL a.2.2.2.2.2.1:Nat):Int):=by first | rfl | (simp only [gc1,gc2,gc3,gc4]; omega) | omega
  rw [hK] at h0
  exact h0.symm
 simp only [SIA,eq_self]
 simp only [ZaP,ZaY,Za6,Zbr,ZaZ]
 all_goals exact Zve
def Zm5:ZaD Tryz.prog:=⟨20,[.s ZaH, .v ZaF],fun x=>ZdY x.1 x.2.1,fun x=>.c (.int .i64 (ZaZ x.1 x.2.1)),fun _=>[],fun x hx=>Zm4 x.1 x.2.1 hx,Tryz.call20⟩
end Go.Proofs.YtkeglpnnedflnaaGreatDoor
