import Derived.Test.YtkeglpnnedflnaaGreatDoorPBlPs2
import Derived.Test.YtkeglpnnedflnaaGreatDoorPBlPqO
set_option linter.unusedSimpArgs false
set_option linter.unusedVariables false
set_option maxRecDepth 100000
set_option maxHeartbeats 4000000
namespace Go.Proofs.YtkeglpnnedflnaaGreatDoor
open Go.ChangeShapes Go.WideShapes Go.ChangeAt Go.RowKit Go.Joins Go.Deep
open GoRep (rep bulk)
def rfJ (ws:List ByteArray) (k:Nat) (b:Int):Prop:=k≤ws.length∧bt5 (ws.drop k) b=bt5 ws 0
theorem ZNl {ws:List ByteArray} {k:Nat} {b:Int} (hk:k < ws.length) (h1:¬ fb5 (Zaa ws k) 5=0) (h2:ZKq b (fb5 (Zaa ws k) 5)=0):bt5 (ws.drop k) b=bt5 (ws.drop (k + 1)) (orB b (fb5 (Zaa ws k) 5)):=by
 rw [ZgI hk]
 exact (if_neg h1).trans (if_neg (fun q=>q h2))
theorem ZKI {ws:List ByteArray} {k:Nat} {b:Int} (hk:k < ws.length) (h:fb5 (Zaa ws k) 5=0∨¬ ZKq b (fb5 (Zaa ws k) 5)=0):bt5 (ws.drop k) b=(0,false):=by
 rw [ZgI hk]
 by_cases h1:fb5 (Zaa ws k) 5=0
 ·exact if_pos h1
 ·exact (if_neg h1).trans (if_pos (h.resolve_left h1))
section
variable {ws:List ByteArray} {k:Nat} {b:Int} {j:Nat} {w:ByteArray}
theorem ZQl:∃ q:Nat × Int,rfJ ws q.1 q.2∧(0:Int)=q.2∧(0:Int)=((q.1:Nat):Int):=⟨(0,0),⟨Nat.zero_le _,rfl⟩,rfl,rfl⟩
theorem ZNm:∃ q:Nat,q≤5∧(0:Int)=fb5 w q∧(0:Int)=((q:Nat):Int):=⟨0,by decide,rfl,rfl⟩
theorem ZO2:∀ n:Nat,n < 5→IntKind.wrap .u64 ((n:Nat):Int)=((n:Nat):Int):=by decide
theorem ZQm (h:((j:Nat):Int) < 5):0≤IntKind.wrap .u64 ((j:Nat):Int):=by
 rw [ZO2 j (by omega)]
 omega
theorem ZQn (h:((j:Nat):Int) < 5):((j:Nat):Int) < ((ZaB.length:Nat):Int):=h
theorem ZNn (h:((j:Nat):Int) < 5) (e:upT w=upT (Zaa ZaB j)):∃ q:Nat,q≤5∧5 - q < 5 - j∧Zpg .i64 1 (IntKind.wrap .u64 ((j:Nat):Int))=fb5 w q∧IntKind.wrap .i64 (((j:Nat):Int) + 1)=((q:Nat):Int):=by
 refine ⟨j + 1,by omega,by omega,?_,Zbm (by unfold maxLen; omega)⟩
 rw [ZO2 j (by omega)]
 exact (if_pos (Zav.2 e)).symm
theorem ZNo (h:((j:Nat):Int) < 5) (e:¬ upT w=upT (Zaa ZaB j)):∃ q:Nat,q≤5∧5 - q < 5 - j∧fb5 w j=fb5 w q∧IntKind.wrap .i64 (((j:Nat):Int) + 1)=((q:Nat):Int):=⟨j + 1,by omega,by omega,(if_neg (fun q=>e (Zav.1 q))).symm,Zbm (by unfold maxLen; omega)⟩
theorem ZIJ:boI ZaB ws 0=bt5 ws 0:=(ZG8 (by decide) (by decide)).symm
theorem ZO3 (hi:rfJ ws k b) (hk:((k:Nat):Int) < ((ws.length:Nat):Int)) (hj:j≤5) (hn:¬ ((j:Nat):Int) < 5) (h:fb5 (Zaa ws k) j=0):boI ZaB ws 0=(0,false):=by
 obtain rfl:j=5:=by omega
 rw [ZIJ,← hi.2]
 exact ZKI (by omega) (.inl h)
theorem ZO4 (hi:rfJ ws k b) (hk:((k:Nat):Int) < ((ws.length:Nat):Int)) (hj:j≤5) (hn:¬ ((j:Nat):Int) < 5) (h:¬ IntKind.wrap .i64 (((BitVec.ofInt (IntKind.bits .i64) b &&& BitVec.ofInt (IntKind.bits .i64) (fb5 (Zaa ws k) j)).toNat:Nat))=0):boI ZaB ws 0=(0,false):=by
 obtain rfl:j=5:=by omega
 rw [ZIJ,← hi.2]
 exact ZKI (by omega) (.inr h)
theorem ZQo (hm:ws.length≤maxLen) (hi:rfJ ws k b) (hk:((k:Nat):Int) < ((ws.length:Nat):Int)) (hj:j≤5) (hn:¬ ((j:Nat):Int) < 5) (h:¬ fb5 (Zaa ws k) j=0) (h2:IntKind.wrap .i64 (((BitVec.ofInt (IntKind.bits .i64) b &&& BitVec.ofInt (IntKind.bits .i64) (fb5 (Zaa ws k) j)).toNat:Nat))=0):∃ q:Nat × Int,rfJ ws q.1 q.2∧ws.length - q.1 < ws.length - k ∧
 IntKind.wrap .i64 (((BitVec.ofInt (IntKind.bits .i64) b ||| BitVec.ofInt (IntKind.bits .i64) (fb5 (Zaa ws k) j)).toNat:Nat))=q.2∧IntKind.wrap .i64 (((k:Nat):Int) + 1)=((q.1:Nat):Int):=by
 obtain rfl:j=5:=by omega
 refine ⟨(k + 1,orB b (fb5 (Zaa ws k) 5)),⟨by show k + 1≤_; omega,?_⟩,by show _ - (k + 1) < _; omega,rfl,Zbm (by omega)⟩
 rw [← hi.2]
 exact (ZNl (by omega) h h2).symm
theorem ZO5 (hi:rfJ ws k b) (hk:¬ ((k:Nat):Int) < ((ws.length:Nat):Int)):boI ZaB ws 0=(b,true):=by
 rw [ZIJ,← hi.2,List.drop_of_length_le (by omega)]
 rfl
end
attribute [local irreducible] fb5 bt5 rfJ boI
def ZrD (words:List ByteArray):Nat→List AV→Mem→Zbe
 | 3,tm,M=>⟨Nat × Int,fun y=>(Zcp (ZcG tm [(2, .any),(3, .any),(4, .c (.int .i64 y.2)),(5, .c (.int .i64 ((y.1:Nat):Int)))]) 6 37,M),fun y=>(rfJ words y.1 y.2),fun y=>(List.length words - y.1)⟩
 | 7,tm,M=>⟨Nat,fun y=>(Zcp (ZcG tm [(6, .c (.int .i64 (fb5 (Zaa words (Int.toNat (tmI tm 5))) y))),(7, .c (.int .i64 ((y:Nat):Int)))]) 14 18,M),fun y=>(y≤5),fun y=>(5 - y)⟩
 | _,_,_=>⟨Unit,fun _=>([],[]),fun _=>False,fun _=>0⟩
def Zxs (words:List ByteArray):Prop:=T2 (pt ((cI 0 (boI ZaB words 0).1∧cB false (boI ZaB words 0).2∧True)))
theorem ZrE (words:List ByteArray):Zaq Tryz.prog 173 [.c (.hs .no Zah words)] (.tp [.c (.int .i64 (boI ZaB words 0).1), .c (.bool (boI ZaB words 0).2)]) []:=by
 refine bc0 [Zk2,Zwy] [] [] [] (ZrD words) Tryz.func173 (fun hwf=>?_)
 refine Eq.mpr (β:=T4 ((∃ q:Nat × Int,(rfJ words q.1 q.2)∧lxs [hn Zah words, .tp []] (True∧True∧vI 0 q.2∧vI 0 q.1∧TN 37 (lxs [.tp []] True))∧pt (True))∧∀ y0:Nat × Int,(rfJ words y0.1 y0.2)→T4 (bif ltI y0.1 words.length then T2 ((∃ q:Nat,(q≤5)∧lxs [hn Zah words, .tp []] (True∧True∧lxs [ci y0.2,ci y0.1] (vI 0 (fb5 (Zaa words y0.1) q)∧vI 0 q∧lxs [ci y0.1,hn Zah words,ci words.length, .c (.bool true)] (TN 31 (lxs [.tp []] True))))∧pt (True))∧∀ y1:Nat,(y1≤5)→T2 (bif ltI y1 5 then T2 (ix 1 y0.1 words.length∧True∧pt True∧pt True∧True∧ix 1 y1 ZaB.length∧True∧pt True∧True∧bif eqS (upT (Zaa words y0.1)) (upT (Zaa ZaB y1)) then True∧true=true∧(0:Int)≤(IntKind.wrap .u64 (y1:Int))∧T4 (∃ y1' : Nat,(y1'≤5)∧(5 - y1') < (5 - y1)∧lxs [hn Zah words, .tp []] (True∧True∧lxs [ci y0.2,ci y0.1] (vI (Zpg .i64 1 (IntKind.wrap .u64 (y1:Int))) (fb5 (Zaa words y0.1) y1')∧vI (w64 ((y1:Int) + 1)) y1'∧lxs [ci y0.1,hn Zah words,ci words.length, .c (.bool true)] (TN 31 (lxs [.tp []] True))))∧pt (True)) else T3 (∃ y1' : Nat,(y1'≤5)∧(5 - y1') < (5 - y1)∧lxs [hn Zah words, .tp []] (True∧True∧lxs [ci y0.2,ci y0.1] (vI (fb5 (Zaa words y0.1) y1) (fb5 (Zaa words y0.1) y1')∧vI (w64 ((y1:Int) + 1)) y1'∧lxs [ci y0.1,hn Zah words,ci words.length, .c (.bool true)] (TN 31 (lxs [.tp []] True))))∧pt (True))) else T3 (bif eqI (fb5 (Zaa words y0.1) y1) 0 then True∧Zxs words else T5 (bif neI (w64 (((BitVec.ofInt (IntKind.bits .i64) y0.2 &&& BitVec.ofInt (IntKind.bits .i64) (fb5 (Zaa words y0.1) y1)).toNat:Nat))) 0 then Zxs words else T7 (∃ y0' : Nat × Int,(rfJ words y0'.1 y0'.2)∧(words.length - y0'.1) < (words.length - y0.1)∧lxs [hn Zah words, .tp []] (True∧True∧vI (w64 (((BitVec.ofInt (IntKind.bits .i64) y0.2 ||| BitVec.ofInt (IntKind.bits .i64) (fb5 (Zaa words y0.1) y1)).toNat:Nat))) y0'.2∧vI (w64 ((y0.1:Int) + 1)) y0'.1∧TN 37 (lxs [.tp []] True))∧pt (True)))))) else T3 (pt ((cI y0.2 (boI ZaB words 0).1∧cB true (boI ZaB words 0).2∧True)))))) (by kernel_rfl) ?_
 unfold Zxs T2 T3 T4 T5 T7
 have hm:List.length words≤maxLen:=hwf.1.1
 simp only [Zdj,eq_self]
 repeat' (with_reducible first | exact trivial | apply And.intro | intro _)
 all_goals first
  | (with_reducible trivial)
  | omega
  | (with_reducible assumption)
  | exact ZQl
  | exact ZNm
  | exact ZQm (by with_reducible assumption)
  | exact ZQn (by with_reducible assumption)
  | exact ZNn (by with_reducible assumption) (by with_reducible assumption)
  | exact ZNo (by with_reducible assumption) (by with_reducible assumption)
  | exact (congrArg Prod.fst (ZO3 (by with_reducible assumption) (by with_reducible assumption) (by with_reducible assumption) (by with_reducible assumption) (by with_reducible assumption))).symm
  | exact (congrArg Prod.snd (ZO3 (by with_reducible assumption) (by with_reducible assumption) (by with_reducible assumption) (by with_reducible assumption) (by with_reducible assumption))).symm
  | exact (congrArg Prod.fst (ZO4 (by with_reducible assumption) (by with_reducible assumption) (by with_reducible assumption) (by with_reducible assumption) (by with_reducible assumption))).symm
  | exact (congrArg Prod.snd (ZO4 (by with_reducible assumption) (by with_reducible assumption) (by with_reducible assumption) (by with_reducible assumption) (by with_reducible assumption))).symm
  | exact (congrArg Prod.fst (ZO5 (by with_reducible assumption) (by with_reducible assumption))).symm
  | exact (congrArg Prod.snd (ZO5 (by with_reducible assumption) (by with_reducible assumption))).symm
  | exact ZQo hm (by with_reducible assumption) (by with_reducible assumption) (by with_reducible assumption) (by with_reducible assumption) (by with_reducible assumption) (by with_reducible assumption)
def ZrF:ZaD Tryz.prog:=⟨173,[.v (.list Zah)],fun x=>True,fun x=>.tp [.c (.int .i64 (boI ZaB x.1 0).1), .c (.bool (boI ZaB x.1 0).2)],fun _=>[],fun x hx=>ZrE x.1,Tryz.call173⟩
theorem ZrG  : Zaq Tryz.prog 41 [] (.c (.row 0 0)) [.row Zah kwW 0 0 none]:=by
 refine bc0 [] [] [] [] L0 Tryz.func41 (fun hwf=>?_)
 refine Eq.mpr (β:=T3 (pt (([(⟨#[]⟩:ByteArray),(⟨#[108,111,103,105,110]⟩:ByteArray),(⟨#[115,101,108,101,99,116]⟩:ByteArray),(⟨#[99,108,111,115,101]⟩:ByteArray),(⟨#[110,111,111,112]⟩:ByteArray),(⟨#[105,100,108,101]⟩:ByteArray),(⟨#[110,111,116,105,102,121]⟩:ByteArray),(⟨#[102,101,116,99,104]⟩:ByteArray),(⟨#[115,116,111,114,101]⟩:ByteArray),(⟨#[101,120,112,117,110,103,101]⟩:ByteArray),(⟨#[99,111,112,121]⟩:ByteArray),(⟨#[97,112,112,101,110,100]⟩:ByteArray),(⟨#[99,114,101,97,116,101]⟩:ByteArray),(⟨#[100,101,108,101,116,101]⟩:ByteArray),(⟨#[114,101,110,97,109,101]⟩:ByteArray),(⟨#[108,111,103,111,117,116]⟩:ByteArray)])=kwW))) (by kernel_rfl) ?_
 unfold T3
 exact ZkK
def ZjM:ZaD Tryz.prog:=⟨41,[],fun x=>True,fun x=>.c (.row 0 0),fun x=>[.row Zah kwW 0 0 none],fun x hx=>ZrG ,Tryz.call41⟩
theorem ZCP {k:Int} (h:1≤k∧k≤15):Za3 k=Zaa kwW (Int.toNat k):=by
 have e:=Zaz.2 h
 unfold Za3
 rw [e]
 rfl
theorem ZO6 {k:Int} (h:k < 1∨15 < k):(⟨#[]⟩:ByteArray)=Za3 k:=by
 have e:=Zbi.2 h
 unfold Za3
 rw [e]
 rfl
theorem ZQp {k:Int} (h:1≤k∧k≤15):k < ((kwW.length:Nat):Int):=by
 have:kwW.length=16:=rfl
 omega
theorem Zta (k:Int):Zaq Tryz.prog 61 [.c (.int .i64 k)] (.c (.str (Za3 k))) []:=by
 refine bc0 [ZcW,ZjM] [] [] [] L0 Tryz.func61 (fun hwf=>?_)
 refine Eq.mpr (β:=T2 (pt True∧True∧bif !(btw k 1 15) then True∧rS (⟨#[]⟩:ByteArray) (Za3 k) else pt True∧True∧ix 1 k kwW.length∧T2 (rS (Zaa kwW k.toNat) (Za3 k)))) (by kernel_rfl) ?_
 simp only [Zbf,Zaz,Zbi,ZaC,Bool.not_true,Bool.not_false,Zdj,eq_self]
 repeat' (with_reducible first | exact trivial | apply And.intro | intro _)
 all_goals first
  | (with_reducible trivial)
  | omega
  | (with_reducible assumption)
  | exact ZO6 (by with_reducible assumption)
  | exact ZQp (by with_reducible assumption)
  | exact (ZCP (by with_reducible assumption)).symm
def ZlV:ZaD Tryz.prog:=⟨61,[.v ZaF],fun x=>True,fun x=>.c (.str (Za3 x.1)),fun _=>[],fun x hx=>Zta x.1,Tryz.call61⟩
set_option maxRecDepth 100000
set_option maxHeartbeats 4000000
def Zhf (s:List Int) (v:Int):Nat→List AV→Mem→Zbe
 | 2,tm,M=>⟨Nat,fun y=>(Zcp (ZcG tm [(4, .any),(5, .any),(8, .c (.int .i64 ((y:Nat):Int)))]) 9 10,M),fun y=>(y≤List.length s∧∀ j,j < y→eqI v (Zoz s j)=false),fun y=>(List.length s - y)⟩
 | _,_,_=>⟨Unit,fun _=>([],[]),fun _=>False,fun _=>0⟩
theorem Zhg (s:List Int) (v:Int):Zaq Tryz.prog 203 [.c (.hs .no ZaF s), .c (.int .i64 v)] (.c (.int .i64 (ZaM (fun z0:Int=>eqI v z0) s))) []:=by
 refine bc0 [] [] [] [] (Zhf s v) Tryz.func203 (fun hwf=>?_)
 refine Eq.mpr (β:=T4 ((∃ q:Nat,(q≤s.length∧∀ j,j < q→eqI v (Zoz s j)=false)∧lxs [hn ZaF s,ci v, .tp [], .tp []] (True∧True∧lxs [hn ZaF s,ci s.length] (vI 0 q∧TN 10 True))∧pt (True))∧∀ y0:Nat,(y0≤s.length∧∀ j,j < y0→eqI v (Zoz s j)=false)→True∧bif ltI y0 s.length then T5 (ix 1 y0 s.length∧T2 (bif eqI v (Zoz s y0) then T2 (rI (y0:Int) (ZaM (fun z0:Int=>eqI v z0) s)) else T2 (∃ y0' : Nat,(y0'≤s.length∧∀ j,j < y0'→eqI v (Zoz s j)=false)∧(s.length - y0') < (s.length - y0)∧lxs [hn ZaF s,ci v, .tp [], .tp []] (True∧True∧lxs [hn ZaF s,ci s.length] (vI (w64 ((y0:Int) + 1)) y0'∧TN 10 True))∧pt (True)))) else True∧rI (-1) (ZaM (fun z0:Int=>eqI v z0) s))) (by kernel_rfl) ?_
 unfold T2 T4 T5
 simp only [Zdj,eq_self]
 have hm:List.length s≤maxLen:=hwf.1.1
 refine ⟨⟨0,⟨Nat.zero_le _,Zbp⟩,rfl⟩,fun k hk=>⟨fun hlt=>⟨by omega,fun hp=>?_,fun hp=>?_⟩,fun hge=>?_⟩⟩
 ·have hk' : k < List.length s:=by omega
  exact (Zkn (t:=ZaF) (p:=fun z0:Int=>eqI v z0) (xs:=s) hk' (fun j hj=>Zba.2 (hk.2 j hj)) (ZaE.2 hp)).symm
 ·exact ZeB
 ·obtain rfl:k=List.length s:=by omega
  exact (ZdG (t:=ZaF) (p:=fun z0:Int=>eqI v z0) (fun j hj=>Zba.2 (hk.2 j hj))).symm
def Zhh:ZaD Tryz.prog:=⟨203,[.v (.list ZaF), .v ZaF],fun x=>True,fun x=>.c (.int .i64 (ZaM (fun z0:Int=>eqI x.2.1 z0) x.1)),fun _=>[],fun x hx=>Zhg x.1 x.2.1,Tryz.call203⟩
def Zet (s:List GToken) (v:GToken):Nat→List AV→Mem→Zbe
 | 2,tm,M=>⟨Nat,fun y=>(Zcp (ZcG tm [(4, .any),(5, .any),(8, .c (.int .i64 ((y:Nat):Int)))]) 9 10,M),fun y=>(y≤List.length s∧∀ j,j < y→ZaG v (Zag s j)=false),fun y=>(List.length s - y)⟩
 | _,_,_=>⟨Unit,fun _=>([],[]),fun _=>False,fun _=>0⟩
theorem Zeu (s:List GToken) (v:GToken):Zaq Tryz.prog 44 [.c (.hs .no Zab s), .ag [.int .i64 v.1, .str v.2]] (.c (.int .i64 (ZaM (fun z0:GToken=>ZaG v z0) s))) []:=by
 refine bc0 [] [] [] [] (Zet s v) Tryz.func44 (fun hwf=>?_)
 refine Eq.mpr (β:=T5 ((∃ q:Nat,(q≤s.length∧∀ j,j < q→ZaG v (Zag s j)=false)∧lxs [hn Zab s, .ag [.int .i64 v.1, .str v.2], .tp [], .c (.bp 0 0)] (True∧True∧lxs [hn Zab s,ci s.length] (vI 0 q∧TN 10 True))∧pt (lb (.box [.int .i64 v.1, .str v.2])∧True))∧∀ y0:Nat,(y0≤s.length∧∀ j,j < y0→ZaG v (Zag s j)=false)→True∧bif ltI y0 s.length then T2 (pt (true=true)∧T3 (ix 2 y0 s.length∧True∧true=true∧bif ZaG v (Zag s y0) then T2 (rI (y0:Int) (ZaM (fun z0:GToken=>ZaG v z0) s)) else T2 (∃ y0' : Nat,(y0'≤s.length∧∀ j,j < y0'→ZaG v (Zag s j)=false)∧(s.length - y0') < (s.length - y0)∧lxs [hn Zab s, .ag [.int .i64 v.1, .str v.2], .tp [], .c (.bp 0 0)] (True∧True∧lxs [hn Zab s,ci s.length] (vI (w64 ((y0:Int) + 1)) y0'∧TN 10 True))∧pt (lb (.box [.int .i64 v.1, .str v.2])∧True)))) else True∧rI (-1) (ZaM (fun z0:GToken=>ZaG v z0) s))) (by kernel_rfl) ?_
 unfold T2 T3 T5
 simp only [Zdj,eq_self]
 have hm:List.length s≤maxLen:=hwf.1.1
 refine ⟨⟨0,⟨Nat.zero_le _,Zbp⟩,rfl⟩,fun k hk=>⟨fun hlt=>⟨by omega,fun hp=>?_,fun hp=>?_⟩,fun hge=>?_⟩⟩
 ·have hk' : k < List.length s:=by omega
  exact (Zkn (t:=Zab) (p:=fun z0:GToken=>ZaG v z0) (xs:=s) hk' hk.2 hp).symm
 ·exact ZeB
 ·obtain rfl:k=List.length s:=by omega
  exact (ZdG (t:=Zab) (p:=fun z0:GToken=>ZaG v z0) hk.2).symm
def Zev:ZaD Tryz.prog:=⟨44,[.v (.list Zab), .s Zab],fun x=>True,fun x=>.c (.int .i64 (ZaM (fun z0:GToken=>ZaG x.2.1 z0) x.1)),fun _=>[],fun x hx=>Zeu x.1 x.2.1,Tryz.call44⟩
theorem ZfV (s:List Int) (v:Int):Zaq Tryz.prog 171 [.c (.hs .no ZaF s), .c (.int .i64 v)] (.c (.bool (List.any s (fun z0:Int=>eqI v z0)))) []:=by
 refine bc0 [Zhh] [] [] [] L0 Tryz.func171 (fun hwf=>?_)
 refine Eq.mpr (β:=T3 (pt True∧T2 (rB (geI (ZaM (fun z0:Int=>eqI v z0) s) 0) (List.any s (fun z0:Int=>eqI v z0))))) (by kernel_rfl) ?_
 simp only [Zdj,eq_self]
 first | exact (by rw [Bool.eq_iff_iff,ZeU]; exact ZoK s) | exact ⟨trivial,by rw [Bool.eq_iff_iff,ZeU]; exact ZoK s⟩
def ZfW:ZaD Tryz.prog:=⟨171,[.v (.list ZaF), .v ZaF],fun x=>True,fun x=>.c (.bool (List.any x.1 (fun z0:Int=>eqI x.2.1 z0))),fun _=>[],fun x hx=>ZfV x.1 x.2.1,Tryz.call171⟩
theorem Zxt (k:Int) (l:List Int):Zaq Tryz.prog 115 [.c (.int .i64 k), .c (.hs .no ZaF l)] (.c (.bool (List.any l (fun z0:Int=>eqI k z0)))) []:=by
 refine bc0 [ZfW] [] [] [] L0 Tryz.func115 (fun hwf=>?_)
 refine Eq.mpr (β:=T3 (pt True∧True∧rB (List.any l (fun z0:Int=>eqI k z0)) (List.any l (fun z0:Int=>eqI k z0)))) (by kernel_rfl) ?_
 simp only [Zdj,eq_self]
 repeat' (with_reducible first | exact trivial | apply And.intro | intro _)
 all_goals first
  | (with_reducible trivial)
  | omega
  | (with_reducible assumption)
  | rfl
def Zi8:ZaD Tryz.prog:=⟨115,[.v ZaF, .v (.list ZaF)],fun x=>True,fun x=>.c (.bool (List.any x.2.1 (fun z0:Int=>eqI x.1 z0))),fun _=>[],fun x hx=>Zxt x.1 x.2.1,Tryz.call115⟩
theorem ZIK (k:Int):List.any [2,11,12,13,14,10] (fun z0:Int=>eqI k z0)=ZaX k:=by
 unfold ZaX
 exact Zwe
theorem ZIL (k:Int):List.any [7,8,10] (fun z0:Int=>eqI k z0)=Zbj k:=by
 unfold Zbj
 exact Zwe
theorem ZKJ (k:Int):List.any [8,11] (fun z0:Int=>eqI k z0)=fl7 k:=by
 unfold fl7
 simp only [List.any_cons,List.any_nil,Bool.or_false]
theorem Zxu (k:Int):Zaq Tryz.prog 83 [.c (.int .i64 k)] (.c (.bool (ZaX k))) []:=by
 refine bc0 [Zi8] [] [] [] L0 Tryz.func83 (fun hwf=>?_)
 refine Eq.mpr (β:=T3 ((True∧pt (true=true))∧True∧rB (List.any ([2,11,12,13,14,10]) (fun z0:Int=>eqI k z0)) (ZaX k))) (by kernel_rfl) ?_
 simp only [Zdj,eq_self]
 repeat' (with_reducible first | exact trivial | apply And.intro | intro _)
 all_goals first
  | (with_reducible trivial)
  | omega
  | (with_reducible assumption)
  | exact ZIK k
def Znf:ZaD Tryz.prog:=⟨83,[.v ZaF],fun x=>True,fun x=>.c (.bool (ZaX x.1)),fun _=>[],fun x hx=>Zxu x.1,Tryz.call83⟩
theorem Zxv (k:Int):Zaq Tryz.prog 85 [.c (.int .i64 k)] (.c (.bool (Zbj k))) []:=by
 refine bc0 [Zi8] [] [] [] L0 Tryz.func85 (fun hwf=>?_)
 refine Eq.mpr (β:=T3 ((True∧pt (true=true))∧True∧rB (List.any ([7,8,10]) (fun z0:Int=>eqI k z0)) (Zbj k))) (by kernel_rfl) ?_
 simp only [Zdj,eq_self]
 repeat' (with_reducible first | exact trivial | apply And.intro | intro _)
 all_goals first
  | (with_reducible trivial)
  | omega
  | (with_reducible assumption)
  | exact ZIL k
def Zng:ZaD Tryz.prog:=⟨85,[.v ZaF],fun x=>True,fun x=>.c (.bool (Zbj x.1)),fun _=>[],fun x hx=>Zxv x.1,Tryz.call85⟩
theorem ZrH (k:Int):Zaq Tryz.prog 45 [.c (.int .i64 k)] (.c (.bool (fl7 k))) []:=by
 refine bc0 [Zi8] [] [] [] L0 Tryz.func45 (fun hwf=>?_)
 refine Eq.mpr (β:=T3 ((True∧pt (true=true))∧True∧rB (List.any ([8,11]) (fun z0:Int=>eqI k z0)) (fl7 k))) (by kernel_rfl) ?_
 simp only [Zdj,eq_self]
 repeat' (with_reducible first | exact trivial | apply And.intro | intro _)
 all_goals first
  | (with_reducible trivial)
  | omega
  | (with_reducible assumption)
  | exact ZKJ k
def ZeR:ZaD Tryz.prog:=⟨45,[.v ZaF],fun x=>True,fun x=>.c (.bool (fl7 x.1)),fun _=>[],fun x hx=>ZrH x.1,Tryz.call45⟩
def Zdf (u:Bool) (o:Bool) (z:Bool):Bool:=(bif u then (bif o then true else (bif (!u) then z else false)) else (bif (!u) then z else false))
theorem Znh (u:Bool) (o:Bool) (z:Bool):Zaq Tryz.prog 81 [.c (.bool u), .c (.bool o), .c (.bool z)] (.c (.bool (Zdf u o z))) []:=by
 refine bc0 [] [] [] [] L0 Tryz.func81 (fun hwf=>?_)
 refine Eq.mpr (β:=T3 (bif u then T3 (bif o then T2 (rB true (Zdf u o z)) else T3 (bif !u then T4 (rB z (Zdf u o z)) else T3 (rB false (Zdf u o z)))) else T5 (bif !u then T4 (rB z (Zdf u o z)) else T3 (rB false (Zdf u o z))))) (by kernel_rfl) ?_
 simp only [SIU,eq_self]
 repeat' (with_reducible first | exact trivial | apply And.intro | apply bifI | intro _)
 all_goals first
  | (with_reducible trivial)
  | omega
  | (with_reducible infer_instance)
  | (simp only [Zdf,cond_true,cond_false,Int.toNat_natCast, *]; done)
  | (subst_vars; simp only [Zdf,cond_true,cond_false,Int.toNat_natCast, *]; done)
  | (simp only [Zdf,cond_true,cond_false, *]; exact Zdb)
def Zni:ZaD Tryz.prog:=⟨81,[.v Zao, .v Zao, .v Zao],fun x=>True,fun x=>.c (.bool (Zdf x.1 x.2.1 x.2.2.1)),fun _=>[],fun x hx=>Znh x.1 x.2.1 x.2.2.1,Tryz.call81⟩
end Go.Proofs.YtkeglpnnedflnaaGreatDoor
