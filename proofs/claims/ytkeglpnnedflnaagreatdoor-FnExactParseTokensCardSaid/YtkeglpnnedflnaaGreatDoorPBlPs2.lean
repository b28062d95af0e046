import Derived.Test.YtkeglpnnedflnaaGreatDoorPBlJo
import Derived.Test.YtkeglpnnedflnaaGreatDoorPBlPq
set_option linter.unusedSimpArgs false
set_option linter.unusedVariables false
set_option maxRecDepth 100000
set_option maxHeartbeats 4000000
namespace Go.Proofs.YtkeglpnnedflnaaGreatDoor
open Go.ChangeShapes Go.WideShapes Go.ChangeAt Go.RowKit Go.Joins Go.Deep
open GoRep (rep bulk)
theorem ZAT (l:List ByteArray) (b:ByteArray) (hpre:Zjz l b):Zaq Tryz.prog 126 [.c (.hs .no Zah l), .c (.str b)] (.c (.str (joS l b))) []:=by
 refine bc0 [Zpo] [] [] [] L0 Tryz.func126 (fun hwf=>?_)
 refine Eq.mpr (β:=T3 (pt (Zjz l b)∧True∧rS (joS l b) (joS l b))) (by kernel_rfl) ?_
 simp only [Zaz,Zbi,ZaC,Bool.not_true,Bool.not_false,Zdj,eq_self]
 all_goals exact ZoP
def ZAU:ZaD Tryz.prog:=⟨126,[.v (.list Zah), .v Zah],fun x=>Zjz x.1 x.2.1,fun x=>.c (.str (joS x.1 x.2.1)),fun _=>[],fun x hx=>ZAT x.1 x.2.1 hx,Tryz.call126⟩
theorem Zry  : Zaq Tryz.prog 66 [] (.c (.row 0 0)) [.row Zah ZaB 0 0 none]:=by
 refine bc0 [] [] [] [] L0 Tryz.func66 (fun hwf=>?_)
 exact Zwg
def ZjL:ZaD Tryz.prog:=⟨66,[],fun x=>True,fun x=>.c (.row 0 0),fun x=>[.row Zah ZaB 0 0 none],fun x hx=>Zry ,Tryz.call66⟩
set_option maxRecDepth 100000
set_option maxHeartbeats 4000000
def ZCK (s:ByteArray) (b:Int):Nat→List AV→Mem→Zbe
 | 4,tm,M=>⟨Nat,fun y=>(Zcp (ZcG tm [(5, .c (.row 0 0)),(6, .c (.int .i64 (((paN s b y).2:Nat):Int))),(7, .any),(8, .any),(11, .c (.int .i64 ((y:Nat):Int)))]) 12 17,ZgY M [(0, .row Zah (paN s b y).1 0 0 none)]),fun y=>(y≤ByteArray.size s),fun y=>(ByteArray.size s - y)⟩
 | _,_,_=>⟨Unit,fun _=>([],[]),fun _=>False,fun _=>0⟩
def Zxa (y0:Nat) (y0' : Nat):Prop:=vI (w64 ((y0:Int) + 1)) y0'∧TN 17 (tpn 6 True)
theorem ZCL (s:ByteArray) (b:Int) (hpre:ByteArray.size s≤1048576):Zaq Tryz.prog 167 [.c (.str s), .c (.int .u8 b)] (.c (.row 0 0)) [.row Zah (Zaf s b) 0 0 none]:=by
 refine bc0 [] [] [] [] (ZCK s b) Tryz.func167 (fun hwf=>?_)
 refine Eq.mpr (β:=T7 ((∃ q:Nat,(q≤s.size)∧lxs [.c (.str s), .c (.int .u8 b), .tp [], .tp [], .c (.raw (.slice none 0 0)), .c (.row 0 0)] (vI 0 (paN s b q).2∧True∧True∧lxs [.c (.str s),ci s.size] (vI 0 q∧TN 17 (tpn 6 True)))∧pt (leB (.row Zah ([]:List ByteArray) 0 0 none) (.row Zah (paN s b q).1 0 0 none)∧True))∧∀ y0:Nat,(y0≤s.size)→True∧bif ltI y0 s.size then T4 (((0:Int)≤(y0:Int)∧(y0:Int) < (s.size:Int))∧T2 (bif eqI (Zap s y0) b then T4 (((0:Int)≤((paN s b y0).2:Int)∧((paN s b y0).2:Int)≤(y0:Int)∧(y0:Int)≤(s.size:Int))∧True∧(True∧List.length (paN s b y0).1 + List.length ([(ByteArray.extract s ((paN s b y0).2) y0)])≤rowMax)∧T6 (∃ y0' : Nat,(y0'≤s.size)∧(s.size - y0') < (s.size - y0)∧lxs [.c (.str s), .c (.int .u8 b), .tp [], .tp [], .c (.raw (.slice none 0 0)), .c (.row 0 0)] (vI (w64 ((y0:Int) + 1)) (paN s b y0').2∧True∧True∧lxs [.c (.str s),ci s.size] (Zxa y0 y0'))∧pt (leB (.row Zah ((paN s b y0).1 ++ [(ByteArray.extract s ((paN s b y0).2) y0)]) 0 0 none) (.row Zah (paN s b y0').1 0 0 none)∧True))) else T2 (∃ y0' : Nat,(y0'≤s.size)∧(s.size - y0') < (s.size - y0)∧lxs [.c (.str s), .c (.int .u8 b), .tp [], .tp [], .c (.raw (.slice none 0 0)), .c (.row 0 0)] (vI (paN s b y0).2 (paN s b y0').2∧True∧True∧lxs [.c (.str s),ci s.size] (Zxa y0 y0'))∧pt (leB (.row Zah (paN s b y0).1 0 0 none) (.row Zah (paN s b y0').1 0 0 none)∧True)))) else T3 (((0:Int)≤((paN s b y0).2:Int)∧((paN s b y0).2:Int)≤(s.size:Int)∧(s.size:Int)≤(s.size:Int))∧True∧(True∧List.length (paN s b y0).1 + List.length ([(ByteArray.extract s ((paN s b y0).2) s.size)])≤rowMax)∧True∧pt (((paN s b y0).1 ++ [(ByteArray.extract s ((paN s b y0).2) s.size)])=Zaf s b)))) (by kernel_rfl) ?_
 unfold Zxa T2 T3 T4 T6 T7
 have hs:ByteArray.size s≤1048576:=hpre
 simp only [Zbf,Zaz,Zbi,ZaC,Bool.not_true,Bool.not_false,Zdj,eq_self]
 refine ⟨⟨0,Nat.zero_le _,⟨rfl,rfl⟩,rfl⟩,fun y hy=>?_⟩
 have hl:=ZFh s b y
 repeat' (with_reducible first | exact trivial | apply And.intro | intro _)
 all_goals first
  | (with_reducible trivial)
  | omega
  | (with_reducible assumption)
  | ((try simp only [List.length_append,List.length_cons,List.length_nil,ZeA]); (first | unfold rowMax | unfold maxLen); omega)
  | exact ⟨y + 1,by omega,by omega,⟨by rw [ZFg (.inr (by assumption))]; exact Zbm (by unfold maxLen; omega),Zbm (by unfold maxLen; omega)⟩,by rw [ZFg (.inr (by assumption))]⟩
  | exact ⟨y + 1,by omega,by omega,⟨by rw [ZKb (by omega) (by assumption)],Zbm (by unfold maxLen; omega)⟩,by rw [ZKb (by omega) (by assumption)]⟩
  | (obtain rfl:y=s.size:=by omega
     unfold Zaf; rw [ZFg (.inl rfl)])
def ZCM:ZaD Tryz.prog:=⟨167,[.v Zah, .v (.int .u8)],fun x=>ByteArray.size x.1≤1048576,fun x=>.c (.row 0 0),fun x=>[.row Zah (Zaf x.1 x.2.1) 0 0 none],fun x hx=>ZCL x.1 x.2.1 hx,Tryz.call167⟩
theorem ZP3 {z:Zaj} (h:(0:Int)≤z.1∧z.1≤999999999):Zhm z=btw z.2 0 999999999:=by
 have e:=Zaz.2 h
 unfold Zhm
 rw [e,Bool.true_and]
theorem ZP4 {z:Zaj} (h:z.1 < 0∨999999999 < z.1):Zhm z=false:=by
 have e:=Zbi.2 h
 unfold Zhm
 rw [e,Bool.false_and]
theorem ZP5 {s:ByteArray} (h:s=(⟨#[42]⟩:ByteArray)):Zfy s=(0,true):=by
 unfold Zfy
 rw [Zav.2 h]
 rfl
theorem rE_y {s:ByteArray} (h:¬ s=(⟨#[42]⟩:ByteArray)):Zfy s=(Ze3 s,Zi1 s && gtI (Ze3 s) 0):=by
 unfold Zfy
 rw [Zbc.2 h]
 rfl
theorem Zxb (z:Zaj):Zaq Tryz.prog 145 [.ag [.int .i64 z.1, .int .i64 z.2]] (.c (.bool (!Zhm z))) []:=by
 refine bc0 [ZcW] [] [] [] L0 Tryz.func145 (fun hwf=>?_)
 refine Eq.mpr (β:=T4 (pt True∧T2 (bif !(btw z.1 0 999999999) then T2 (rB true (!Zhm z)) else T2 (pt True∧T3 (rB (!(btw z.2 0 999999999)) (!Zhm z)))))) (by kernel_rfl) ?_
 simp only [Zbf,Zaz,Zbi,ZaC,Bool.not_true,Bool.not_false,Zdj,eq_self]
 repeat' (first | apply And.intro | intro _)
 all_goals first
  | (with_reducible trivial)
  | omega
  | (with_reducible assumption)
  | (rw [ZP4 (by assumption)]; rfl)
  | (rw [ZP3 (by assumption)])
def Zxc:ZaD Tryz.prog:=⟨145,[.s Zai],fun x=>True,fun x=>.c (.bool (!Zhm x.1)),fun _=>[],fun x hx=>Zxb x.1,Tryz.call145⟩
theorem ZIA (l:List Zaj):ZbB l=(btw ((l.length:Nat):Int) 1 5 && !List.any l (fun z0:Zaj=>!Zhm z0)):=by
 have h:decide (∀ i,i < l.length→Zhm (Zak l i)=true)=!List.any l (fun z0:Zaj=>!Zhm z0):=by
  cases ha:List.any l (fun z0:Zaj=>!Zhm z0) with
  | true =>
   obtain ⟨z,hz,hq⟩:=List.any_eq_true.1 ha
   obtain ⟨k,hk,rfl⟩:=List.getElem_of_mem hz
   have h3:l[k]?=some (Zak l k):=Zat (t:=Zai) hk
   rw [List.getElem?_eq_getElem hk] at h3
   rw [Option.some.inj h3] at hq
   exact decide_eq_false (fun q=>by rw [q k hk] at hq; cases hq)
  | false =>
   refine decide_eq_true (fun i hi=>?_)
   have h2:=List.any_eq_false.1 ha (Zak l i) (List.mem_of_getElem? (Zat (t:=Zai) hi))
   simpa using h2
 unfold ZbB
 rw [h]
 exact Bool.and_comm _ _
theorem ZCN (l:List Zaj):Zaq Tryz.prog 86 [.c (.hs .no Zai l)] (.c (.bool (ZbB l))) []:=by
 refine bc0 [ZcW,Zxc] [Zde] [] [] L0 Tryz.func86 (fun hwf=>?_)
 refine Eq.mpr (β:=T3 (pt True∧True∧bif btw (l.length:Int) 1 5 then True∧((∀ z0:Zaj,True∧True)∧∀ (_:Zaj→Bool) (_:List Zaj),true=true)∧T3 (rB (!(List.any l (fun z0:Zaj=>(!Zhm z0)))) (ZbB l)) else T2 (rB false (ZbB l)))) (by kernel_rfl) ?_
 try simp only [Zz6]
 rw [ZIA]
 simp only [Zbf,Zaz,Zbi,ZaC,Bool.not_true,Bool.not_false,Zdj,eq_self]
 repeat' (first | apply And.intro | intro _)
 all_goals first
  | (with_reducible trivial)
  | omega
  | (with_reducible assumption)
  | (rw [Zaz.2 (by assumption),Bool.true_and])
  | (rw [Zbi.2 (by assumption)]; rfl)
def Znd:ZaD Tryz.prog:=⟨86,[.v (.list Zai)],fun x=>True,fun x=>.c (.bool (ZbB x.1)),fun _=>[],fun x hx=>ZCN x.1,Tryz.call86⟩
theorem Zxd (n:Int):Zaq Tryz.prog 125 [.c (.int .i64 n)] (.c (.str (n4 n))) []:=by
 refine bc0 [ZAz] [] [] [] L0 Tryz.func125 (fun hwf=>?_)
 refine Eq.mpr (β:=T3 (bif eqI n 0 then True∧rS (⟨#[42]⟩:ByteArray) (n4 n) else True∧pt True∧True∧rS (⟨(Lib.itoa n).toArray⟩:ByteArray) (n4 n))) (by kernel_rfl) ?_
 simp only [Zbf,Zaz,Zbi,ZaC,Bool.not_true,Bool.not_false,Zdj,eq_self]
 repeat' (with_reducible first | exact trivial | apply And.intro | intro _)
 all_goals first
  | (with_reducible trivial)
  | omega
  | (with_reducible assumption)
  | (rw [ZPL (by assumption)])
  | (subst_vars; rfl)
def Zxe:ZaD Tryz.prog:=⟨125,[.v ZaF],fun x=>True,fun x=>.c (.str (n4 x.1)),fun _=>[],fun x hx=>Zxd x.1,Tryz.call125⟩
def Zxf (l:List Zaj):Nat→List AV→Mem→Zbe
 | 5,tm,M=>⟨Nat,fun y=>(Zcp (ZcG tm [(3, .c (.row 0 0)),(5, .any),(6, .any),(10, .any),(13, .c (.int .i64 ((y:Nat):Int)))]) 14 22,ZgY M [(0, .row Zah (Zhn l y) 0 0 none)]),fun y=>(y≤List.length l),fun y=>(List.length l - y)⟩
 | _,_,_=>⟨Unit,fun _=>([],[]),fun _=>False,fun _=>0⟩
def Zxg (l:List Zaj) (y0:Nat) (y0' : Nat):Prop:=True∧True∧lxs [hn Zai l, .c (.bool (ZbB l)), .c (.bool false)] (True∧lxs [hn Zai l,ci l.length] (vI (w64 ((y0:Int) + 1)) y0'∧TN 22 (lxs [.tp [], .tp []] True)))
theorem Zxh (l:List Zaj):Zaq Tryz.prog 62 [.c (.hs .no Zai l)] (.c (.str (Zif l))) []:=by
 refine bc0 [Znd,Zxe,ZAU] [] [] [] (Zxf l) Tryz.func62 (fun hwf=>?_)
 refine Eq.mpr (β:=T2 (pt True∧True∧bif !(ZbB l) then True∧rS (⟨#[]⟩:ByteArray) (Zif l) else T5 ((∃ q:Nat,(q≤l.length)∧lxs [hn Zai l, .tp [], .c (.str (⟨#[]⟩:ByteArray)), .c (.row 0 0), .tp []] (True∧True∧lxs [hn Zai l, .c (.bool (ZbB l)), .c (.bool false)] (True∧lxs [hn Zai l,ci l.length] (vI 0 q∧TN 22 (lxs [.tp [], .tp []] True))))∧pt (leB (.row Zah ([]:List ByteArray) 0 0 none) (.row Zah (Zhn l q) 0 0 none)∧True))∧∀ y0:Nat,(y0≤l.length)→True∧bif ltI y0 l.length then ix 2 y0 l.length∧T5 (pt True∧T6 (bif neI (Zak l y0).2 (Zak l y0).1 then T3 (pt True∧ByteArray.size (⟨#[58]⟩:ByteArray) + ByteArray.size (n4 (Zak l y0).2)≤maxLen∧ByteArray.size (n4 (Zak l y0).1) + ByteArray.size ((⟨#[58]⟩:ByteArray) ++ (n4 (Zak l y0).2))≤maxLen∧T4 ((True∧List.length (Zhn l y0) + List.length ([((n4 (Zak l y0).1) ++ ((⟨#[58]⟩:ByteArray) ++ (n4 (Zak l y0).2)))])≤rowMax)∧T3 (∃ y0' : Nat,(y0'≤l.length)∧(l.length - y0') < (l.length - y0)∧lxs [hn Zai l, .tp [], .c (.str (⟨#[]⟩:ByteArray)), .c (.row 0 0), .tp []] (Zxg l y0 y0')∧pt (leB (.row Zah ((Zhn l y0) ++ [((n4 (Zak l y0).1) ++ ((⟨#[58]⟩:ByteArray) ++ (n4 (Zak l y0).2)))]) 0 0 none) (.row Zah (Zhn l y0') 0 0 none)∧True)))) else T3 ((True∧List.length (Zhn l y0) + List.length ([n4 (Zak l y0).1])≤rowMax)∧T3 (∃ y0' : Nat,(y0'≤l.length)∧(l.length - y0') < (l.length - y0)∧lxs [hn Zai l, .tp [], .c (.str (⟨#[]⟩:ByteArray)), .c (.row 0 0), .tp []] (Zxg l y0 y0')∧pt (leB (.row Zah ((Zhn l y0) ++ [n4 (Zak l y0).1]) 0 0 none) (.row Zah (Zhn l y0') 0 0 none)∧True))))) else True∧(Zjz (Zhn l y0) (⟨#[44]⟩:ByteArray)∧pt (true=true))∧True∧rS (joS (Zhn l y0) (⟨#[44]⟩:ByteArray)) (Zif l)))) (by kernel_rfl) ?_
 unfold Zxg T2 T3 T4 T5 T6
 cases hs:ZbB l with
 | false =>
  exact ZuY
 | true =>
  have hk:=fun k h=>ZjA hs (i:=k) h
  have hlen:=Ze4 hs
  simp only [Zbf,Zaz,Zbi,ZaC,Bool.not_true,Bool.not_false,Zdj,eq_self]
  refine ⟨fun h=>?_,fun _=>⟨⟨0,Nat.zero_le _,rfl,rfl⟩,fun y hy=>?_⟩⟩
  ·exact absurd h (by decide)
  have hz:∀ h:y < List.length l,(0≤(Zak l y).1∧(Zak l y).1≤999999999)∧(0≤(Zak l y).2∧(Zak l y).2≤999999999):=fun h=>by
   exact ZvF
  repeat' (with_reducible first | exact trivial | apply And.intro | intro _)
  all_goals first
   | (with_reducible trivial)
   | omega
   | (with_reducible assumption)
   | (have hh:=hz (by omega); have n1:=Zk3 hh.1.1 hh.1.2; have n2:=Zk3 hh.2.1 hh.2.2; (try simp only [ByteArray.size_append,show ByteArray.size (⟨#[58]⟩:ByteArray)=1 from rfl]); unfold maxLen; omega)
   | (rw [Zie]; (try simp only [List.length_singleton]); unfold rowMax; omega)
   | (refine ⟨y + 1,by omega,by omega,Zbm (by unfold maxLen; omega),?_⟩; show _=Zhn l y ++ [_]; rw [Zy7 (by assumption),ByteArray.append_assoc])
   | (refine ⟨y + 1,by omega,by omega,Zbm (by unfold maxLen; omega),?_⟩; show _=Zhn l y ++ [_]; rw [Zy6 (by assumption)])
   | (obtain rfl:y=List.length l:=by omega
      exact ZGW hs)
   | (obtain rfl:y=List.length l:=by omega
      exact (if_pos hs).symm)
def Zne:ZaD Tryz.prog:=⟨62,[.v (.list Zai)],fun x=>True,fun x=>.c (.str (Zif x.1)),fun _=>[],fun x hx=>Zxh x.1,Tryz.call62⟩
theorem Zxi (s:ByteArray) (hpre:ByteArray.size s≤1048576):Zaq Tryz.prog 168 [.c (.str s)] (.tp [.c (.int .i64 (Zfy s).1), .c (.bool (Zfy s).2)]) []:=by
 refine bc0 [ZAB] [] [] [] L0 Tryz.func168 (fun hwf=>?_)
 refine Eq.mpr (β:=T4 (bif eqS s (⟨#[42]⟩:ByteArray) then T2 (pt ((cI 0 (Zfy s).1∧cB true (Zfy s).2∧True))) else True∧pt (s.size≤1048576)∧T8 (bif Zi1 s then T5 (pt ((cI (Ze3 s) (Zfy s).1∧cB (gtI (Ze3 s) 0) (Zfy s).2∧True))) else T3 (pt ((cI (Ze3 s) (Zfy s).1∧cB false (Zfy s).2∧True)))))) (by kernel_rfl) ?_
 unfold T2 T3 T4 T5 T8
 have hs:ByteArray.size s≤1048576:=hpre
 simp only [Zbf,Zaz,Zbi,ZaC,Bool.not_true,Bool.not_false,Zdj,eq_self]
 repeat' (with_reducible first | exact trivial | apply And.intro | intro _)
 all_goals first
  | (with_reducible trivial)
  | omega
  | (with_reducible assumption)
  | (rw [ZP5 (by assumption)])
  | (rw [rE_y (by assumption)]; done)
  | (rename_i h1 h2; rw [rE_y h1,h2]; rfl)
def Zxj:ZaD Tryz.prog:=⟨168,[.v Zah],fun x=>ByteArray.size x.1≤1048576,fun x=>.tp [.c (.int .i64 (Zfy x.1).1), .c (.bool (Zfy x.1).2)],fun _=>[],fun x hx=>Zxi x.1 hx,Tryz.call168⟩
theorem ZIB (s:ByteArray) (b:Int):1≤(Zaf s b).length:=by
 show 1≤(paN s b (s.size + 1)).1.length
 rw [ZFg (.inl rfl),List.length_append,List.length_singleton]
 omega
def rsJ (s:ByteArray) (k:Nat):Prop:=k≤(Zaf s 44).length∧List.all ((Zaf s 44).take k) pcB=true
theorem Zxk (s:ByteArray) (b:Int) (k:Nat):(Zaa (Zaf s b) k).size≤s.size:=by
 by_cases h:k < (Zaf s b).length
 ·exact ZAs h
 ·have e:Zaa (Zaf s b) k=(⟨#[]⟩:ByteArray):=by
   show List.getD (Zaf s b) k (⟨#[]⟩:ByteArray)=_
   exact Zwa
  rw [e]
  exact Nat.zero_le _
theorem ZKG {s:ByteArray} (hs:s.size≤1048576) (k:Nat):IntKind.wrap .i64 (((List.length (Zaf (Zaa (Zaf s 44) k) 58):Nat):Int) - 1)=(((Zaf (Zaa (Zaf s 44) k) 58).length - 1:Nat):Int):=by
 have h1:=Zxk s 44 k
 have h2:=ZjC (Zaa (Zaf s 44) k) 58
 have h3:=ZIB (Zaa (Zaf s 44) k) 58
 rw [ZB0 (by omega) (by omega)]
 omega
theorem Zs7 {t:Ty} {x y:List t.den} {v c:Nat} (h:x=y):leB (.row t x v c none) (.row t y v c none):=by
 subst h
 exact Zh9
theorem ZE1 {s:ByteArray} (h:rsB s=false):rsL s=[]:=if_neg (by rw [h]; decide)
theorem ZFt {p:ByteArray→Bool} {l:List ByteArray} {k:Nat} (hk:k < l.length) (h:p (Zaa l k)=false):List.all l p=false:=by
 rw [List.all_eq_false]
 exact ⟨Zaa l k,List.mem_of_getElem? (ZfA hk),by rw [h]; decide⟩
theorem ZCO {p:ByteArray→Bool} {l:List ByteArray} {k:Nat} (hk:k < l.length) (h:List.all (l.take k) p=true) (h2:p (Zaa l k)=true):List.all (l.take (k + 1)) p=true:=by
 rw [List.take_add_one,ZfA hk,List.all_append,h]
 show (true && (p (Zaa l k) && true))=true
 rw [h2]
 rfl
theorem Zzc {f:ByteArray→Zaj} {l:List ByteArray} {k:Nat} (hk:k < l.length):List.map f (l.take k) ++ [f (Zaa l k)]=List.map f (l.take (k + 1)):=by
 rw [List.take_add_one,ZfA hk,List.map_append]
 rfl
section
variable {s:ByteArray} {y:Nat}
theorem ZP6:∃ q:Nat,rsJ s q∧(0:Int)=((q:Nat):Int)∧leB (.row Zai ([]:List Zaj) 0 0 none) (.row Zai (List.map pcI (List.take q (Zaf s 44))) 0 0 none):=⟨0,⟨Nat.zero_le _,rfl⟩,rfl,Zs7 (t:=Zai) rfl⟩
theorem ZNe (hs:s.size≤1048576):(Zaa (Zaf s 44) y).size≤1048576:=Nat.le_trans (Zxk s 44 y) hs
theorem ZOX (hs:s.size≤1048576) {j:Nat}:(Zaa (Zaf (Zaa (Zaf s 44) y) 58) j).size≤1048576:=Nat.le_trans (Zxk _ 58 j) (ZNe hs)
theorem ZOY {p:ByteArray}:(0:Int) < (List.length (Zaf p 58):Int):=by
 have:=ZIB p 58
 omega
theorem ZOZ {p:ByteArray}:(((Zaf p 58).length - 1:Nat):Int) < (List.length (Zaf p 58):Int):=by
 have:=ZIB p 58
 omega
theorem ZIC (hlt:((y:Nat):Int) < (List.length (Zaf s 44):Int)) (h:pcB (Zaa (Zaf s 44) y)=false):rsB s=false:=by
 unfold rsB
 rw [ZFt (by omega) h]
 rfl
theorem ZID (hlt:((y:Nat):Int) < (List.length (Zaf s 44):Int)) (h:(Zfy (Zaa (Zaf (Zaa (Zaf s 44) y) 58) (Int.toNat 0))).2=false):rsB s=false:=ZIC hlt (by
 have h:(Zfy (Zaa (pcE (Zaa (Zaf s 44) y)) 0)).2=false:=h
 unfold pcB
 rw [h]
 rfl)
theorem ZIE (hlt:((y:Nat):Int) < (List.length (Zaf s 44):Int)) (h:(Zfy (Zaa (Zaf (Zaa (Zaf s 44) y) 58) ((Zaf (Zaa (Zaf s 44) y) 58).length - 1))).2=false):rsB s=false:=ZIC hlt (by
 have h:(Zfy (Zaa (pcE (Zaa (Zaf s 44) y)) ((pcE (Zaa (Zaf s 44) y)).length - 1))).2=false:=h
 unfold pcB
 rw [h,Bool.false_and,Bool.and_false])
theorem ZIF (hlt:((y:Nat):Int) < (List.length (Zaf s 44):Int)) (h:2 < ((List.length (Zaf (Zaa (Zaf s 44) y) 58):Nat):Int)):rsB s=false:=ZIC hlt (by
 have h:gtI (((pcE (Zaa (Zaf s 44) y)).length:Nat):Int) 2=true:=ZfI.2 h
 unfold pcB
 rw [h,Bool.not_true,Bool.and_false,Bool.and_false])
theorem ZP7 (hs:s.size≤1048576) {x:Zaj} (hi:rsJ s y):(List.map pcI (List.take y (Zaf s 44))).length + [x].length≤rowMax:=by
 have h1:=hi.1
 have h2:=ZjC s 44
 exact Zv0
theorem ZP8 (hs:s.size≤1048576) (hi:rsJ s y) (hlt:((y:Nat):Int) < (List.length (Zaf s 44):Int)) (h1:(Zfy (Zaa (Zaf (Zaa (Zaf s 44) y) 58) (Int.toNat 0))).2=true) (h2:(Zfy (Zaa (Zaf (Zaa (Zaf s 44) y) 58) ((Zaf (Zaa (Zaf s 44) y) 58).length - 1))).2=true) (h3:¬ 2 < ((List.length (Zaf (Zaa (Zaf s 44) y) 58):Nat):Int)):∃ y' : Nat,rsJ s y'∧(Zaf s 44).length - y' < (Zaf s 44).length - y∧IntKind.wrap .i64 (((y:Nat):Int) + 1)=((y' : Nat):Int)∧leB (.row Zai (List.map pcI (List.take y (Zaf s 44)) ++ [((Zfy (Zaa (Zaf (Zaa (Zaf s 44) y) 58) (Int.toNat 0))).1,(Zfy (Zaa (Zaf (Zaa (Zaf s 44) y) 58) ((Zaf (Zaa (Zaf s 44) y) 58).length - 1))).1)]) 0 0 none) (.row Zai (List.map pcI (List.take y' (Zaf s 44))) 0 0 none):=by
 have hl:=ZjC s 44
 have hk:y < (Zaf s 44).length:=by omega
 have hb:pcB (Zaa (Zaf s 44) y)=true:=by
  have h1:(Zfy (Zaa (pcE (Zaa (Zaf s 44) y)) 0)).2=true:=h1
  have h2:(Zfy (Zaa (pcE (Zaa (Zaf s 44) y)) ((pcE (Zaa (Zaf s 44) y)).length - 1))).2=true:=h2
  have h3:gtI (((pcE (Zaa (Zaf s 44) y)).length:Nat):Int) 2=false:=Zfo.2 h3
  unfold pcB
  rw [h1,h2,h3]
  rfl
 refine ⟨y + 1,⟨hk,ZCO hk hi.2 hb⟩,by omega,Zbm (by unfold maxLen; omega),Zs7 (t:=Zai) (Zzc (f:=pcI) hk)⟩
theorem ZNf (hi:rsJ s y) (hge:¬ ((y:Nat):Int) < (List.length (Zaf s 44):Int)):List.map pcI (List.take y (Zaf s 44))=rsO s∧List.all (Zaf s 44) pcB=true:=by
 have h1:=hi.1
 obtain rfl:y=(Zaf s 44).length:=by omega
 have h2:=hi.2
 rw [List.take_length] at h2 ⊢
 exact ⟨rfl,h2⟩
theorem ZIG (hi:rsJ s y) (hge:¬ ((y:Nat):Int) < (List.length (Zaf s 44):Int)) (h:ZbB (List.map pcI (List.take y (Zaf s 44)))=false):rsB s=false:=by
 obtain ⟨e1,e2⟩:=ZNf hi hge
 rw [e1] at h
 unfold rsB
 rw [h,Bool.false_and,Bool.and_false]
theorem ZIH (hi:rsJ s y) (hge:¬ ((y:Nat):Int) < (List.length (Zaf s 44):Int)) (h:¬ Zif (List.map pcI (List.take y (Zaf s 44)))=s):rsB s=false:=by
 obtain ⟨e1,e2⟩:=ZNf hi hge
 rw [e1] at h
 unfold rsB
 rw [Zbc.2 h,Bool.and_false,Bool.and_false]
theorem ZKH (hi:rsJ s y) (hge:¬ ((y:Nat):Int) < (List.length (Zaf s 44):Int)) (h:ZbB (List.map pcI (List.take y (Zaf s 44)))=true) (h2:Zif (List.map pcI (List.take y (Zaf s 44)))=s):rsB s=true∧List.map pcI (List.take y (Zaf s 44))=rsL s:=by
 obtain ⟨e1,e2⟩:=ZNf hi hge
 rw [e1] at h h2 ⊢
 have hb:rsB s=true:=by
  unfold rsB
  rw [e2,h,Zav.2 h2]
  rfl
 exact ⟨hb,(if_pos hb).symm⟩
theorem ZP9:∃ q:Nat,(q≤(Zaf s 44).length∧(q=0∨(Zaf s 44).length≤5))∧(0:Int)=((q:Nat):Int)∧leB (.row Zai ([]:List Zaj) 0 0 none) (.row Zai (List.map pcS (List.take q (Zaf s 44))) 0 0 none):=⟨0,⟨Nat.zero_le _, .inl rfl⟩,rfl,Zs7 (t:=Zai) rfl⟩
theorem ZQa (h:(List.length (Zaf s 44):Int)≤5) {x:Zaj}:(List.map pcS (List.take y (Zaf s 44))).length + [x].length≤rowMax:=by
 exact Zv0
theorem ZQb (h:(List.length (Zaf s 44):Int)≤5) (hlt:((y:Nat):Int) < (List.length (Zaf s 44):Int)):∃ y' : Nat,(y'≤(Zaf s 44).length∧(y'=0∨(Zaf s 44).length≤5))∧(Zaf s 44).length - y' < (Zaf s 44).length - y∧IntKind.wrap .i64 (((y:Nat):Int) + 1)=((y' : Nat):Int)∧leB (.row Zai (List.map pcS (List.take y (Zaf s 44)) ++ [(Ze3 (Zaa (Zaf (Zaa (Zaf s 44) y) 58) (Int.toNat 0)),Ze3 (Zaa (Zaf (Zaa (Zaf s 44) y) 58) ((Zaf (Zaa (Zaf s 44) y) 58).length - 1)))]) 0 0 none) (.row Zai (List.map pcS (List.take y' (Zaf s 44))) 0 0 none):=by
 have hk:y < (Zaf s 44).length:=by omega
 refine ⟨y + 1,⟨hk, .inr (by omega)⟩,by omega,Zbm (by unfold maxLen; omega),Zs7 (t:=Zai) (Zzc (f:=pcS) hk)⟩
theorem ZE2 (hi:y≤(Zaf s 44).length∧(y=0∨(Zaf s 44).length≤5)) (h:¬ ((y:Nat):Int) < (List.length (Zaf s 44):Int)∨¬ (List.length (Zaf s 44):Int)≤5):List.map pcS (List.take y (Zaf s 44))=rsP s:=by
 unfold rsP
 by_cases h5:(Zaf s 44).length≤5
 ·rw [if_pos h5]
  obtain rfl:y=(Zaf s 44).length:=by omega
  rw [List.take_length]
 ·rw [if_neg h5]
  obtain rfl:y=0:=by omega
  rfl
theorem ZJL (h:rsC s=false):rsM s=[]:=if_neg (by rw [h]; decide)
theorem ZII (h:s=(⟨#[]⟩:ByteArray)):rsC s=false:=by
 unfold rsC
 rw [Zav.2 h]
 rfl
theorem ZAV (e:List.map pcS (List.take y (Zaf s 44))=rsP s) (h:¬ Zif (List.map pcS (List.take y (Zaf s 44)))=s):rsC s=false:=by
 rw [e] at h
 unfold rsC
 rw [Zbc.2 h,Bool.and_false]
theorem ZFu (e:List.map pcS (List.take y (Zaf s 44))=rsP s) (h0:¬ s=(⟨#[]⟩:ByteArray)) (h:Zif (List.map pcS (List.take y (Zaf s 44)))=s):rsC s=true∧List.map pcS (List.take y (Zaf s 44))=rsM s:=by
 rw [e] at h ⊢
 have hb:rsC s=true:=by
  unfold rsC
  rw [Zav.2 h,Zbc.2 h0]
  rfl
 exact ⟨hb,(if_pos hb).symm⟩
end
attribute [local irreducible] Zfy Ze3 Zi1 Zaf Zif ZbB rsB rsL rsC rsM rsO rsP pcB
def Zxl (s:ByteArray):Nat→List AV→Mem→Zbe
 | 3,tm,M=>⟨Nat,fun y=>(Zcp (Zcp (ZcG tm [(2, .any),(3, .any),(4, .c (.row 0 0)),(16, .c (.int .i64 ((y:Nat):Int)))]) 6 7) 17 40,ZgY M [(0, .row Zai (((Zaf s 44).take y).map pcI) 0 0 none)]),fun y=>(rsJ s y),fun y=>(List.length (Zaf s 44) - y)⟩
 | _,_,_=>⟨Unit,fun _=>([],[]),fun _=>False,fun _=>0⟩
def Zk7 (s:ByteArray):Prop:=T2 (pt (((rsL s)=[]∧cB false (rsB s)∧True)))
theorem Zxm (s:ByteArray) (hpre:ByteArray.size s≤1048576):Zaq Tryz.prog 110 [.c (.str s)] (.tp [.c (.row 0 0), .c (.bool (rsB s))]) [.row Zai (rsL s) 0 0 none]:=by
 refine bc0 [ZCM,Zxj,Znd,Zne] [] [] [] (Zxl s) Tryz.func110 (fun hwf=>?_)
 refine Eq.mpr (β:=T5 (pt (s.size≤1048576)∧T2 ((∃ q:Nat,(rsJ s q)∧lxs [.c (.str s), .tp []] (True∧True∧lxs [.c (.row 0 0), .tp []] (TN 7 (lxs [.c (.str s), .c (.row 1 0),ci (List.length (Zaf s 44))] (vI 0 q∧TN 40 (tpn 10 True)))))∧pt (leB (.row Zai ([]:List Zaj) 0 0 none) (.row Zai (((Zaf s 44).take q).map pcI) 0 0 none)∧lb (.row Zah (Zaf s 44) 0 0 none)∧True))∧∀ y0:Nat,(rsJ s y0)→True∧bif ltI y0 (List.length (Zaf s 44)) then ix 1 y0 (List.length (Zaf s 44))∧T3 (pt (ByteArray.size (Zaa (Zaf s 44) y0)≤1048576)∧T2 (ix 1 0 (List.length (Zaf (Zaa (Zaf s 44) y0) 58))∧True∧pt (ByteArray.size (Zaa (Zaf (Zaa (Zaf s 44) y0) 58) (Int.toNat 0))≤1048576)∧T9 (ix 1 (w64 ((List.length (Zaf (Zaa (Zaf s 44) y0) 58):Int) - 1)) (List.length (Zaf (Zaa (Zaf s 44) y0) 58))∧True∧pt (ByteArray.size (Zaa (Zaf (Zaa (Zaf s 44) y0) 58) (Int.toNat (w64 ((List.length (Zaf (Zaa (Zaf s 44) y0) 58):Int) - 1))))≤1048576)∧T8 (bif !(Zfy (Zaa (Zaf (Zaa (Zaf s 44) y0) 58) (Int.toNat 0))).2 then T3 (Zk7 s) else T4 (bif !(Zfy (Zaa (Zaf (Zaa (Zaf s 44) y0) 58) (Int.toNat (w64 ((List.length (Zaf (Zaa (Zaf s 44) y0) 58):Int) - 1))))).2 then True∧Zk7 s else T4 (bif gtI (List.length (Zaf (Zaa (Zaf s 44) y0) 58)) 2 then Zk7 s else T5 ((True∧List.length (((Zaf s 44).take y0).map pcI) + List.length ([((Zfy (Zaa (Zaf (Zaa (Zaf s 44) y0) 58) (Int.toNat 0))).1,(Zfy (Zaa (Zaf (Zaa (Zaf s 44) y0) 58) (Int.toNat (w64 ((List.length (Zaf (Zaa (Zaf s 44) y0) 58):Int) - 1))))).1)])≤rowMax)∧T3 (∃ y0' : Nat,(rsJ s y0')∧(List.length (Zaf s 44) - y0') < (List.length (Zaf s 44) - y0)∧lxs [.c (.str s), .tp []] (True∧True∧lxs [.c (.row 0 0), .tp []] (TN 7 (lxs [.c (.str s), .c (.row 1 0),ci (List.length (Zaf s 44))] (vI (w64 ((y0:Int) + 1)) y0'∧TN 40 (tpn 10 True)))))∧pt (leB (.row Zai ((((Zaf s 44).take y0).map pcI) ++ [((Zfy (Zaa (Zaf (Zaa (Zaf s 44) y0) 58) (Int.toNat 0))).1,(Zfy (Zaa (Zaf (Zaa (Zaf s 44) y0) 58) (Int.toNat (w64 ((List.length (Zaf (Zaa (Zaf s 44) y0) 58):Int) - 1))))).1)]) 0 0 none) (.row Zai (((Zaf s 44).take y0').map pcI) 0 0 none)∧lb (.row Zah (Zaf s 44) 0 0 none)∧True))))))))) else True∧(True∧pt (true=true))∧T2 (bif !(ZbB (((Zaf s 44).take y0).map pcI)) then True∧Zk7 s else True∧(True∧pt (true=true))∧T3 (bif !eqS (Zif (((Zaf s 44).take y0).map pcI)) s then Zk7 s else T3 (pt (((((Zaf s 44).take y0).map pcI)=rsL s∧cB true (rsB s)∧True)))))))) (by kernel_rfl) ?_
 unfold Zk7 T2 T3 T4 T5 T8 T9
 have hs:ByteArray.size s≤1048576:=hpre
 have hw:=ZKG hs
 simp only [hw,Int.toNat_natCast,Zbf,Zaz,Zbi,ZaC,Bool.not_true,Bool.not_false,Zdj,eq_self]
 repeat' (with_reducible first | exact trivial | apply And.intro | intro _)
 all_goals first
  | (with_reducible trivial)
  | omega
  | (with_reducible assumption)
  | exact ZP6
  | exact ZNe hs
  | exact ZOX hs
  | exact ZOY
  | exact ZOZ
  | exact ZP7 hs (by with_reducible assumption)
  | exact ZP8 hs (by with_reducible assumption) (by with_reducible assumption) (by with_reducible assumption) (by with_reducible assumption) (by with_reducible assumption)
  | exact (ZID (by with_reducible assumption) (by with_reducible assumption)).symm
  | exact ZE1 (ZID (by with_reducible assumption) (by with_reducible assumption))
  | exact (ZE1 (ZID (by with_reducible assumption) (by with_reducible assumption))).symm
  | exact (ZIE (by with_reducible assumption) (by with_reducible assumption)).symm
  | exact ZE1 (ZIE (by with_reducible assumption) (by with_reducible assumption))
  | exact (ZE1 (ZIE (by with_reducible assumption) (by with_reducible assumption))).symm
  | exact (ZIF (by with_reducible assumption) (by with_reducible assumption)).symm
  | exact ZE1 (ZIF (by with_reducible assumption) (by with_reducible assumption))
  | exact (ZE1 (ZIF (by with_reducible assumption) (by with_reducible assumption))).symm
  | exact (ZIG (by with_reducible assumption) (by with_reducible assumption) (by with_reducible assumption)).symm
  | exact ZE1 (ZIG (by with_reducible assumption) (by with_reducible assumption) (by with_reducible assumption))
  | exact (ZE1 (ZIG (by with_reducible assumption) (by with_reducible assumption) (by with_reducible assumption))).symm
  | exact (ZIH (by with_reducible assumption) (by with_reducible assumption) (by with_reducible assumption)).symm
  | exact ZE1 (ZIH (by with_reducible assumption) (by with_reducible assumption) (by with_reducible assumption))
  | exact (ZE1 (ZIH (by with_reducible assumption) (by with_reducible assumption) (by with_reducible assumption))).symm
  | exact (ZKH (by with_reducible assumption) (by with_reducible assumption) (by with_reducible assumption) (by with_reducible assumption)).1.symm
  | exact (ZKH (by with_reducible assumption) (by with_reducible assumption) (by with_reducible assumption) (by with_reducible assumption)).2
def Zxn:ZaD Tryz.prog:=⟨110,[.v Zah],fun x=>ByteArray.size x.1≤1048576,fun x=>.tp [.c (.row 0 0), .c (.bool (rsB x.1))],fun x=>[.row Zai (rsL x.1) 0 0 none],fun x hx=>Zxm x.1 hx,Tryz.call110⟩
theorem Zs8 (s:ByteArray) (hpre:ByteArray.size s≤1048576):Zaq Tryz.prog 172 [.c (.str s)] (.c (.int .i64 (Ze3 s))) []:=by
 refine bc0 [ZAE] [] [] [] L0 Tryz.func172 (fun hwf=>?_)
 refine Eq.mpr (β:=T2 (pt (s.size≤1048576)∧T7 (rI (Ze3 s) (Ze3 s)))) (by kernel_rfl) ?_
 simp only [Zbf,Zaz,Zbi,ZaC,Bool.not_true,Bool.not_false,Zdj,eq_self]
 repeat' (with_reducible first | exact trivial | apply And.intro | intro _)
 all_goals first
  | (with_reducible trivial)
  | omega
  | (with_reducible assumption)
  | exact hpre
def Zs9:ZaD Tryz.prog:=⟨172,[.v Zah],fun x=>ByteArray.size x.1≤1048576,fun x=>.c (.int .i64 (Ze3 x.1)),fun _=>[],fun x hx=>Zs8 x.1 hx,Tryz.call172⟩
def Zxo (s:ByteArray):Nat→List AV→Mem→Zbe
 | 4,tm,M=>⟨Nat,fun y=>(Zcp (Zcp (ZcG tm [(4, .c (.row 0 0)),(6, .c (.int .i64 ((y:Nat):Int)))]) 7 3) 12 32,ZgY M [(0, .row Zai (((Zaf s 44).take y).map pcS) 0 0 none)]),fun y=>(y≤(Zaf s 44).length∧(y=0∨(Zaf s 44).length≤5)),fun y=>(List.length (Zaf s 44) - y)⟩
 | _,_,_=>⟨Unit,fun _=>([],[]),fun _=>False,fun _=>0⟩
def Zrz (s:ByteArray) (y0:Nat):Prop:=T5 ((True∧List.length (((Zaf s 44).take y0).map pcS) + List.length ([(Ze3 (Zaa (Zaf (Zaa (Zaf s 44) y0) 58) (Int.toNat 0)),Ze3 (Zaa (Zaf (Zaa (Zaf s 44) y0) 58) (Int.toNat (w64 ((List.length (Zaf (Zaa (Zaf s 44) y0) 58):Int) - 1)))))])≤rowMax)∧T4 (∃ y0' : Nat,(y0'≤(Zaf s 44).length∧(y0'=0∨(Zaf s 44).length≤5))∧(List.length (Zaf s 44) - y0') < (List.length (Zaf s 44) - y0)∧lxs [.c (.str s), .tp [], .c (.raw (.slice none 0 0)), .c (.bool false), .c (.row 0 0), .c (.row 1 0)] (vI (w64 ((y0:Int) + 1)) y0'∧TN 3 (lxs [.c (.str s), .c (.row 1 0)] (TN 32 (tpn 10 True))))∧pt (leB (.row Zai ((((Zaf s 44).take y0).map pcS) ++ [(Ze3 (Zaa (Zaf (Zaa (Zaf s 44) y0) 58) (Int.toNat 0)),Ze3 (Zaa (Zaf (Zaa (Zaf s 44) y0) 58) (Int.toNat (w64 ((List.length (Zaf (Zaa (Zaf s 44) y0) 58):Int) - 1)))))]) 0 0 none) (.row Zai (((Zaf s 44).take y0').map pcS) 0 0 none)∧lb (.row Zah (Zaf s 44) 0 0 none)∧True)))
def Zxp (s:ByteArray) (y0:Nat):Prop:=T3 (bif eqS s (⟨#[]⟩:ByteArray) then T4 (pt ((([]:List Zaj)=rsM s∧cB false (rsC s)∧True))) else True∧(True∧pt (true=true))∧T3 (bif !eqS (Zif (((Zaf s 44).take y0).map pcS)) s then T3 (pt ((([]:List Zaj)=rsM s∧cB false (rsC s)∧True))) else T3 (pt (((((Zaf s 44).take y0).map pcS)=rsM s∧cB true (rsC s)∧True)))))
def ZrA (s:ByteArray) (y0:Nat):Prop:=pt (ByteArray.size (Zaa (Zaf (Zaa (Zaf s 44) y0) 58) (Int.toNat (w64 ((List.length (Zaf (Zaa (Zaf s 44) y0) 58):Int) - 1))))≤1048576)
theorem Zxq (s:ByteArray) (hpre:ByteArray.size s≤1048576):Zaq Tryz.prog 119 [.c (.str s)] (.tp [.c (.row 0 0), .c (.bool (rsC s))]) [.row Zai (rsM s) 0 0 none]:=by
 refine bc0 [ZCm,Zs9,Zwv] [] [] [] (Zxo s) Tryz.func119 (fun hwf=>?_)
 refine Eq.mpr (β:=T5 (pt (s.size≤1048576)∧T2 ((∃ q:Nat,(q≤(Zaf s 44).length∧(q=0∨(Zaf s 44).length≤5))∧lxs [.c (.str s), .tp [], .c (.raw (.slice none 0 0)), .c (.bool false), .c (.row 0 0), .c (.row 1 0)] (vI 0 q∧TN 3 (lxs [.c (.str s), .c (.row 1 0)] (TN 32 (tpn 10 True))))∧pt (leB (.row Zai ([]:List Zaj) 0 0 none) (.row Zai (((Zaf s 44).take q).map pcS) 0 0 none)∧lb (.row Zah (Zaf s 44) 0 0 none)∧True))∧∀ y0:Nat,(y0≤(Zaf s 44).length∧(y0=0∨(Zaf s 44).length≤5))→T5 (bif ltI y0 (List.length (Zaf s 44)) then T4 (bif leI (List.length (Zaf s 44)) 5 then T2 (ix 1 y0 (List.length (Zaf s 44))∧True∧pt (ByteArray.size (Zaa (Zaf s 44) y0)≤1048576)∧True∧pt (true=true)∧True∧ix 1 0 (List.length (Zaf (Zaa (Zaf s 44) y0) 58))∧T5 (ix 1 (w64 ((List.length (Zaf (Zaa (Zaf s 44) y0) 58):Int) - 1)) (List.length (Zaf (Zaa (Zaf s 44) y0) 58))∧True∧(pt (ByteArray.size (Zaa (Zaf (Zaa (Zaf s 44) y0) 58) (Int.toNat 0))≤1048576)∧(ZrA s y0∧True∧Zrz s y0)∧(True∧ZrA s y0∧Zrz s y0))∧(True∧pt (ByteArray.size (Zaa (Zaf (Zaa (Zaf s 44) y0) 58) (Int.toNat 0))≤1048576)∧ZrA s y0∧Zrz s y0))) else Zxp s y0) else True∧Zxp s y0)))) (by kernel_rfl) ?_
 unfold ZrA Zxp Zrz T2 T3 T4 T5
 have hs:ByteArray.size s≤1048576:=hpre
 have hw:=ZKG hs
 simp only [hw,Int.toNat_natCast,Zbf,Zaz,Zbi,ZaC,Bool.not_true,Bool.not_false,Zdj,eq_self]
 repeat' (with_reducible first | exact trivial | apply And.intro | intro _)
 all_goals first
  | (with_reducible trivial)
  | omega
  | (with_reducible assumption)
  | exact ZP9
  | exact ZNe hs
  | exact ZOX hs
  | exact ZOY
  | exact ZOZ
  | exact ZQa (by with_reducible assumption)
  | exact ZQb (by with_reducible assumption) (by with_reducible assumption)
  | exact (ZII (by with_reducible assumption)).symm
  | exact ZJL (ZII (by with_reducible assumption))
  | exact (ZJL (ZII (by with_reducible assumption))).symm
  | exact (ZAV (ZE2 (by with_reducible assumption) (.inl (by with_reducible assumption))) (by with_reducible assumption)).symm
  | exact ZJL (ZAV (ZE2 (by with_reducible assumption) (.inl (by with_reducible assumption))) (by with_reducible assumption))
  | exact (ZJL (ZAV (ZE2 (by with_reducible assumption) (.inl (by with_reducible assumption))) (by with_reducible assumption))).symm
  | exact (ZAV (ZE2 (by with_reducible assumption) (.inr (by with_reducible assumption))) (by with_reducible assumption)).symm
  | exact ZJL (ZAV (ZE2 (by with_reducible assumption) (.inr (by with_reducible assumption))) (by with_reducible assumption))
  | exact (ZJL (ZAV (ZE2 (by with_reducible assumption) (.inr (by with_reducible assumption))) (by with_reducible assumption))).symm
  | exact (ZFu (ZE2 (by with_reducible assumption) (.inl (by with_reducible assumption))) (by with_reducible assumption) (by with_reducible assumption)).1.symm
  | exact (ZFu (ZE2 (by with_reducible assumption) (.inl (by with_reducible assumption))) (by with_reducible assumption) (by with_reducible assumption)).2
  | exact (ZFu (ZE2 (by with_reducible assumption) (.inr (by with_reducible assumption))) (by with_reducible assumption) (by with_reducible assumption)).1.symm
  | exact (ZFu (ZE2 (by with_reducible assumption) (.inr (by with_reducible assumption))) (by with_reducible assumption) (by with_reducible assumption)).2
def Zxr:ZaD Tryz.prog:=⟨119,[.v Zah],fun x=>ByteArray.size x.1≤1048576,fun x=>.tp [.c (.row 0 0), .c (.bool (rsC x.1))],fun x=>[.row Zai (rsM x.1) 0 0 none],fun x hx=>Zxq x.1 hx,Tryz.call119⟩
section
variable {op:Int} {s:ByteArray} {y:Nat}
theorem ZQc (h:op < 1∨3 < op):(⟨#[]⟩:ByteArray)=opT op:=by
 have e:=Zbi.2 h
 unfold opT
 rw [e]
 rfl
theorem ZNg (h:1≤op∧op≤3):IntKind.wrap .i64 (op - 1)=op - 1:=ZB0 (by omega) (by omega)
theorem ZQd (h:1≤op∧op≤3):0≤IntKind.wrap .i64 (op - 1):=by rw [ZNg h]; omega
theorem ZQe (h:1≤op∧op≤3):IntKind.wrap .i64 (op - 1)≤op:=by rw [ZNg h]; omega
theorem ZQf (h:1≤op∧op≤3):op≤(ByteArray.size (⟨#[43,45,61]⟩:ByteArray):Int):=h.2
theorem ZQg (h:1≤op∧op≤3):ByteArray.extract (⟨#[43,45,61]⟩:ByteArray) (IntKind.wrap .i64 (op - 1)).toNat op.toNat=opT op:=by
 rw [ZNg h]
 obtain rfl | rfl | rfl:op=1∨op=2∨op=3:=by omega
 all_goals decide +kernel
def roJ (s:ByteArray) (k:Nat):Prop:=k≤3∧∀ j,j < k→¬ opT ((j + 1:Nat):Int)=s
theorem ZQh:∃ q:Nat,roJ s q∧(1:Int)=((q + 1:Nat):Int):=⟨0,⟨by decide,fun j hj=>absurd hj (Nat.not_lt_zero j)⟩,rfl⟩
theorem ZNh (e:opT 1=s):opV s=1:=if_pos (Zav.2 e)
theorem ZNi (n:¬ opT 1=s) (e:opT 2=s):opV s=2:=(if_neg (fun q=>n (Zav.1 q))).trans (if_pos (Zav.2 e))
theorem ZNj (n:¬ opT 1=s) (m:¬ opT 2=s) (e:opT 3=s):opV s=3:=(if_neg (fun q=>n (Zav.1 q))).trans ((if_neg (fun q=>m (Zav.1 q))).trans (if_pos (Zav.2 e)))
theorem ZNk (n:¬ opT 1=s) (m:¬ opT 2=s) (e:¬ opT 3=s):opV s=0:=(if_neg (fun q=>n (Zav.1 q))).trans ((if_neg (fun q=>m (Zav.1 q))).trans (if_neg (fun q=>e (Zav.1 q))))
theorem ZO0 (hi:roJ s y) (h:((y + 1:Nat):Int)≤3) (e:opT ((y + 1:Nat):Int)=s):((y + 1:Nat):Int)=opV s:=by
 have h2:=hi.2
 obtain rfl | rfl | rfl:y=0∨y=1∨y=2:=by omega
 ·exact (ZNh e).symm
 ·exact (ZNi (h2 0 (by decide)) e).symm
 ·exact (ZNj (h2 0 (by decide)) (h2 1 (by decide)) e).symm
theorem ZQi (hi:roJ s y) (h:((y + 1:Nat):Int)≤3) (e:opT ((y + 1:Nat):Int)=s):opB s=true:=by
 have h1:=ZO0 hi h e
 exact Zcz.2 (by omega)
theorem ZQj (hi:roJ s y) (h:((y + 1:Nat):Int)≤3) (e:¬ opT ((y + 1:Nat):Int)=s):∃ y' : Nat,roJ s y'∧3 - y' < 3 - y∧IntKind.wrap .i64 (((y + 1:Nat):Int) + 1)=((y' + 1:Nat):Int):=by
 refine ⟨y + 1,⟨by omega,fun j hj=>?_⟩,by omega,Zbm (by unfold maxLen; omega)⟩
 by_cases hj' : j < y
 ·exact hi.2 j hj'
 ·obtain rfl:j=y:=by omega
  exact e
theorem ZO1 (hi:roJ s y) (h:¬ ((y + 1:Nat):Int)≤3):opV s=0:=by
 have h2:=hi.2
 have h3:3≤y:=by omega
 exact ZNk (h2 0 (by omega)) (h2 1 (by omega)) (h2 2 (by omega))
theorem ZQk (hi:roJ s y) (h:¬ ((y + 1:Nat):Int)≤3):opB s=false:=Zc6.2 (ZO1 hi h)
end
theorem ZFv (op:Int):Zaq Tryz.prog 87 [.c (.int .i64 op)] (.c (.bool (btw op 1 3))) []:=by
 refine bc0 [ZcW] [] [] [] L0 Tryz.func87 (fun hwf=>?_)
 refine Eq.mpr (β:=T2 (pt True∧True∧rB (btw op 1 3) (btw op 1 3))) (by kernel_rfl) ?_
 exact ZkL
def Zzd:ZaD Tryz.prog:=⟨87,[.v ZaF],fun x=>True,fun x=>.c (.bool (btw x.1 1 3)),fun _=>[],fun x hx=>ZFv x.1,Tryz.call87⟩
theorem ZAW (op:Int):Zaq Tryz.prog 63 [.c (.int .i64 op)] (.c (.str (opT op))) []:=by
 refine bc0 [Zzd] [] [] [] L0 Tryz.func63 (fun hwf=>?_)
 refine Eq.mpr (β:=T2 (pt True∧True∧bif !(btw op 1 3) then True∧rS (⟨#[]⟩:ByteArray) (opT op) else T3 (((0:Int)≤(w64 (op - 1))∧((w64 (op - 1)):Int)≤op∧(op:Int)≤(ByteArray.size (⟨#[43,45,61]⟩:ByteArray):Int))∧True∧rS (ByteArray.extract (⟨#[43,45,61]⟩:ByteArray) (Int.toNat (w64 (op - 1))) op.toNat) (opT op)))) (by kernel_rfl) ?_
 simp only [Zbf,Zaz,Zbi,ZaC,Bool.not_true,Bool.not_false,Zdj,eq_self]
 repeat' (with_reducible first | exact trivial | apply And.intro | intro _)
 all_goals first
  | (with_reducible trivial)
  | omega
  | (with_reducible assumption)
  | exact ZQc (by with_reducible assumption)
  | exact ZQd (by with_reducible assumption)
  | exact ZQe (by with_reducible assumption)
  | exact ZQf (by with_reducible assumption)
  | exact ZQg (by with_reducible assumption)
def Zqj:ZaD Tryz.prog:=⟨63,[.v ZaF],fun x=>True,fun x=>.c (.str (opT x.1)),fun _=>[],fun x hx=>ZAW x.1,Tryz.call63⟩
attribute [local irreducible] opT opV opB roJ
def ZAX (s:ByteArray):Nat→List AV→Mem→Zbe
 | 2,tm,M=>⟨Nat,fun y=>(Zcp (ZcG tm [(2, .any),(3, .any),(4, .c (.int .i64 ((y + 1:Nat):Int)))]) 5 9,M),fun y=>(roJ s y),fun y=>(3 - y)⟩
 | _,_,_=>⟨Unit,fun _=>([],[]),fun _=>False,fun _=>0⟩
theorem ZAY (s:ByteArray):Zaq Tryz.prog 111 [.c (.str s)] (.tp [.c (.int .i64 (opV s)), .c (.bool (opB s))]) []:=by
 refine bc0 [Zqj] [] [] [] (ZAX s) Tryz.func111 (fun hwf=>?_)
 exact ZuS
def ZAZ:ZaD Tryz.prog:=⟨111,[.v Zah],fun x=>True,fun x=>.tp [.c (.int .i64 (opV x.1)), .c (.bool (opB x.1))],fun _=>[],fun x hx=>ZAY x.1,Tryz.call111⟩
def ZA0 (s:ByteArray):Nat→List AV→Mem→Zbe
 | 2,tm,M=>⟨Nat,fun y=>(Zcp (ZcG tm [(2, .any),(3, .any),(4, .c (.int .i64 ((y + 1:Nat):Int)))]) 5 9,M),fun y=>(roJ s y),fun y=>(3 - y)⟩
 | _,_,_=>⟨Unit,fun _=>([],[]),fun _=>False,fun _=>0⟩
theorem ZA1 (s:ByteArray):Zaq Tryz.prog 120 [.c (.str s)] (.tp [.c (.int .i64 (opV s)), .c (.bool (opB s))]) []:=by
 refine bc0 [ZAu] [] [] [] (ZA0 s) Tryz.func120 (fun hwf=>?_)
 exact ZuS
def ZA2:ZaD Tryz.prog:=⟨120,[.v Zah],fun x=>True,fun x=>.tp [.c (.int .i64 (opV x.1)), .c (.bool (opB x.1))],fun _=>[],fun x hx=>ZA1 x.1,Tryz.call120⟩
theorem ZrB (ws:List ByteArray):Zaq Tryz.prog 113 [.c (.hs .no Zah ws)] (.tp [.c (.int .i64 (boI ZaB ws 0).1), .c (.bool (boI ZaB ws 0).2)]) []:=by
 refine bc0 [ZjL,Zqp] [] [] [] L0 Tryz.func113 (fun hwf=>?_)
 refine Eq.mpr (β:=T2 (pt True∧True∧(True∧pt (true=true))∧T4 (pt ((cI (boI ZaB ws 0).1 (boI ZaB ws 0).1∧cB (boI ZaB ws 0).2 (boI ZaB ws 0).2∧True))))) (by kernel_rfl) ?_
 simp only [Zbf,Zaz,Zbi,ZaC,Bool.not_true,Bool.not_false,Zdj,eq_self]
 all_goals exact ZoP
def ZrC:ZaD Tryz.prog:=⟨113,[.v (.list Zah)],fun x=>True,fun x=>.tp [.c (.int .i64 (boI ZaB x.1 0).1), .c (.bool (boI ZaB x.1 0).2)],fun _=>[],fun x hx=>ZrB x.1,Tryz.call113⟩
end Go.Proofs.YtkeglpnnedflnaaGreatDoor
