import Derived.Test.YtkeglpnnedflnaaGreatDoorPBlCmd1
import Derived.Test.YtkeglpnnedflnaaGreatDoorPBlSame
set_option linter.unusedSimpArgs false
set_option linter.unusedVariables false
set_option maxRecDepth 100000
set_option maxHeartbeats 4000000
namespace Go.Proofs.YtkeglpnnedflnaaGreatDoor
open Go.ChangeShapes Go.WideShapes Go.ChangeAt Go.RowKit Go.Joins Go.Deep
open GoRep (rep bulk)
def paN (s:ByteArray) (b:Int):Nat→List ByteArray × Nat
 | 0=>([],0)
 | k + 1=>if k=s.size∨Zap s k=b then ((paN s b k).1 ++ [ByteArray.extract s (paN s b k).2 k],k + 1) else paN s b k
def Zaf (s:ByteArray) (b:Int):List ByteArray:=(paN s b (s.size + 1)).1
theorem ZFg {s:ByteArray} {b:Int} {k:Nat} (h:k=s.size∨Zap s k=b):paN s b (k + 1)=((paN s b k).1 ++ [ByteArray.extract s (paN s b k).2 k],k + 1):=if_pos h
theorem ZKb {s:ByteArray} {b:Int} {k:Nat} (h1:¬ k=s.size) (h2:¬ Zap s k=b):paN s b (k + 1)=paN s b k:=if_neg (fun q=>q.elim h1 h2)
theorem ZFh (s:ByteArray) (b:Int):∀ k,(paN s b k).2≤k∧(paN s b k).1.length≤k
 | 0=>⟨Nat.le_refl _,Nat.le_refl _⟩
 | k + 1=>by
  have:=ZFh s b k
  unfold paN
  split
  ·simp only [List.length_append,List.length_singleton]; omega
  ·omega
theorem ZCj {s:ByteArray} {b:Int}:∀ {k:Nat} {x:ByteArray},x ∈ (paN s b k).1→x.size≤s.size
 | 0,x,h=>by cases h
 | k + 1,x,h=>by
  unfold paN at h
  split at h
  ·simp only [List.mem_append,List.mem_singleton] at h
   rcases h with h | rfl
   ·exact ZCj h
   ·rw [ByteArray.size_extract]; omega
  ·exact ZCj h
theorem ZjC (s:ByteArray) (b:Int):(Zaf s b).length≤s.size + 1:=(ZFh s b (s.size + 1)).2
theorem ZAs {s:ByteArray} {b:Int} {i:Nat} (hi:i < (Zaf s b).length):(Zaa (Zaf s b) i).size≤s.size:=ZCj (List.mem_of_getElem? (ZfA hi))
def ZCk (s:ByteArray) (b:Int):Nat→List AV→Mem→Zbe
 | 4,tm,M=>⟨Nat,fun y=>(Zcp (ZcG tm [(5, .c (.row 0 0)),(6, .c (.int .i64 (((paN s b y).2:Nat):Int))),(7, .c (.int .i64 ((y:Nat):Int)))]) 8 27,ZgY M [(0, .row Zah (paN s b y).1 0 0 none)]),fun y=>(y≤ByteArray.size s + 1),fun y=>(ByteArray.size s + 1 - y)⟩
 | _,_,_=>⟨Unit,fun _=>([],[]),fun _=>False,fun _=>0⟩
def Zwz (s:ByteArray) (b:Int) (y0:Nat):Prop:=T4 (((0:Int)≤((paN s b y0).2:Int)∧((paN s b y0).2:Int)≤(y0:Int)∧(y0:Int)≤(s.size:Int))∧True∧(True∧List.length (paN s b y0).1 + List.length ([(ByteArray.extract s ((paN s b y0).2) y0)])≤rowMax)∧T7 (∃ y0' : Nat,(y0'≤s.size + 1)∧(s.size + 1 - y0') < (s.size + 1 - y0)∧lxs [.c (.str s), .c (.int .u8 b), .tp [], .tp [], .c (.raw (.slice none 0 0)), .c (.row 0 0)] (vI (w64 ((y0:Int) + 1)) (paN s b y0').2∧vI (w64 ((y0:Int) + 1)) y0'∧TN 27 (lxs [.tp []] True))∧pt (leB (.row Zah ((paN s b y0).1 ++ [(ByteArray.extract s ((paN s b y0).2) y0)]) 0 0 none) (.row Zah (paN s b y0').1 0 0 none)∧True)))
theorem ZCl (s:ByteArray) (b:Int) (hpre:ByteArray.size s≤1048576):Zaq Tryz.prog 101 [.c (.str s), .c (.int .u8 b)] (.c (.row 0 0)) [.row Zah (Zaf s b) 0 0 none]:=by
 refine bc0 [] [] [] [] (ZCk s b) Tryz.func101 (fun hwf=>?_)
 refine Eq.mpr (β:=T5 ((∃ q:Nat,(q≤s.size + 1)∧lxs [.c (.str s), .c (.int .u8 b), .tp [], .tp [], .c (.raw (.slice none 0 0)), .c (.row 0 0)] (vI 0 (paN s b q).2∧vI 0 q∧TN 27 (lxs [.tp []] True))∧pt (leB (.row Zah ([]:List ByteArray) 0 0 none) (.row Zah (paN s b q).1 0 0 none)∧True))∧∀ y0:Nat,(y0≤s.size + 1)→T4 (bif leI y0 s.size then T5 (bif eqI y0 s.size then True∧Zwz s b y0 else T2 (((0:Int)≤(y0:Int)∧(y0:Int) < (s.size:Int))∧T3 (bif eqI (Zap s y0) b then Zwz s b y0 else T3 (∃ y0' : Nat,(y0'≤s.size + 1)∧(s.size + 1 - y0') < (s.size + 1 - y0)∧lxs [.c (.str s), .c (.int .u8 b), .tp [], .tp [], .c (.raw (.slice none 0 0)), .c (.row 0 0)] (vI (paN s b y0).2 (paN s b y0').2∧vI (w64 ((y0:Int) + 1)) y0'∧TN 27 (lxs [.tp []] True))∧pt (leB (.row Zah (paN s b y0).1 0 0 none) (.row Zah (paN s b y0').1 0 0 none)∧True))))) else T2 (pt ((paN s b y0).1=Zaf s b))))) (by kernel_rfl) ?_
 unfold Zwz T2 T3 T4 T5 T7
 have hs:ByteArray.size s≤1048576:=hpre
 simp only [Zbf,Zaz,Zbi,ZaC,Bool.not_true,Bool.not_false,Zdj,eq_self]
 refine ⟨⟨0,Nat.zero_le _,⟨rfl,rfl⟩,rfl⟩,fun y hy=>?_⟩
 have hl:=ZFh s b y
 repeat' (with_reducible first | exact trivial | apply And.intro | intro _)
 all_goals first
  | (with_reducible trivial)
  | omega
  | (with_reducible assumption)
  | ((try simp only [List.length_append,List.length_cons,List.length_nil,ZeA]); (first | unfold rowMax | unfold maxLen); omega)
  | exact ⟨y + 1,by omega,by omega,⟨by rw [ZFg (.inl (by omega))]; exact Zbm (by unfold maxLen; omega),Zbm (by unfold maxLen; omega)⟩,by rw [ZFg (.inl (by omega))]⟩
  | exact ⟨y + 1,by omega,by omega,⟨by rw [ZFg (.inr (by assumption))]; exact Zbm (by unfold maxLen; omega),Zbm (by unfold maxLen; omega)⟩,by rw [ZFg (.inr (by assumption))]⟩
  | exact ⟨y + 1,by omega,by omega,⟨by rw [ZKb (by omega) (by assumption)],Zbm (by unfold maxLen; omega)⟩,by rw [ZKb (by omega) (by assumption)]⟩
  | (obtain rfl:y=s.size + 1:=by omega
     rfl)
def ZCm:ZaD Tryz.prog:=⟨101,[.v Zah, .v (.int .u8)],fun x=>ByteArray.size x.1≤1048576,fun x=>.c (.row 0 0),fun x=>[.row Zah (Zaf x.1 x.2.1) 0 0 none],fun x hx=>ZCl x.1 x.2.1 hx,Tryz.call101⟩
def opT (op:Int):ByteArray:=(bif (!(btw op 1 3)) then (⟨#[]⟩:ByteArray) else (Zaa ([(⟨#[]⟩:ByteArray),(⟨#[43]⟩:ByteArray),(⟨#[45]⟩:ByteArray),(⟨#[61]⟩:ByteArray)]) (Int.toNat op)))
theorem ZAt (op:Int):Zaq Tryz.prog 99 [.c (.int .i64 op)] (.c (.str (opT op))) []:=by
 refine bc0 [ZeQ] [] [] [] L0 Tryz.func99 (fun hwf=>?_)
 refine Eq.mpr (β:=T2 (pt True∧True∧bif !(btw op 1 3) then True∧rS (⟨#[]⟩:ByteArray) (opT op) else T2 (ix 1 op (List.length ([(⟨#[]⟩:ByteArray),(⟨#[43]⟩:ByteArray),(⟨#[45]⟩:ByteArray),(⟨#[61]⟩:ByteArray)]))∧T2 (rS (Zaa ([(⟨#[]⟩:ByteArray),(⟨#[43]⟩:ByteArray),(⟨#[45]⟩:ByteArray),(⟨#[61]⟩:ByteArray)]) op.toNat) (opT op))))) (by kernel_rfl) ?_
 simp only [SIU,eq_self]
 repeat' (with_reducible first | exact trivial | apply And.intro | apply bifI | intro _)
 all_goals first
  | (with_reducible trivial)
  | omega
  | (with_reducible infer_instance)
  | (simp only [opT,cond_true,cond_false,Int.toNat_natCast, *]; done)
  | (subst_vars; simp only [opT,cond_true,cond_false,Int.toNat_natCast, *]; done)
  | (simp only [opT,cond_true,cond_false, *]; exact Zdb)
  | (rename_i h; rw [Bool.not_eq_false'] at h; have h:=Zaz.1 h; (try simp only [List.length_cons,List.length_nil]); omega)
def ZAu:ZaD Tryz.prog:=⟨99,[.v ZaF],fun x=>True,fun x=>.c (.str (opT x.1)),fun _=>[],fun x hx=>ZAt x.1,Tryz.call99⟩
def Za3 (k:Int):ByteArray:=(bif (!(btw k 1 15)) then (⟨#[]⟩:ByteArray) else (Zaa ([(⟨#[]⟩:ByteArray),(⟨#[108,111,103,105,110]⟩:ByteArray),(⟨#[115,101,108,101,99,116]⟩:ByteArray),(⟨#[99,108,111,115,101]⟩:ByteArray),(⟨#[110,111,111,112]⟩:ByteArray),(⟨#[105,100,108,101]⟩:ByteArray),(⟨#[110,111,116,105,102,121]⟩:ByteArray),(⟨#[102,101,116,99,104]⟩:ByteArray),(⟨#[115,116,111,114,101]⟩:ByteArray),(⟨#[101,120,112,117,110,103,101]⟩:ByteArray),(⟨#[99,111,112,121]⟩:ByteArray),(⟨#[97,112,112,101,110,100]⟩:ByteArray),(⟨#[99,114,101,97,116,101]⟩:ByteArray),(⟨#[100,101,108,101,116,101]⟩:ByteArray),(⟨#[114,101,110,97,109,101]⟩:ByteArray),(⟨#[108,111,103,111,117,116]⟩:ByteArray)]) (Int.toNat k)))
theorem ZsW (k:Int):Zaq Tryz.prog 49 [.c (.int .i64 k)] (.c (.str (Za3 k))) []:=by
 refine bc0 [ZeQ] [] [] [] L0 Tryz.func49 (fun hwf=>?_)
 refine Eq.mpr (β:=T2 (pt True∧True∧bif !(btw k 1 15) then True∧rS (⟨#[]⟩:ByteArray) (Za3 k) else T2 (ix 1 k (List.length ([(⟨#[]⟩:ByteArray),(⟨#[108,111,103,105,110]⟩:ByteArray),(⟨#[115,101,108,101,99,116]⟩:ByteArray),(⟨#[99,108,111,115,101]⟩:ByteArray),(⟨#[110,111,111,112]⟩:ByteArray),(⟨#[105,100,108,101]⟩:ByteArray),(⟨#[110,111,116,105,102,121]⟩:ByteArray),(⟨#[102,101,116,99,104]⟩:ByteArray),(⟨#[115,116,111,114,101]⟩:ByteArray),(⟨#[101,120,112,117,110,103,101]⟩:ByteArray),(⟨#[99,111,112,121]⟩:ByteArray),(⟨#[97,112,112,101,110,100]⟩:ByteArray),(⟨#[99,114,101,97,116,101]⟩:ByteArray),(⟨#[100,101,108,101,116,101]⟩:ByteArray),(⟨#[114,101,110,97,109,101]⟩:ByteArray),(⟨#[108,111,103,111,117,116]⟩:ByteArray)]))∧T2 (rS (Zaa ([(⟨#[]⟩:ByteArray),(⟨#[108,111,103,105,110]⟩:ByteArray),(⟨#[115,101,108,101,99,116]⟩:ByteArray),(⟨#[99,108,111,115,101]⟩:ByteArray),(⟨#[110,111,111,112]⟩:ByteArray),(⟨#[105,100,108,101]⟩:ByteArray),(⟨#[110,111,116,105,102,121]⟩:ByteArray),(⟨#[102,101,116,99,104]⟩:ByteArray),(⟨#[115,116,111,114,101]⟩:ByteArray),(⟨#[101,120,112,117,110,103,101]⟩:ByteArray),(⟨#[99,111,112,121]⟩:ByteArray),(⟨#[97,112,112,101,110,100]⟩:ByteArray),(⟨#[99,114,101,97,116,101]⟩:ByteArray),(⟨#[100,101,108,101,116,101]⟩:ByteArray),(⟨#[114,101,110,97,109,101]⟩:ByteArray),(⟨#[108,111,103,111,117,116]⟩:ByteArray)]) k.toNat) (Za3 k))))) (by kernel_rfl) ?_
 unfold T2
 simp only [SIU,eq_self]
 repeat' (with_reducible first | exact trivial | apply And.intro | apply bifI | intro _)
 all_goals first
  | (with_reducible trivial)
  | omega
  | (with_reducible infer_instance)
  | (simp only [Za3,cond_true,cond_false,Int.toNat_natCast, *]; done)
  | (subst_vars; simp only [Za3,cond_true,cond_false,Int.toNat_natCast, *]; done)
  | (simp only [Za3,cond_true,cond_false, *]; exact Zdb)
  | (rename_i h; rw [Bool.not_eq_false'] at h; have h:=Zaz.1 h; (try simp only [List.length_cons,List.length_nil]); omega)
def ZsX:ZaD Tryz.prog:=⟨49,[.v ZaF],fun x=>True,fun x=>.c (.str (Za3 x.1)),fun _=>[],fun x hx=>ZsW x.1,Tryz.call49⟩
def ZaX (k:Int):Bool:=(bif (eqI k 2) then true else (bif (eqI k 11) then true else (bif (eqI k 12) then true else (bif (eqI k 13) then true else (bif (eqI k 14) then true else (eqI k 10))))))
theorem ZwA (k:Int):Zaq Tryz.prog 54 [.c (.int .i64 k)] (.c (.bool (ZaX k))) []:=by
 refine bc0 [] [] [] [] L0 Tryz.func54 (fun hwf=>?_)
 refine Eq.mpr (β:=T4 (bif eqI k 2 then T10 (rB true (ZaX k)) else T4 (bif eqI k 11 then T8 (rB true (ZaX k)) else T4 (bif eqI k 12 then T6 (rB true (ZaX k)) else T4 (bif eqI k 13 then T4 (rB true (ZaX k)) else T4 (bif eqI k 14 then T2 (rB true (ZaX k)) else T4 (rB (eqI k 10) (ZaX k)))))))) (by kernel_rfl) ?_
 unfold T10 T2 T4 T6 T8
 simp only [SIU,eq_self]
 repeat' (with_reducible first | exact trivial | apply And.intro | apply bifI | intro _)
 all_goals first
  | (with_reducible trivial)
  | omega
  | (with_reducible infer_instance)
  | (simp only [ZaX,cond_true,cond_false,Int.toNat_natCast, *]; done)
  | (subst_vars; simp only [ZaX,cond_true,cond_false,Int.toNat_natCast, *]; done)
  | (simp only [ZaX,cond_true,cond_false, *]; exact Zdb)
def Zi3:ZaD Tryz.prog:=⟨54,[.v ZaF],fun x=>True,fun x=>.c (.bool (ZaX x.1)),fun _=>[],fun x hx=>ZwA x.1,Tryz.call54⟩
def Zbj (k:Int):Bool:=(bif (eqI k 7) then true else (bif (eqI k 8) then true else (eqI k 10)))
theorem ZAv (k:Int):Zaq Tryz.prog 56 [.c (.int .i64 k)] (.c (.bool (Zbj k))) []:=by
 refine bc0 [] [] [] [] L0 Tryz.func56 (fun hwf=>?_)
 refine Eq.mpr (β:=T4 (bif eqI k 7 then T4 (rB true (Zbj k)) else T4 (bif eqI k 8 then T2 (rB true (Zbj k)) else T4 (rB (eqI k 10) (Zbj k))))) (by kernel_rfl) ?_
 simp only [SIU,eq_self]
 repeat' (with_reducible first | exact trivial | apply And.intro | apply bifI | intro _)
 all_goals first
  | (with_reducible trivial)
  | omega
  | (with_reducible infer_instance)
  | (simp only [Zbj,cond_true,cond_false,Int.toNat_natCast, *]; done)
  | (subst_vars; simp only [Zbj,cond_true,cond_false,Int.toNat_natCast, *]; done)
  | (simp only [Zbj,cond_true,cond_false, *]; exact Zdb)
def Zk4:ZaD Tryz.prog:=⟨56,[.v ZaF],fun x=>True,fun x=>.c (.bool (Zbj x.1)),fun _=>[],fun x hx=>ZAv x.1,Tryz.call56⟩
def ZwB (a:List Zaj) (b:List Zaj):Nat→List AV→Mem→Zbe
 | 4,tm,M=>⟨Nat,fun y=>(Zcp (ZcG tm [(4, .any),(5, .c (.int .i64 ((y:Nat):Int)))]) 11 15,M),fun y=>(y≤List.length a∧∀ j,j < y→Zak a j=Zak b j),fun y=>(List.length a - y)⟩
 | _,_,_=>⟨Unit,fun _=>([],[]),fun _=>False,fun _=>0⟩
theorem ZwC (a:List Zaj) (b:List Zaj):Zaq Tryz.prog 92 [.c (.hs .no Zai a), .c (.hs .no Zai b)] (.c (.bool (ZbW a b))) []:=by
 refine bc0 [] [] [] [] (ZwB a b) Tryz.func92 (fun hwf=>?_)
 refine Eq.mpr (β:=T6 (bif neI a.length b.length then True∧rB false (ZbW a b) else True∧(∃ q:Nat,(q≤a.length∧∀ j,j < q→Zak a j=Zak b j)∧lxs [hn Zai a,hn Zai b, .tp [], .tp []] (True∧vI 0 q∧lxs [hn Zai a,ci a.length,hn Zai b,ci b.length, .c (.bool false)] (TN 15 True))∧pt (True))∧∀ y0:Nat,(y0≤a.length∧∀ j,j < y0→Zak a j=Zak b j)→T4 (bif ltI y0 a.length then pt (true=true)∧T2 (ix 2 y0 a.length∧T3 (ix 2 y0 b.length∧True∧true=true∧bif !(ZsD (Zak a y0) (Zak b y0)) then True∧rB false (ZbW a b) else T3 (∃ y0' : Nat,(y0'≤a.length∧∀ j,j < y0'→Zak a j=Zak b j)∧(a.length - y0') < (a.length - y0)∧lxs [hn Zai a,hn Zai b, .tp [], .tp []] (True∧vI (w64 ((y0:Int) + 1)) y0'∧lxs [hn Zai a,ci a.length,hn Zai b,ci b.length, .c (.bool false)] (TN 15 True))∧pt (True)))) else True∧rB true (ZbW a b)))) (by kernel_rfl) ?_
 unfold T2 T3 T4 T6
 have hm:List.length a≤maxLen:=hwf.1.1
 unfold maxLen at hm
 simp only [Zbf,Zaz,Zbi,ZaC,Bool.not_true,Bool.not_false,Zdj,eq_self]
 refine ⟨fun hl=>?_,fun hl=>⟨⟨0,⟨Nat.zero_le _,Zbp⟩,rfl⟩,fun k hk=>⟨fun hlt=>⟨by omega,by omega,fun hp=>?_,fun hp=>?_⟩,fun hge=>?_⟩⟩⟩
 ·exact (ZcU.2 (fun e=>hl (by rw [e]))).symm
 ·exact (ZcU.2 (fun e=>(Zf3.1 hp) (by rw [e]))).symm
 ·exact ⟨k + 1,⟨by omega,Zcf hk.2 (ZgL.1 hp)⟩,by omega,Zbm (by unfold maxLen; omega)⟩
 ·obtain rfl:k=List.length a:=by omega
  have hl' : List.length a=List.length b:=by omega
  exact (ZcH.2 (Zew (t:=Zai) hl' hk.2)).symm
def ZwD:ZaD Tryz.prog:=⟨92,[.v (.list Zai), .v (.list Zai)],fun x=>True,fun x=>.c (.bool (ZbW x.1 x.2.1)),fun _=>[],fun x hx=>ZwC x.1 x.2.1,Tryz.call92⟩
def Zhd (a:GCommand) (b:GCommand):Bool:=(bif (eqS a.1 b.1) then (bif (eqI a.2.1 b.2.1) then (bif (eqS a.2.2.1 b.2.2.1) then (bif (eqS a.2.2.2.1 b.2.2.2.1) then (bif (eqO a.2.2.2.2.1 b.2.2.2.2.1) then (bif ZbW a.2.2.2.2.2.1 b.2.2.2.2.2.1 then (bif (eqI a.2.2.2.2.2.2.1 b.2.2.2.2.2.2.1) then (bif (eqI a.2.2.2.2.2.2.2.1 b.2.2.2.2.2.2.2.1) then (bif (eqS a.2.2.2.2.2.2.2.2.1 b.2.2.2.2.2.2.2.2.1) then ZaT a.2.2.2.2.2.2.2.2.2 b.2.2.2.2.2.2.2.2.2 else false) else false) else false) else false) else false) else false) else false) else false) else false)
def Zi4 (a:GCommand) (b:GCommand):Prop:=T8 (rB false (Zhd a b))
theorem ZmZ (a:GCommand) (b:GCommand):Zaq Tryz.prog 26 [.ag (cellsOf ZaH a), .ag (cellsOf ZaH b)] (.c (.bool (Zhd a b))) []:=by
 refine bc0 [ZwD,ZpT] [] [] [] L0 Tryz.func26 (fun hwf=>?_)
 refine Eq.mpr (β:=T9 (bif eqS a.1 b.1 then T7 (bif eqI a.2.1 b.2.1 then T7 (bif eqS a.2.2.1 b.2.2.1 then T7 (bif eqS a.2.2.2.1 b.2.2.2.1 then T4 (some TypeDesc.bool=some TypeDesc.bool∧T2 (bif eqO a.2.2.2.2.1 b.2.2.2.2.1 then T4 (pt True∧T2 (bif ZbW a.2.2.2.2.2.1 b.2.2.2.2.2.1 then T7 (bif eqI a.2.2.2.2.2.2.1 b.2.2.2.2.2.2.1 then T7 (bif eqI a.2.2.2.2.2.2.2.1 b.2.2.2.2.2.2.2.1 then T7 (bif eqS a.2.2.2.2.2.2.2.2.1 b.2.2.2.2.2.2.2.2.1 then T4 (pt True∧T2 (rB (ZaT a.2.2.2.2.2.2.2.2.2 b.2.2.2.2.2.2.2.2.2) (Zhd a b))) else T2 (rB false (Zhd a b))) else T4 (rB false (Zhd a b))) else T6 (rB false (Zhd a b))) else Zi4 a b)) else T2 (Zi4 a b))) else T4 (Zi4 a b)) else T6 (Zi4 a b)) else T8 (Zi4 a b)) else T10 (Zi4 a b))) (by kernel_rfl) ?_
 unfold Zi4 T10 T2 T4 T6 T7 T8 T9
 simp only [SIU,eq_self]
 repeat' (with_reducible first | exact trivial | apply And.intro | apply bifI | intro _)
 all_goals first
  | (with_reducible trivial)
  | omega
  | (with_reducible infer_instance)
  | (simp only [Zhd,cond_true,cond_false,Int.toNat_natCast, *]; done)
  | (subst_vars; simp only [Zhd,cond_true,cond_false,Int.toNat_natCast, *]; done)
  | (simp only [Zhd,cond_true,cond_false, *]; exact Zdb)
def Zm0:ZaD Tryz.prog:=⟨26,[.s ZaH, .s ZaH],fun x=>True,fun x=>.c (.bool (Zhd x.1 x.2.1)),fun _=>[],fun x hx=>ZmZ x.1 x.2.1,Tryz.call26⟩
def ZdV (c:GCommand):GCommand:=(bif (ZaX c.2.1) then (bif (Zbj c.2.1) then (bif (eqI c.2.1 14) then (c.1,(c.2.1,(c.2.2.1,(c.2.2.2.1,(c.2.2.2.2.1,(c.2.2.2.2.2.1,(0,(0,((⟨#[]⟩:ByteArray),(false,([]:List GScope))))))))))) else (bif (eqI c.2.1 8) then (c.1,(c.2.1,(c.2.2.1,((⟨#[]⟩:ByteArray),(c.2.2.2.2.1,(c.2.2.2.2.2.1,(c.2.2.2.2.2.2.1,(c.2.2.2.2.2.2.2.1,((⟨#[]⟩:ByteArray),(false,([]:List GScope))))))))))) else (bif (eqI c.2.1 11) then (c.1,(c.2.1,(c.2.2.1,((⟨#[]⟩:ByteArray),(c.2.2.2.2.1,(c.2.2.2.2.2.1,(0,(c.2.2.2.2.2.2.2.1,(c.2.2.2.2.2.2.2.2.1,(false,([]:List GScope))))))))))) else (bif (eqI c.2.1 6) then (c.1,(c.2.1,(c.2.2.1,((⟨#[]⟩:ByteArray),(c.2.2.2.2.1,(c.2.2.2.2.2.1,(0,(0,((⟨#[]⟩:ByteArray),c.2.2.2.2.2.2.2.2.2))))))))) else (c.1,(c.2.1,(c.2.2.1,((⟨#[]⟩:ByteArray),(c.2.2.2.2.1,(c.2.2.2.2.2.1,(0,(0,((⟨#[]⟩:ByteArray),(false,([]:List GScope))))))))))))))) else (bif (eqI c.2.1 14) then (c.1,(c.2.1,(c.2.2.1,(c.2.2.2.1,(false,(([]:List Zaj),(0,(0,((⟨#[]⟩:ByteArray),(false,([]:List GScope))))))))))) else (bif (eqI c.2.1 8) then (c.1,(c.2.1,(c.2.2.1,((⟨#[]⟩:ByteArray),(false,(([]:List Zaj),(c.2.2.2.2.2.2.1,(c.2.2.2.2.2.2.2.1,((⟨#[]⟩:ByteArray),(false,([]:List GScope))))))))))) else (bif (eqI c.2.1 11) then (c.1,(c.2.1,(c.2.2.1,((⟨#[]⟩:ByteArray),(false,(([]:List Zaj),(0,(c.2.2.2.2.2.2.2.1,(c.2.2.2.2.2.2.2.2.1,(false,([]:List GScope))))))))))) else (bif (eqI c.2.1 6) then (c.1,(c.2.1,(c.2.2.1,((⟨#[]⟩:ByteArray),(false,(([]:List Zaj),(0,(0,((⟨#[]⟩:ByteArray),c.2.2.2.2.2.2.2.2.2))))))))) else (c.1,(c.2.1,(c.2.2.1,((⟨#[]⟩:ByteArray),(false,(([]:List Zaj),(0,(0,((⟨#[]⟩:ByteArray),(false,([]:List GScope)))))))))))))))) else (bif (Zbj c.2.1) then (bif (eqI c.2.1 14) then (c.1,(c.2.1,((⟨#[]⟩:ByteArray),(c.2.2.2.1,(c.2.2.2.2.1,(c.2.2.2.2.2.1,(0,(0,((⟨#[]⟩:ByteArray),(false,([]:List GScope))))))))))) else (bif (eqI c.2.1 8) then (c.1,(c.2.1,((⟨#[]⟩:ByteArray),((⟨#[]⟩:ByteArray),(c.2.2.2.2.1,(c.2.2.2.2.2.1,(c.2.2.2.2.2.2.1,(c.2.2.2.2.2.2.2.1,((⟨#[]⟩:ByteArray),(false,([]:List GScope))))))))))) else (bif (eqI c.2.1 11) then (c.1,(c.2.1,((⟨#[]⟩:ByteArray),((⟨#[]⟩:ByteArray),(c.2.2.2.2.1,(c.2.2.2.2.2.1,(0,(c.2.2.2.2.2.2.2.1,(c.2.2.2.2.2.2.2.2.1,(false,([]:List GScope))))))))))) else (bif (eqI c.2.1 6) then (c.1,(c.2.1,((⟨#[]⟩:ByteArray),((⟨#[]⟩:ByteArray),(c.2.2.2.2.1,(c.2.2.2.2.2.1,(0,(0,((⟨#[]⟩:ByteArray),c.2.2.2.2.2.2.2.2.2))))))))) else (c.1,(c.2.1,((⟨#[]⟩:ByteArray),((⟨#[]⟩:ByteArray),(c.2.2.2.2.1,(c.2.2.2.2.2.1,(0,(0,((⟨#[]⟩:ByteArray),(false,([]:List GScope))))))))))))))) else (bif (eqI c.2.1 14) then (c.1,(c.2.1,((⟨#[]⟩:ByteArray),(c.2.2.2.1,(false,(([]:List Zaj),(0,(0,((⟨#[]⟩:ByteArray),(false,([]:List GScope))))))))))) else (bif (eqI c.2.1 8) then (c.1,(c.2.1,((⟨#[]⟩:ByteArray),((⟨#[]⟩:ByteArray),(false,(([]:List Zaj),(c.2.2.2.2.2.2.1,(c.2.2.2.2.2.2.2.1,((⟨#[]⟩:ByteArray),(false,([]:List GScope))))))))))) else (bif (eqI c.2.1 11) then (c.1,(c.2.1,((⟨#[]⟩:ByteArray),((⟨#[]⟩:ByteArray),(false,(([]:List Zaj),(0,(c.2.2.2.2.2.2.2.1,(c.2.2.2.2.2.2.2.2.1,(false,([]:List GScope))))))))))) else (bif (eqI c.2.1 6) then (c.1,(c.2.1,((⟨#[]⟩:ByteArray),((⟨#[]⟩:ByteArray),(false,(([]:List Zaj),(0,(0,((⟨#[]⟩:ByteArray),c.2.2.2.2.2.2.2.2.2))))))))) else (c.1,(c.2.1,((⟨#[]⟩:ByteArray),((⟨#[]⟩:ByteArray),(false,(([]:List Zaj),(0,(0,((⟨#[]⟩:ByteArray),(false,([]:List GScope)))))))))))))))))
def ZcK (c:GCommand):Prop:=cS (⟨#[]⟩:ByteArray) (ZdV c).2.2.2.2.2.2.2.2.1
def Zci (c:GCommand):Prop:=cI c.2.1 (ZdV c).2.1
def ZcL (c:GCommand):Prop:=cB false (ZdV c).2.2.2.2.2.2.2.2.2.1
def ZcM (c:GCommand):Prop:=cS (⟨#[]⟩:ByteArray) (ZdV c).2.2.2.1
def ZcN (c:GCommand):Prop:=cI 0 (ZdV c).2.2.2.2.2.2.1
def Ze5 (c:GCommand):Prop:=true=true∧leC (.hs .no Zai c.2.2.2.2.2.1) (.hs .no Zai (ZdV c).2.2.2.2.2.1)
def ZdW (c:GCommand):Prop:=cI 0 (ZdV c).2.2.2.2.2.2.2.1
def Zcj (c:GCommand):Prop:=cS c.1 (ZdV c).1
def ZgC (c:GCommand):Prop:=cI c.2.2.2.2.2.2.2.1 (ZdV c).2.2.2.2.2.2.2.1
def ZcO (c:GCommand):Prop:=true=true∧(ZdV c).2.2.2.2.2.2.2.2.2.2=[]
def Zdx (c:GCommand):Prop:=cS (⟨#[]⟩:ByteArray) (ZdV c).2.2.1
def Zdy (c:GCommand):Prop:=cB c.2.2.2.2.1 (ZdV c).2.2.2.2.1
def Zdz (c:GCommand):Prop:=cB false (ZdV c).2.2.2.2.1
def ZdA (c:GCommand):Prop:=cS c.2.2.1 (ZdV c).2.2.1
def ZjD (c:GCommand):Prop:=true=true∧leC (.hs .no Zae c.2.2.2.2.2.2.2.2.2.2) (.hs .no Zae (ZdV c).2.2.2.2.2.2.2.2.2.2)
def ZjE (c:GCommand):Prop:=cB c.2.2.2.2.2.2.2.2.2.1 (ZdV c).2.2.2.2.2.2.2.2.2.1
def ZdB (c:GCommand):Prop:=true=true∧(ZdV c).2.2.2.2.2.1=[]
def ZjF (c:GCommand):Prop:=cI c.2.2.2.2.2.2.1 (ZdV c).2.2.2.2.2.2.1
def ZjG (c:GCommand):Prop:=cS c.2.2.2.2.2.2.2.2.1 (ZdV c).2.2.2.2.2.2.2.2.1
theorem ZAw (c:GCommand):Zaq Tryz.prog 53 [.ag (cellsOf ZaH c)] (.ag [.str (ZdV c).1, .int .i64 (ZdV c).2.1, .str (ZdV c).2.2.1, .str (ZdV c).2.2.2.1, .bool (ZdV c).2.2.2.2.1, .hs .no Zai (ZdV c).2.2.2.2.2.1, .int .i64 (ZdV c).2.2.2.2.2.2.1, .int .i64 (ZdV c).2.2.2.2.2.2.2.1, .str (ZdV c).2.2.2.2.2.2.2.2.1, .bool (ZdV c).2.2.2.2.2.2.2.2.2.1, .hs .no Zae (ZdV c).2.2.2.2.2.2.2.2.2.2]) []:=by
 refine bc0 [Zi3,Zk4] [] [] [] L0 Tryz.func53 (fun hwf=>?_)
 refine Eq.mpr (β:=T11 (pt True∧bif ZaX c.2.1 then T6 (pt True∧bif Zbj c.2.1 then T12 (bif eqI c.2.1 14 then T6 (pt ((Zcj c∧Zci c∧ZdA c∧cS c.2.2.2.1 (ZdV c).2.2.2.1∧Zdy c∧Ze5 c∧ZcN c∧ZdW c∧ZcK c∧ZcL c∧ZcO c∧True))) else T2 (bif eqI c.2.1 8 then T10 (pt ((Zcj c∧Zci c∧ZdA c∧ZcM c∧Zdy c∧Ze5 c∧ZjF c∧ZgC c∧ZcK c∧ZcL c∧ZcO c∧True))) else T2 (bif eqI c.2.1 11 then T10 (pt ((Zcj c∧Zci c∧ZdA c∧ZcM c∧Zdy c∧Ze5 c∧ZcN c∧ZgC c∧ZjG c∧ZcL c∧ZcO c∧True))) else T2 (bif eqI c.2.1 6 then T6 (pt ((Zcj c∧Zci c∧ZdA c∧ZcM c∧Zdy c∧Ze5 c∧ZcN c∧ZdW c∧ZcK c∧ZjE c∧ZjD c∧True))) else T2 (pt ((Zcj c∧Zci c∧ZdA c∧ZcM c∧Zdy c∧Ze5 c∧ZcN c∧ZdW c∧ZcK c∧ZcL c∧ZcO c∧True))))))) else T4 (bif eqI c.2.1 14 then T6 (pt ((Zcj c∧Zci c∧ZdA c∧cS c.2.2.2.1 (ZdV c).2.2.2.1∧Zdz c∧ZdB c∧ZcN c∧ZdW c∧ZcK c∧ZcL c∧ZcO c∧True))) else T2 (bif eqI c.2.1 8 then T10 (pt ((Zcj c∧Zci c∧ZdA c∧ZcM c∧Zdz c∧ZdB c∧ZjF c∧ZgC c∧ZcK c∧ZcL c∧ZcO c∧True))) else T2 (bif eqI c.2.1 11 then T10 (pt ((Zcj c∧Zci c∧ZdA c∧ZcM c∧Zdz c∧ZdB c∧ZcN c∧ZgC c∧ZjG c∧ZcL c∧ZcO c∧True))) else T2 (bif eqI c.2.1 6 then T6 (pt ((Zcj c∧Zci c∧ZdA c∧ZcM c∧Zdz c∧ZdB c∧ZcN c∧ZdW c∧ZcK c∧ZjE c∧ZjD c∧True))) else T2 (pt ((Zcj c∧Zci c∧ZdA c∧ZcM c∧Zdz c∧ZdB c∧ZcN c∧ZdW c∧ZcK c∧ZcL c∧ZcO c∧True)))))))) else T2 (pt True∧bif Zbj c.2.1 then T12 (bif eqI c.2.1 14 then T6 (pt ((Zcj c∧Zci c∧Zdx c∧cS c.2.2.2.1 (ZdV c).2.2.2.1∧Zdy c∧Ze5 c∧ZcN c∧ZdW c∧ZcK c∧ZcL c∧ZcO c∧True))) else T2 (bif eqI c.2.1 8 then T10 (pt ((Zcj c∧Zci c∧Zdx c∧ZcM c∧Zdy c∧Ze5 c∧ZjF c∧ZgC c∧ZcK c∧ZcL c∧ZcO c∧True))) else T2 (bif eqI c.2.1 11 then T10 (pt ((Zcj c∧Zci c∧Zdx c∧ZcM c∧Zdy c∧Ze5 c∧ZcN c∧ZgC c∧ZjG c∧ZcL c∧ZcO c∧True))) else T2 (bif eqI c.2.1 6 then T6 (pt ((Zcj c∧Zci c∧Zdx c∧ZcM c∧Zdy c∧Ze5 c∧ZcN c∧ZdW c∧ZcK c∧ZjE c∧ZjD c∧True))) else T2 (pt ((Zcj c∧Zci c∧Zdx c∧ZcM c∧Zdy c∧Ze5 c∧ZcN c∧ZdW c∧ZcK c∧ZcL c∧ZcO c∧True))))))) else T4 (bif eqI c.2.1 14 then T6 (pt ((Zcj c∧Zci c∧Zdx c∧cS c.2.2.2.1 (ZdV c).2.2.2.1∧Zdz c∧ZdB c∧ZcN c∧ZdW c∧ZcK c∧ZcL c∧ZcO c∧True))) else T2 (bif eqI c.2.1 8 then T10 (pt ((Zcj c∧Zci c∧Zdx c∧ZcM c∧Zdz c∧ZdB c∧ZjF c∧ZgC c∧ZcK c∧ZcL c∧ZcO c∧True))) else T2 (bif eqI c.2.1 11 then T10 (pt ((Zcj c∧Zci c∧Zdx c∧ZcM c∧Zdz c∧ZdB c∧ZcN c∧ZgC c∧ZjG c∧ZcL c∧ZcO c∧True))) else T2 (bif eqI c.2.1 6 then T6 (pt ((Zcj c∧Zci c∧Zdx c∧ZcM c∧Zdz c∧ZdB c∧ZcN c∧ZdW c∧ZcK c∧ZjE c∧ZjD c∧True))) else T2 (pt ((Zcj c∧Zci c∧Zdx c∧ZcM c∧Zdz c∧ZdB c∧ZcN c∧ZdW c∧ZcK c∧ZcL c∧ZcO c∧True)))))))))) (by kernel_rfl) ?_
 unfold ZjG ZjF ZdB ZjE ZjD ZdA Zdz Zdy Zdx ZcO ZgC Zcj ZdW Ze5 ZcN ZcM ZcL Zci ZcK T10 T11 T12 T2 T4 T6
 simp only [SIU,eq_self]
 repeat' (with_reducible first | exact trivial | apply And.intro | apply bifI | intro _)
 all_goals first
  | (with_reducible trivial)
  | omega
  | (with_reducible infer_instance)
  | (simp only [ZdV,cond_true,cond_false,Int.toNat_natCast, *]; done)
  | (subst_vars; simp only [ZdV,cond_true,cond_false,Int.toNat_natCast, *]; done)
  | (simp only [ZdV,cond_true,cond_false, *]; exact Zdb)
def ZAx:ZaD Tryz.prog:=⟨53,[.s ZaH],fun x=>True,fun x=>.ag [.str (ZdV x.1).1, .int .i64 (ZdV x.1).2.1, .str (ZdV x.1).2.2.1, .str (ZdV x.1).2.2.2.1, .bool (ZdV x.1).2.2.2.2.1, .hs .no Zai (ZdV x.1).2.2.2.2.2.1, .int .i64 (ZdV x.1).2.2.2.2.2.2.1, .int .i64 (ZdV x.1).2.2.2.2.2.2.2.1, .str (ZdV x.1).2.2.2.2.2.2.2.2.1, .bool (ZdV x.1).2.2.2.2.2.2.2.2.2.1, .hs .no Zae (ZdV x.1).2.2.2.2.2.2.2.2.2.2],fun _=>[],fun x hx=>ZAw x.1,Tryz.call53⟩
def ZbQ (c:GCommand):Bool:=(bif (!(ZgD c.1)) then false else (bif (!(btw c.2.1 1 15)) then false else (bif (!(Zhd (ZdV c) c)) then false else (bif (ZaX c.2.1) then (bif (!(Zbn c.2.2.1)) then false else (bif (eqI c.2.1 14) then (bif (!(Zbn c.2.2.2.1)) then false else (bif (Zbj c.2.1) then (bif (!(ZbB c.2.2.2.2.2.1)) then false else (bif (eqI c.2.1 8) then (bif (!(btw c.2.2.2.2.2.2.1 1 3)) then false else (bif ZaC c.2.2.2.2.2.2.2.1 then (bif (leI (ByteArray.size c.2.2.2.2.2.2.2.2.1:Int) 40) then Zar c.2.2.2.2.2.2.2.2.2 else false) else false)) else (bif ZaC c.2.2.2.2.2.2.2.1 then (bif (leI (ByteArray.size c.2.2.2.2.2.2.2.2.1:Int) 40) then Zar c.2.2.2.2.2.2.2.2.2 else false) else false))) else (bif (eqI c.2.1 8) then (bif (!(btw c.2.2.2.2.2.2.1 1 3)) then false else (bif ZaC c.2.2.2.2.2.2.2.1 then (bif (leI (ByteArray.size c.2.2.2.2.2.2.2.2.1:Int) 40) then Zar c.2.2.2.2.2.2.2.2.2 else false) else false)) else (bif ZaC c.2.2.2.2.2.2.2.1 then (bif (leI (ByteArray.size c.2.2.2.2.2.2.2.2.1:Int) 40) then Zar c.2.2.2.2.2.2.2.2.2 else false) else false)))) else (bif (Zbj c.2.1) then (bif (!(ZbB c.2.2.2.2.2.1)) then false else (bif (eqI c.2.1 8) then (bif (!(btw c.2.2.2.2.2.2.1 1 3)) then false else (bif ZaC c.2.2.2.2.2.2.2.1 then (bif (leI (ByteArray.size c.2.2.2.2.2.2.2.2.1:Int) 40) then Zar c.2.2.2.2.2.2.2.2.2 else false) else false)) else (bif ZaC c.2.2.2.2.2.2.2.1 then (bif (leI (ByteArray.size c.2.2.2.2.2.2.2.2.1:Int) 40) then Zar c.2.2.2.2.2.2.2.2.2 else false) else false))) else (bif (eqI c.2.1 8) then (bif (!(btw c.2.2.2.2.2.2.1 1 3)) then false else (bif ZaC c.2.2.2.2.2.2.2.1 then (bif (leI (ByteArray.size c.2.2.2.2.2.2.2.2.1:Int) 40) then Zar c.2.2.2.2.2.2.2.2.2 else false) else false)) else (bif ZaC c.2.2.2.2.2.2.2.1 then (bif (leI (ByteArray.size c.2.2.2.2.2.2.2.2.1:Int) 40) then Zar c.2.2.2.2.2.2.2.2.2 else false) else false))))) else (bif (eqI c.2.1 14) then (bif (!(Zbn c.2.2.2.1)) then false else (bif (Zbj c.2.1) then (bif (!(ZbB c.2.2.2.2.2.1)) then false else (bif (eqI c.2.1 8) then (bif (!(btw c.2.2.2.2.2.2.1 1 3)) then false else (bif ZaC c.2.2.2.2.2.2.2.1 then (bif (leI (ByteArray.size c.2.2.2.2.2.2.2.2.1:Int) 40) then Zar c.2.2.2.2.2.2.2.2.2 else false) else false)) else (bif ZaC c.2.2.2.2.2.2.2.1 then (bif (leI (ByteArray.size c.2.2.2.2.2.2.2.2.1:Int) 40) then Zar c.2.2.2.2.2.2.2.2.2 else false) else false))) else (bif (eqI c.2.1 8) then (bif (!(btw c.2.2.2.2.2.2.1 1 3)) then false else (bif ZaC c.2.2.2.2.2.2.2.1 then (bif (leI (ByteArray.size c.2.2.2.2.2.2.2.2.1:Int) 40) then Zar c.2.2.2.2.2.2.2.2.2 else false) else false)) else (bif ZaC c.2.2.2.2.2.2.2.1 then (bif (leI (ByteArray.size c.2.2.2.2.2.2.2.2.1:Int) 40) then Zar c.2.2.2.2.2.2.2.2.2 else false) else false)))) else (bif (Zbj c.2.1) then (bif (!(ZbB c.2.2.2.2.2.1)) then false else (bif (eqI c.2.1 8) then (bif (!(btw c.2.2.2.2.2.2.1 1 3)) then false else (bif ZaC c.2.2.2.2.2.2.2.1 then (bif (leI (ByteArray.size c.2.2.2.2.2.2.2.2.1:Int) 40) then Zar c.2.2.2.2.2.2.2.2.2 else false) else false)) else (bif ZaC c.2.2.2.2.2.2.2.1 then (bif (leI (ByteArray.size c.2.2.2.2.2.2.2.2.1:Int) 40) then Zar c.2.2.2.2.2.2.2.2.2 else false) else false))) else (bif (eqI c.2.1 8) then (bif (!(btw c.2.2.2.2.2.2.1 1 3)) then false else (bif ZaC c.2.2.2.2.2.2.2.1 then (bif (leI (ByteArray.size c.2.2.2.2.2.2.2.2.1:Int) 40) then Zar c.2.2.2.2.2.2.2.2.2 else false) else false)) else (bif ZaC c.2.2.2.2.2.2.2.1 then (bif (leI (ByteArray.size c.2.2.2.2.2.2.2.2.1:Int) 40) then Zar c.2.2.2.2.2.2.2.2.2 else false) else false))))))))
def ZwE (c:GCommand):Prop:=T2 (pt True∧True∧bif ZaC c.2.2.2.2.2.2.2.1 then T6 (bif leI c.2.2.2.2.2.2.2.2.1.size 40 then T2 (pt True∧T2 (rB (Zar c.2.2.2.2.2.2.2.2.2) (ZbQ c))) else T2 (rB false (ZbQ c))) else T4 (rB false (ZbQ c)))
def ZwF (c:GCommand):Prop:=T4 (bif eqI c.2.1 8 then T2 (pt True∧T3 (bif !(btw c.2.2.2.2.2.2.1 1 3) then True∧rB false (ZbQ c) else ZwE c)) else T2 (ZwE c))
def ZwG (c:GCommand):Prop:=T2 (pt True∧True∧bif Zbj c.2.1 then T2 (pt True∧T4 (bif !(ZbB c.2.2.2.2.2.1) then T2 (rB false (ZbQ c)) else ZwF c)) else T3 (ZwF c))
def ZwH (c:GCommand):Prop:=T4 (bif eqI c.2.1 14 then T2 (pt True∧T4 (bif !(Zbn c.2.2.2.1) then T4 (rB false (ZbQ c)) else ZwG c)) else T3 (ZwG c))
theorem Zrd (c:GCommand):Zaq Tryz.prog 12 [.ag (cellsOf ZaH c)] (.c (.bool (ZbQ c))) []:=by
 refine bc0 [ZCy,ZeQ,ZAx,Zm0,Zi3,Zqf,Zk4,ZsU,ZwX,ZlT] [] [] [] L0 Tryz.func12 (fun hwf=>?_)
 refine Eq.mpr (β:=T2 (pt (true=true)∧T2 (pt True∧T2 (bif !(ZgD c.1) then T4 (rB false (ZbQ c)) else T2 (pt True∧T3 (bif !(btw c.2.1 1 15) then T2 (rB false (ZbQ c)) else T2 (pt True∧pt True∧T2 (bif !(Zhd (ZdV c) c) then True∧rB false (ZbQ c) else T2 (pt True∧True∧bif ZaX c.2.1 then T2 (pt True∧T3 (bif !(Zbn c.2.2.1) then T6 (rB false (ZbQ c)) else ZwH c)) else T2 (ZwH c)))))))))) (by kernel_rfl) ?_
 unfold ZwH ZwG ZwF ZwE T2 T3 T4 T6
 simp only [SIU,eq_self]
 repeat' (with_reducible first | exact trivial | apply And.intro | apply bifI | intro _)
 all_goals first
  | (with_reducible trivial)
  | omega
  | (with_reducible infer_instance)
  | (simp only [ZbQ,cond_true,cond_false,Int.toNat_natCast, *]; done)
  | (subst_vars; simp only [ZbQ,cond_true,cond_false,Int.toNat_natCast, *]; done)
  | (simp only [ZbQ,cond_true,cond_false, *]; exact Zdb)
def Zre:ZaD Tryz.prog:=⟨12,[.s ZaH],fun x=>True,fun x=>.c (.bool (ZbQ x.1)),fun _=>[],fun x hx=>Zrd x.1,Tryz.call12⟩
end Go.Proofs.YtkeglpnnedflnaaGreatDoor
