import Derived.Test.YtkeglpnnedflnaaGreatDoorPBlPart
import Derived.Test.YtkeglpnnedflnaaGreatDoorPNumLaw
import Derived.Test.YtkeglpnnedflnaaGreatDoorPLawA
set_option linter.unusedSimpArgs false
set_option linter.unusedVariables false
set_option maxRecDepth 100000
set_option maxHeartbeats 4000000
namespace Go.Proofs.YtkeglpnnedflnaaGreatDoor
open Go.ChangeShapes Go.WideShapes Go.ChangeAt Go.RowKit Go.Joins Go.Deep
open GoRep (rep bulk)
theorem SIU:type_of% (And.intro @Zuj (And.intro @Zuk (And.intro @Zul (And.intro @Zum (And.intro @Zun (And.intro @Zmm (And.intro @Zmn (And.intro @Zuo (And.intro @Zup (And.intro @Zuq (And.intro @ZBI (And.intro @ZBJ (And.intro @ZBK (And.intro @ZBL (And.intro @ZBM (And.intro @ZBN (And.intro @ZBO (And.intro @ZBP (And.intro @Zq5 (And.intro @Zq6 (And.intro @Zq7 (And.intro @ZyH (And.intro @Zl9 (And.intro @ZlK (And.intro @ZBE (And.intro @ZBF (And.intro @ZBG (And.intro @ZqX (And.intro @true_and (And.intro @and_true (And.intro @not_true (And.intro @not_false (And.intro @Zjq (And.intro @Zjr (And.intro @Zit (And.intro @ZlJ (And.intro @ZgK (And.intro @ZeT (And.intro @ZhK (And.intro @ZfH (And.intro @ZhL (And.intro @Zma (And.intro @Za9 (And.intro @Ziu (And.intro @Ziv (And.intro @ZgM (And.intro @ZfO (And.intro @ZgN (And.intro @ZfP (And.intro @ZeV (And.intro @Zen (And.intro @Ziw (And.intro @Zix (And.intro @ZeW (And.intro @ZfQ (And.intro @ZeX (And.intro @ZgO (And.intro @ZfR (And.intro @Ziy (And.intro @ZkA (And.intro @Zeo (And.intro @ZeY (And.intro @Zep (@Int.toNat_natCast)))))))))))))))))))))))))))))))))))))))))))))))))))))))))))))))):=And.intro @Zuj (And.intro @Zuk (And.intro @Zul (And.intro @Zum (And.intro @Zun (And.intro @Zmm (And.intro @Zmn (And.intro @Zuo (And.intro @Zup (And.intro @Zuq (And.intro @ZBI (And.intro @ZBJ (And.intro @ZBK (And.intro @ZBL (And.intro @ZBM (And.intro @ZBN (And.intro @ZBO (And.intro @ZBP (And.intro @Zq5 (And.intro @Zq6 (And.intro @Zq7 (And.intro @ZyH (And.intro @Zl9 (And.intro @ZlK (And.intro @ZBE (And.intro @ZBF (And.intro @ZBG (And.intro @ZqX (And.intro @true_and (And.intro @and_true (And.intro @not_true (And.intro @not_false (And.intro @Zjq (And.intro @Zjr (And.intro @Zit (And.intro @ZlJ (And.intro @ZgK (And.intro @ZeT (And.intro @ZhK (And.intro @ZfH (And.intro @ZhL (And.intro @Zma (And.intro @Za9 (And.intro @Ziu (And.intro @Ziv (And.intro @ZgM (And.intro @ZfO (And.intro @ZgN (And.intro @ZfP (And.intro @ZeV (And.intro @Zen (And.intro @Ziw (And.intro @Zix (And.intro @ZeW (And.intro @ZfQ (And.intro @ZeX (And.intro @ZgO (And.intro @ZfR (And.intro @Ziy (And.intro @ZkA (And.intro @Zeo (And.intro @ZeY (And.intro @Zep (@Int.toNat_natCast)))))))))))))))))))))))))))))))))))))))))))))))))))))))))))))))
theorem bifI {b:Bool} {P Q:Prop} (h:b=true→P) (k:b=false→Q):bif b then P else Q:=by
 cases b
 ·exact k rfl
 ·exact h rfl
theorem ZJ5 {α:Type} {b:Bool} {x y:α}:(bif b then x else y)=if b=true then x else y:=by cases b <;> rfl
theorem Zbf {x y:List Int} {v c:Nat}:leB (.row (.int .u8) x v c none) (.row (.int .u8) y v c none)=(x=y):=Za9 (t:=.int .u8)
def ZON (x:Int):Prop:=(33≤x∧x≤126)∧((x ≠ 40∧x ≠ 41)∧(x ≠ 123∧(x ≠ 34∧x ≠ 92)))
instance (x:Int):Decidable (ZON x):=by unfold ZON; infer_instance
def ZOO (x:Int):Prop:=32≤x∧x≤126
instance (x:Int):Decidable (ZOO x):=by unfold ZOO; infer_instance
def ZAk (n:Int):Nat→List AV→Mem→Zbe
 | 5,tm,M=>⟨Nat × ByteArray,fun y=>(Zcp (ZcG tm [(0, .c (.int .i64 ((y.1:Nat):Int))),(4, .c (.str y.2)),(5, .any)]) 10 17,M),fun y=>(ZB9 y.1 y.2 n),fun y=>y.1⟩
 | _,_,_=>⟨Unit,fun _=>([],[]),fun _=>False,fun _=>0⟩
theorem ZAl (n:Int) (hpre:Zmt n):Zaq Tryz.prog 199 [.c (.int .i64 n)] (.c (.str (⟨(Lib.itoa n).toArray⟩:ByteArray))) []:=by
 refine bc0 [] [] [] [] (ZAk n) Tryz.func199 (fun hwf=>?_)
 refine Eq.mpr (β:=T3 (bif eqI n 0 then True∧rS (⟨#[48]⟩:ByteArray) (⟨(Lib.itoa n).toArray⟩:ByteArray) else T4 ((∃ q:Nat × ByteArray,(ZB9 q.1 q.2 n)∧(vI n q.1∧lxs [.tp [], .c (.str (⟨#[]⟩:ByteArray)), .c (.bool (ltI n 0))] (leV (.c (.str (⟨#[]⟩:ByteArray))) (.c (.str q.2))∧True∧lxs [ci n, .c (.bool false),ci n, .c (.bool (ltI n 0))] (TN 17 (tpn 4 True))))∧pt (True))∧∀ y0:Nat × ByteArray,(ZB9 y0.1 y0.2 n)→T2 (bif neI y0.1 0 then True∧(10:Int) ≠ 0∧T3 (bif ltI (Int.tmod (y0.1:Int) 10) 0 then T5 (true=true∧True∧List.length ([(IntKind.wrap .u8 (w64 (48 + (w64 (0 - (Int.tmod (y0.1:Int) 10))))))]:List Int)≤maxLen∧True∧ByteArray.size (ZbV ([(IntKind.wrap .u8 (w64 (48 + (w64 (0 - (Int.tmod (y0.1:Int) 10))))))]:List Int)) + y0.2.size≤maxLen∧T2 ((10:Int) ≠ 0∧True∧(∃ y0' : Nat × ByteArray,(ZB9 y0'.1 y0'.2 n)∧y0'.1 < y0.1∧(vI (w64 (Int.tdiv (y0.1:Int) 10)) y0'.1∧lxs [.tp [], .c (.str (⟨#[]⟩:ByteArray)), .c (.bool (ltI n 0))] (leV (.c (.str ((ZbV ([(IntKind.wrap .u8 (w64 (48 + (w64 (0 - (Int.tmod (y0.1:Int) 10))))))]:List Int)) ++ y0.2))) (.c (.str y0'.2))∧True∧lxs [ci n, .c (.bool false),ci n, .c (.bool (ltI n 0))] (TN 17 (tpn 4 True))))∧pt (True)))) else T2 (true=true∧True∧List.length ([(IntKind.wrap .u8 (w64 (48 + (Int.tmod (y0.1:Int) 10))))]:List Int)≤maxLen∧True∧ByteArray.size (ZbV ([(IntKind.wrap .u8 (w64 (48 + (Int.tmod (y0.1:Int) 10))))]:List Int)) + y0.2.size≤maxLen∧T2 ((10:Int) ≠ 0∧True∧(∃ y0' : Nat × ByteArray,(ZB9 y0'.1 y0'.2 n)∧y0'.1 < y0.1∧(vI (w64 (Int.tdiv (y0.1:Int) 10)) y0'.1∧lxs [.tp [], .c (.str (⟨#[]⟩:ByteArray)), .c (.bool (ltI n 0))] (leV (.c (.str ((ZbV ([(IntKind.wrap .u8 (w64 (48 + (Int.tmod (y0.1:Int) 10))))]:List Int)) ++ y0.2))) (.c (.str y0'.2))∧True∧lxs [ci n, .c (.bool false),ci n, .c (.bool (ltI n 0))] (TN 17 (tpn 4 True))))∧pt (True))))) else True∧bif ltI n 0 then True∧ByteArray.size (⟨#[45]⟩:ByteArray) + y0.2.size≤maxLen∧True∧rS ((⟨#[45]⟩:ByteArray) ++ y0.2) (⟨(Lib.itoa n).toArray⟩:ByteArray) else T2 (rS y0.2 (⟨(Lib.itoa n).toArray⟩:ByteArray)))))) (by kernel_rfl) ?_
 unfold T2 T3 T4 T5
 try simp only [Zz6]
 have h0:0≤n:=hpre
 have hb:=ZL4 hwf.1
 have e1:∀ k:Nat,Int.tmod ((k:Nat):Int) 10=((k % 10:Nat):Int):=fun k=>rfl
 have e2:∀ k:Nat,Int.tdiv ((k:Nat):Int) 10=((k / 10:Nat):Int):=fun k=>rfl
 have e3:∀ k:Nat,IntKind.wrap .u8 (IntKind.wrap .i64 (48 + ((k % 10:Nat):Int)))=((48 + k % 10:Nat):Int):=fun k=>by rw [ZB0 (by omega) (by omega),w8 (by omega) (by omega)]; omega
 try simp only [Zz6]
 simp only [e1,e2,e3]
 simp only [Zaz,Zbi,ZaC,Bool.not_true,Bool.not_false,Zdj,eq_self]
 repeat' (first | apply And.intro | intro _)
 all_goals first
  | (with_reducible trivial)
  | omega
  | (with_reducible assumption)
  | exact ZGI (by assumption)
  | exact ⟨(n.toNat,_),ZEC h0 (by assumption),by omega,rfl⟩
  | (unfold maxLen; simp; done)
  | (rename_i y hy hk hx; have:=ZEF hb.2 h0 hy; rw [ZfT]; unfold maxLen; simp only [List.length_singleton]; omega)
  | exact ZGG hb.2 h0 (by omega) (by assumption)
  | (rename_i y hy hk hneg; obtain ⟨k,o⟩:=y; obtain rfl:k=0:=by have:((k:Nat):Int)=0:=hk; omega
     exact ZGH h0 hy)
def Zp8:ZaD Tryz.prog:=⟨199,[.v ZaF],fun x=>Zmt x.1,fun x=>.c (.str (⟨(Lib.itoa x.1).toArray⟩:ByteArray)),fun _=>[],fun x hx=>ZAl x.1 hx,Tryz.call199⟩
theorem ZHY {n:Int} (h : -9223372036854775808≤n∧n≤9223372036854775807):(⟨(Lib.itoa n).toArray⟩:ByteArray).size≤20:=by
 have:=ZAi h
 show (Lib.itoa n).toArray.size≤20
 rwa [List.size_toArray]
def Zan (s:ByteArray):GToken:=(1,s)
def ZdK  : GToken:=(3,(⟨#[]⟩:ByteArray))
def Za5  : GToken:=(4,(⟨#[]⟩:ByteArray))
set_option maxRecDepth 100000
set_option maxHeartbeats 4000000
def Zhm (z:Zaj):Bool:=btw z.1 0 999999999 && btw z.2 0 999999999
def ZbB (l:List Zaj):Bool:=decide (∀ i,i < l.length→Zhm (Zak l i)=true) && btw ((l.length:Nat):Int) 1 5
theorem ZGV {l:List Zaj} {i:Nat} (hi:i < l.length) (h:Zhm (Zak l i)=false):ZbB l=false:=by
 unfold ZbB
 rw [decide_eq_false (fun q=>by rw [q i hi] at h; cases h)]
 rfl
theorem ZHZ {l:List Zaj} {k:Nat} (hk:¬ ((k:Nat):Int) < ((l.length:Nat):Int)) (h:∀ i,i < k→Zhm (Zak l i)=true):ZbB l=btw ((l.length:Nat):Int) 1 5:=by
 unfold ZbB
 rw [decide_eq_true (fun i hi=>h i (by omega))]
 rfl
theorem ZJ6 {z:Zaj} (h:btw z.1 0 999999999=false):Zhm z=false:=by unfold Zhm; rw [h]; rfl
theorem ZJ7 {z:Zaj} (h:btw z.2 0 999999999=false):Zhm z=false:=by unfold Zhm; rw [h,Bool.and_false]
theorem ZJ8 {z:Zaj} (h1:btw z.1 0 999999999=true) (h2:btw z.2 0 999999999=true):Zhm z=true:=by unfold Zhm; rw [h1,h2]; rfl
def ZCg (l:List Zaj):Nat→List AV→Mem→Zbe
 | 2,tm,M=>⟨Nat,fun y=>(Zcp (ZcG tm [(2, .any),(3, .c (.int .i64 ((y:Nat):Int)))]) 4 22,M),fun y=>(y≤List.length l∧∀ j,j < y→Zhm (Zak l j)=true),fun y=>(List.length l - y)⟩
 | _,_,_=>⟨Unit,fun _=>([],[]),fun _=>False,fun _=>0⟩
theorem ZCh (l:List Zaj):Zaq Tryz.prog 57 [.c (.hs .no Zai l)] (.c (.bool (ZbB l))) []:=by
 refine bc0 [ZeQ] [] [] [] (ZCg l) Tryz.func57 (fun hwf=>?_)
 refine Eq.mpr (β:=T2 ((∃ q:Nat,(q≤l.length∧∀ j,j < q→Zhm (Zak l j)=true)∧lxs [hn Zai l, .tp []] (True∧vI 0 q∧TN 22 (tpn 3 True))∧pt (True))∧∀ y0:Nat,(y0≤l.length∧∀ j,j < y0→Zhm (Zak l j)=true)→T4 (bif ltI y0 l.length then T2 (ix 2 y0 l.length∧T2 (pt True∧T2 (bif !(btw (Zak l y0).1 0 999999999) then T2 (rB false (ZbB l)) else T2 (ix 2 y0 l.length∧T2 (pt True∧T2 (bif !(btw (Zak l y0).2 0 999999999) then True∧rB false (ZbB l) else T3 (∃ y0' : Nat,(y0'≤l.length∧∀ j,j < y0'→Zhm (Zak l j)=true)∧(l.length - y0') < (l.length - y0)∧lxs [hn Zai l, .tp []] (True∧vI (w64 ((y0:Int) + 1)) y0'∧TN 22 (tpn 3 True))∧pt (True)))))))) else T2 (pt True∧True∧rB (btw (l.length:Int) 1 5) (ZbB l))))) (by kernel_rfl) ?_
 unfold T2 T3 T4
 have hm:List.length l≤maxLen:=hwf.1.1
 unfold maxLen at hm
 simp only [Zbf,ZaC,Bool.not_true,Bool.not_false,Zdj,eq_self]
 refine ⟨⟨0,⟨Nat.zero_le _,Zbp⟩,rfl⟩,fun y hy=>?_⟩
 repeat' (with_reducible first | exact trivial | apply And.intro | intro _)
 all_goals first
  | (with_reducible trivial)
  | omega
  | (with_reducible assumption)
  | exact (ZGV (Int.ofNat_lt.1 (by assumption)) (ZJ6 (by assumption))).symm
  | exact (ZGV (Int.ofNat_lt.1 (by assumption)) (ZJ7 (by assumption))).symm
  | exact ⟨y + 1,⟨by omega,Zcf hy.2 (ZJ8 (by assumption) (by assumption))⟩,by omega,Zbm (by unfold maxLen; omega)⟩
  | exact (ZHZ (by assumption) hy.2).symm
def ZsU:ZaD Tryz.prog:=⟨57,[.v (.list Zai)],fun x=>True,fun x=>.c (.bool (ZbB x.1)),fun _=>[],fun x hx=>ZCh x.1,Tryz.call57⟩
def n4 (n:Int):ByteArray:=(bif (eqI n 0) then (⟨#[42]⟩:ByteArray) else (⟨(Lib.itoa n).toArray⟩:ByteArray))
theorem ZAm (n:Int) (hpre:Zmt n):Zaq Tryz.prog 156 [.c (.int .i64 n)] (.c (.str (n4 n))) []:=by
 refine bc0 [Zp8] [] [] [] L0 Tryz.func156 (fun hwf=>?_)
 refine Eq.mpr (β:=T3 (bif eqI n 0 then True∧rS (⟨#[42]⟩:ByteArray) (n4 n) else True∧pt (Zmt n)∧True∧rS (⟨(Lib.itoa n).toArray⟩:ByteArray) (n4 n))) (by kernel_rfl) ?_
 simp only [SIU,eq_self]
 repeat' (with_reducible first | exact trivial | apply And.intro | apply bifI | intro _)
 all_goals first
  | (with_reducible trivial)
  | omega
  | (with_reducible infer_instance)
  | (simp only [n4,cond_true,cond_false,Int.toNat_natCast, *]; done)
  | (subst_vars; simp only [n4,cond_true,cond_false,Int.toNat_natCast, *]; done)
  | (simp only [n4,cond_true,cond_false, *]; exact Zdb)
  | exact hpre
def ZAn:ZaD Tryz.prog:=⟨156,[.v ZaF],fun x=>Zmt x.1,fun x=>.c (.str (n4 x.1)),fun _=>[],fun x hx=>ZAm x.1 hx,Tryz.call156⟩
theorem Zk3 {n:Int} (h0:0≤n) (h:n≤999999999):(n4 n).size≤20:=by
 unfold n4
 simp only [ZJ5]
 split
 ·exact (show 1≤20 by decide)
 ·exact ZHY (by omega)
def spT (z:Zaj):ByteArray:=if z.2=z.1 then n4 z.1 else n4 z.1 ++ (⟨#[58]⟩:ByteArray) ++ n4 z.2
def Zhn (l:List Zaj):Nat→List ByteArray
 | 0=>[]
 | k + 1=>Zhn l k ++ [spT (Zak l k)]
theorem Zie (l:List Zaj):∀ k,(Zhn l k).length=k
 | 0=>rfl
 | k + 1=>by unfold Zhn; rw [List.length_append,Zie l k]; rfl
def joN (l:List ByteArray) (by' : ByteArray):Nat→List Int
 | 0=>[]
 | k + 1=>(if 0 < k then joN l by' k ++ ZdQ by' else joN l by' k) ++ ZdQ (Zaa l k)
def joS (l:List ByteArray) (by' : ByteArray):ByteArray:=ZbV (joN l by' l.length)
def Zjz (l:List ByteArray) (by' : ByteArray):Prop:=l.length≤1048576∧by'.size≤100∧∀ k,k < l.length→(Zaa l k).size≤100
theorem Zwr {l:List ByteArray} {b:ByteArray} (h:Zjz l b):∀ k,k≤l.length→(joN l b k).length≤200 * k
 | 0,_=>Nat.le_refl _
 | k + 1,hk=>by
  have h1:=Zwr h k (by omega)
  have h2:=h.2.2 k (by omega)
  have h3:=h.2.1
  unfold joN
  split <;> simp only [List.length_append,ZeA] <;> omega
theorem ZJ9 {l:List ByteArray} {b:ByteArray} {k:Nat} (h:0 < k):joN l b (k + 1)=joN l b k ++ ZdQ b ++ ZdQ (Zaa l k):=by
 show (if _ then _ else _) ++ _=_
 rw [if_pos h]
theorem ZKa {l:List ByteArray} {b:ByteArray} {k:Nat} (h:¬ 0 < k):joN l b (k + 1)=joN l b k ++ ZdQ (Zaa l k):=by
 show (if _ then _ else _) ++ _=_
 rw [if_neg h]
theorem Zy4 {l:List ByteArray} {b:ByteArray} (h:Zjz l b):(joS l b).size≤200 * l.length:=by
 unfold joS
 rw [ZfT]
 exact Zwr h _ (Nat.le_refl _)
def ZAo (l:List ByteArray) (b:ByteArray):Nat→List AV→Mem→Zbe
 | 3,tm,M=>⟨Nat,fun y=>(Zcp (ZcG tm [(5, .c (.row 0 0)),(6, .c (.int .i64 ((y:Nat):Int)))]) 7 18,ZgY M [(0, .row (.int .u8) (joN l b y) 0 0 none)]),fun y=>(y≤List.length l),fun y=>(List.length l - y)⟩
 | _,_,_=>⟨Unit,fun _=>([],[]),fun _=>False,fun _=>0⟩
theorem ZAp (l:List ByteArray) (b:ByteArray) (hpre:Zjz l b):Zaq Tryz.prog 157 [.c (.hs .no Zah l), .c (.str b)] (.c (.str (joS l b))) []:=by
 refine bc0 [] [] [] [] (ZAo l b) Tryz.func157 (fun hwf=>?_)
 refine Eq.mpr (β:=T4 ((∃ q:Nat,(q≤l.length)∧lxs [hn Zah l, .c (.str b), .tp [], .tp [], .c (.str (⟨#[]⟩:ByteArray)), .c (.row 0 0)] (vI 0 q∧TN 18 (lxs [.tp [], .tp []] True))∧pt (leB (.row (.int .u8) ([]:List Int) 0 0 none) (.row (.int .u8) (joN l b q) 0 0 none)∧True))∧∀ y0:Nat,(y0≤l.length)→T4 (bif ltI y0 l.length then T2 (bif gtI y0 0 then T2 (List.length (joN l b y0) + List.length (ZdQ b)≤rowMax∧T4 (ix 1 y0 l.length∧True∧List.length ((joN l b y0) ++ (ZdQ b)) + List.length (ZdQ (Zaa l y0))≤rowMax∧T4 (∃ y0' : Nat,(y0'≤l.length)∧(l.length - y0') < (l.length - y0)∧lxs [hn Zah l, .c (.str b), .tp [], .tp [], .c (.str (⟨#[]⟩:ByteArray)), .c (.row 0 0)] (vI (w64 ((y0:Int) + 1)) y0'∧TN 18 (lxs [.tp [], .tp []] True))∧pt (leB (.row (.int .u8) (((joN l b y0) ++ (ZdQ b)) ++ (ZdQ (Zaa l y0))) 0 0 none) (.row (.int .u8) (joN l b y0') 0 0 none)∧True)))) else T3 (ix 1 y0 l.length∧True∧List.length (joN l b y0) + List.length (ZdQ (Zaa l y0))≤rowMax∧T4 (∃ y0' : Nat,(y0'≤l.length)∧(l.length - y0') < (l.length - y0)∧lxs [hn Zah l, .c (.str b), .tp [], .tp [], .c (.str (⟨#[]⟩:ByteArray)), .c (.row 0 0)] (vI (w64 ((y0:Int) + 1)) y0'∧TN 18 (lxs [.tp [], .tp []] True))∧pt (leB (.row (.int .u8) ((joN l b y0) ++ (ZdQ (Zaa l y0))) 0 0 none) (.row (.int .u8) (joN l b y0') 0 0 none)∧True)))) else True∧List.length (joN l b y0)≤maxLen∧True∧rS (ZbV (joN l b y0)) (joS l b)))) (by kernel_rfl) ?_
 unfold T2 T3 T4
 obtain ⟨p1,p2,p3⟩:=hpre
 simp only [Zbf,Zaz,Zbi,ZaC,Bool.not_true,Bool.not_false,Zdj,eq_self]
 refine ⟨⟨0,Nat.zero_le _,rfl,rfl⟩,fun y hy=>?_⟩
 have hl:=Zwr (l:=l) (b:=b) ⟨p1,p2,p3⟩ y hy
 have h3:=p3 y
 repeat' (with_reducible first | exact trivial | apply And.intro | intro _)
 all_goals first
  | (with_reducible trivial)
  | omega
  | (with_reducible assumption)
  | ((try simp only [List.length_append,List.length_cons,List.length_nil,ZeA]); (first | unfold rowMax | unfold maxLen); omega)
  | exact ⟨y + 1,by omega,by omega,Zbm (by unfold maxLen; omega),(ZJ9 (by omega)).symm⟩
  | exact ⟨y + 1,by omega,by omega,Zbm (by unfold maxLen; omega),(ZKa (by omega)).symm⟩
  | (obtain rfl:y=List.length l:=by omega
     rfl)
def ZAq:ZaD Tryz.prog:=⟨157,[.v (.list Zah), .v Zah],fun x=>Zjz x.1 x.2.1,fun x=>.c (.str (joS x.1 x.2.1)),fun _=>[],fun x hx=>ZAp x.1 x.2.1 hx,Tryz.call157⟩
theorem ZCi {l:List ByteArray} {i:Nat} {x:ByteArray} (h:l[i]?=some x):Zaa l i=x:=Zgw (t:=Zah) h
theorem ZfA {l:List ByteArray} {i:Nat} (h:i < l.length):l[i]?=some (Zaa l i):=Zat (t:=Zah) h
theorem Zy5 (l:List Zaj):∀ k j,j < k→Zaa (Zhn l k) j=spT (Zak l j)
 | 0,_,h=>absurd h (Nat.not_lt_zero _)
 | k + 1,j,h=>by
  have e:Zhn l (k + 1)=Zhn l k ++ [spT (Zak l k)]:=rfl
  have hl:=Zie l k
  rw [e]
  by_cases hj:j=k
  ·subst hj
   exact ZCi (by rw [List.getElem?_append_right (by omega),hl,Nat.sub_self]; rfl)
  ·have h2:=Zy5 l k j (by omega)
   rw [← h2]
   have hlt:j < (Zhn l k).length:=by omega
   refine ZCi ?_
   rw [List.getElem?_append_left hlt]
   exact ZfA hlt
theorem ZFf {z:Zaj} (h:Zhm z=true):(spT z).size≤100:=by
 unfold Zhm at h
 rw [Bool.and_eq_true,Zaz,Zaz] at h
 have h1:=Zk3 h.1.1 h.1.2
 have h2:=Zk3 h.2.1 h.2.2
 unfold spT
 split
 ·omega
 ·rw [ByteArray.size_append,ByteArray.size_append]
  show _ + 1 + _≤100
  omega
def Zif (l:List Zaj):ByteArray:=if ZbB l=true then joS (Zhn l l.length) (⟨#[44]⟩:ByteArray) else ⟨#[]⟩
theorem ZjA {l:List Zaj} (h:ZbB l=true) {i:Nat} (hi:i < l.length):Zhm (Zak l i)=true:=by
 unfold ZbB at h
 rw [Bool.and_eq_true,decide_eq_true_eq] at h
 exact h.1 i hi
theorem Ze4 {l:List Zaj} (h:ZbB l=true):1≤l.length∧l.length≤5:=by
 unfold ZbB at h
 rw [Bool.and_eq_true,Zaz] at h
 omega
theorem ZGW {l:List Zaj} (h:ZbB l=true):Zjz (Zhn l l.length) (⟨#[44]⟩:ByteArray):=by
 have:=Ze4 h
 refine ⟨by rw [Zie]; omega,(show 1≤100 by decide),fun k hk=>?_⟩
 rw [Zie] at hk
 rw [Zy5 l _ k hk]
 exact ZFf (ZjA h hk)
theorem Zy6 {z:Zaj} (h:z.2=z.1):spT z=n4 z.1:=if_pos h
theorem Zy7 {z:Zaj} (h:¬ z.2=z.1):spT z=n4 z.1 ++ (⟨#[58]⟩:ByteArray) ++ n4 z.2:=if_neg h
def Zws (l:List Zaj):Nat→List AV→Mem→Zbe
 | 5,tm,M=>⟨Nat,fun y=>(Zcp (ZcG tm [(3, .c (.row 0 0)),(4, .c (.int .i64 ((y:Nat):Int))),(5, .any)]) 9 37,ZgY M [(0, .row Zah (Zhn l y) 0 0 none)]),fun y=>(y≤List.length l),fun y=>(List.length l - y)⟩
 | _,_,_=>⟨Unit,fun _=>([],[]),fun _=>False,fun _=>0⟩
def ZmY (y0:Nat) (l:List Zaj):Prop:=ix 2 y0 l.length
def Zwt (y0:Nat) (y0' : Nat) (l:List Zaj):Prop:=vI (w64 ((y0:Int) + 1)) y0'∧True∧lxs [hn Zai l, .c (.bool (ZbB l)), .c (.bool false)] (TN 37 (lxs [.tp [], .tp []] True))
theorem Zwu (l:List Zaj):Zaq Tryz.prog 98 [.c (.hs .no Zai l)] (.c (.str (Zif l))) []:=by
 refine bc0 [ZsU,ZAn,ZAq] [] [] [] (Zws l) Tryz.func98 (fun hwf=>?_)
 refine Eq.mpr (β:=T2 (pt True∧True∧bif !(ZbB l) then True∧rS (⟨#[]⟩:ByteArray) (Zif l) else T3 ((∃ q:Nat,(q≤l.length)∧lxs [hn Zai l, .tp [], .c (.str (⟨#[]⟩:ByteArray)), .c (.row 0 0)] (vI 0 q∧True∧lxs [hn Zai l, .c (.bool (ZbB l)), .c (.bool false)] (TN 37 (lxs [.tp [], .tp []] True)))∧pt (leB (.row Zah ([]:List ByteArray) 0 0 none) (.row Zah (Zhn l q) 0 0 none)∧True))∧∀ y0:Nat,(y0≤l.length)→T4 (bif ltI y0 l.length then T2 (ZmY y0 l∧T2 (pt (Zmt (Zak l y0).1)∧True∧pt (true=true)∧T2 (ZmY y0 l∧T4 (ZmY y0 l∧T3 (bif neI (Zak l y0).2 (Zak l y0).1 then True∧ByteArray.size (n4 (Zak l y0).1) + ByteArray.size (⟨#[58]⟩:ByteArray)≤maxLen∧T2 (ZmY y0 l∧T2 (pt (Zmt (Zak l y0).2)∧ByteArray.size ((n4 (Zak l y0).1) ++ (⟨#[58]⟩:ByteArray)) + ByteArray.size (n4 (Zak l y0).2)≤maxLen∧T4 ((True∧List.length (Zhn l y0) + List.length ([(((n4 (Zak l y0).1) ++ (⟨#[58]⟩:ByteArray)) ++ (n4 (Zak l y0).2))])≤rowMax)∧T4 (∃ y0' : Nat,(y0'≤l.length)∧(l.length - y0') < (l.length - y0)∧lxs [hn Zai l, .tp [], .c (.str (⟨#[]⟩:ByteArray)), .c (.row 0 0)] (Zwt y0 y0' l)∧pt (leB (.row Zah ((Zhn l y0) ++ [(((n4 (Zak l y0).1) ++ (⟨#[58]⟩:ByteArray)) ++ (n4 (Zak l y0).2))]) 0 0 none) (.row Zah (Zhn l y0') 0 0 none)∧True))))) else T3 ((True∧List.length (Zhn l y0) + List.length ([(n4 (Zak l y0).1)])≤rowMax)∧T4 (∃ y0' : Nat,(y0'≤l.length)∧(l.length - y0') < (l.length - y0)∧lxs [hn Zai l, .tp [], .c (.str (⟨#[]⟩:ByteArray)), .c (.row 0 0)] (Zwt y0 y0' l)∧pt (leB (.row Zah ((Zhn l y0) ++ [(n4 (Zak l y0).1)]) 0 0 none) (.row Zah (Zhn l y0') 0 0 none)∧True)))))))) else True∧(Zjz (Zhn l y0) (⟨#[44]⟩:ByteArray)∧pt (true=true))∧True∧rS (joS (Zhn l y0) (⟨#[44]⟩:ByteArray)) (Zif l))))) (by kernel_rfl) ?_
 unfold Zwt ZmY T2 T3 T4
 cases hs:ZbB l with
 | false =>
  exact ZuY
 | true =>
  have hk:=fun k h=>ZjA hs (i:=k) h
  have hlen:=Ze4 hs
  simp only [Zbf,Zaz,Zbi,ZaC,Bool.not_true,Bool.not_false,Zdj,eq_self]
  refine ⟨fun h=>?_,fun _=>⟨⟨0,Nat.zero_le _,rfl,rfl⟩,fun y hy=>?_⟩⟩
  ·exact absurd h (by decide)
  have hz:∀ h:y < List.length l,(0≤(Zak l y).1∧(Zak l y).1≤999999999)∧(0≤(Zak l y).2∧(Zak l y).2≤999999999):=fun h=>by
   exact ZvF
  repeat' (with_reducible first | exact trivial | apply And.intro | intro _)
  all_goals first
   | (with_reducible trivial)
   | omega
   | (with_reducible assumption)
   | exact (hz (by omega)).1.1
   | exact (hz (by omega)).2.1
   | (have hh:=hz (by omega); have n1:=Zk3 hh.1.1 hh.1.2; have n2:=Zk3 hh.2.1 hh.2.2; (try simp only [ByteArray.size_append,show ByteArray.size (⟨#[58]⟩:ByteArray)=1 from rfl]); unfold maxLen; omega)
   | (rw [Zie,List.length_singleton]; unfold rowMax; omega)
   | (refine ⟨y + 1,by omega,by omega,Zbm (by unfold maxLen; omega),?_⟩; show _=Zhn l y ++ [_]; rw [Zy7 (by assumption)])
   | (refine ⟨y + 1,by omega,by omega,Zbm (by unfold maxLen; omega),?_⟩; show _=Zhn l y ++ [_]; rw [Zy6 (by assumption)])
   | (obtain rfl:y=List.length l:=by omega
      exact ZGW hs)
   | (obtain rfl:y=List.length l:=by omega
      exact (if_pos hs).symm)
def Zwv:ZaD Tryz.prog:=⟨98,[.v (.list Zai)],fun x=>True,fun x=>.c (.str (Zif x.1)),fun _=>[],fun x hx=>Zwu x.1,Tryz.call98⟩
def bitB (b:Int) (k:Nat):Bool:=eqI (IntKind.wrap .i64 (((BitVec.ofInt (IntKind.bits .i64) (ZB7 .i64 b ((k:Nat):Int)) &&& BitVec.ofInt (IntKind.bits .i64) 1).toNat:Nat))) 1
def ZaO (ws:List ByteArray) (b:Int):Nat→List ByteArray
 | 0=>[]
 | k + 1=>if bitB b k=true then ZaO ws b k ++ [Zaa ws k] else ZaO ws b k
theorem ZH0 {ws:List ByteArray} {b:Int} {k:Nat} (h:bitB b k=true):ZaO ws b (k + 1)=ZaO ws b k ++ [Zaa ws k]:=if_pos h
theorem ZH1 {ws:List ByteArray} {b:Int} {k:Nat} (h:bitB b k=false):ZaO ws b (k + 1)=ZaO ws b k:=if_neg (by rw [h]; decide)
theorem Zf6 (ws:List ByteArray) (b:Int):∀ k,(ZaO ws b k).length≤k
 | 0=>Nat.le_refl _
 | k + 1=>by
  have:=Zf6 ws b k
  unfold ZaO
  exact Zo0
theorem ZjB {ws:List ByteArray} {b:Int}:∀ {k:Nat} {x:ByteArray},x ∈ ZaO ws b k→∃ j,j < k∧x=Zaa ws j
 | 0,x,h=>by cases h
 | k + 1,x,h=>by
  unfold ZaO at h
  split at h
  ·rw [List.mem_append] at h
   rcases h with h | h
   ·obtain ⟨j,h1,h2⟩:=ZjB h
    exact ⟨j,by omega,h2⟩
   ·exact ⟨k,by omega,by simpa using h⟩
  ·obtain ⟨j,h1,h2⟩:=ZjB h
   exact ⟨j,by omega,h2⟩
theorem ZsV {l:List ByteArray} {b:ByteArray} (h1:l.length≤1048576) (h2:b.size≤100) (h:∀ x ∈ l,x.size≤100):Zjz l b :=
 ⟨h1,h2,fun k hk=>h _ (List.mem_of_getElem? (ZfA hk))⟩
def ZaB:List ByteArray:=[(⟨#[115,101,101,110]⟩:ByteArray),(⟨#[97,110,115,119,101,114,101,100]⟩:ByteArray),(⟨#[102,108,97,103,103,101,100]⟩:ByteArray),(⟨#[100,101,108,101,116,101,100]⟩:ByteArray),(⟨#[100,114,97,102,116]⟩:ByteArray)]
theorem Zp9:∀ j,(Zaa ZaB j).size≤8
 | 0=>by decide
 | 1=>by decide
 | 2=>by decide
 | 3=>by decide
 | 4=>by decide
 | j + 5=>by
  have e:Zaa ZaB (j + 5)=(⟨#[]⟩:ByteArray):=rfl
  rw [e]
  exact Nat.zero_le _
def Zww (b:Int):ByteArray:=joS (if ZaC b=true then ZaO ZaB b 5 else []) (⟨#[32]⟩:ByteArray)
theorem ZH2 (b:Int):Zjz (if ZaC b=true then ZaO ZaB b 5 else []) (⟨#[32]⟩:ByteArray):=by
 split
 ·refine ZsV (Nat.le_trans (Zf6 _ _ _) (by decide)) (by decide) fun x hx=>?_
  obtain ⟨j,_,rfl⟩:=ZjB hx
  exact Nat.le_trans (Zp9 j) (by decide)
 ·exact ZsV (by decide) (by decide) (fun x hx=>by cases hx)
theorem ZAr (b:Int):(Zww b).size≤1000:=by
 have h:=Zy4 (ZH2 b)
 have h2:(if ZaC b=true then ZaO ZaB b 5 else []).length≤5:=by
  split
  ·exact Zf6 _ _ _
  ·exact Nat.zero_le _
 unfold Zww
 omega
theorem Zwx  : Zaq Tryz.prog 158 [] (.c (.row 0 0)) [.row Zah ZaB 0 0 none]:=by
 refine bc0 [] [] [] [] L0 Tryz.func158 (fun hwf=>?_)
 exact Zwg
def Zwy:ZaD Tryz.prog:=⟨158,[],fun x=>True,fun x=>.c (.row 0 0),fun x=>[.row Zah ZaB 0 0 none],fun x hx=>Zwx ,Tryz.call158⟩
end Go.Proofs.YtkeglpnnedflnaaGreatDoor
