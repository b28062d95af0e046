import Derived.Test.YtkeglpnnedflnaaGreatDoorPBlRd
set_option linter.unusedSimpArgs false
set_option linter.unusedVariables false
set_option maxRecDepth 100000
set_option maxHeartbeats 4000000
namespace Go.Proofs.YtkeglpnnedflnaaGreatDoor
open Go.ChangeShapes Go.WideShapes Go.ChangeAt Go.RowKit Go.Joins Go.Deep
open GoRep (rep bulk)
abbrev GL6In:=List GToken × Int × Bool
def Zdl:Ty:=.prod (.list Zab) (.prod ZaF .bool)
theorem Znp {a a' : List GToken} {b b' : Int} {c c' : Bool}:leB (.box [.hs .no Zab a, .int .i64 b, .bool c]) (.box [.hs .no Zab a', .int .i64 b', .bool c'])=((a,b,c)=(a',b',c')):=by
 refine propext ⟨fun h=>?_,fun h=>?_⟩
 ·have h:=ZtX h
  injection h with h
  injection h with h1 h
  injection h with h2 h
  injection h with h3 _
  injection h1 with _ _ h1
  injection h2 with _ h2
  injection h3 with h3
  exact Prod.ext h1 (Prod.ext h2 h3)
 ·cases h
  exact Zh9
def ZpC (r:GL6In) (k:Int):Bool:=ltI r.2.1 ((r.1.length:Nat):Int) && (eqI (Zag r.1 (Int.toNat r.2.1)).1 k && (eqI k 1 || eqS (Zag r.1 (Int.toNat r.2.1)).2 (⟨#[]⟩:ByteArray)))
def ZaA (r:GL6In) (k:Int):ByteArray:=if ZpC r k=true then (Zag r.1 (Int.toNat r.2.1)).2 else (⟨#[]⟩:ByteArray)
def Zal (r:GL6In) (k:Int):GL6In:=if ZpC r k=true then (r.1,r.2.1 + 1,r.2.2) else (r.1,r.2.1,true)
def ok6 (r:GL6In):Prop:=(0≤r.2.1∧r.2.1≤((r.1.length:Nat):Int))∧r.1.length≤1048576
theorem ZcI {r:GL6In} (k:Int) (h:ok6 r):ok6 (Zal r k):=by
 unfold Zal
 split
 ·rename_i hy
  unfold ZpC at hy
  rw [Bool.and_eq_true] at hy
  have:=ZbN.1 hy.1
  exact ⟨⟨by have:=h.1.1; show 0≤r.2.1 + 1; omega,by show r.2.1 + 1≤((r.1.length:Nat):Int); omega⟩,h.2⟩
 ·exact h
section
variable {r:GL6In} {k:Int}
theorem ZMp (h:r.2.1 < ((r.1.length:Nat):Int)) (h1:(Zag r.1 (Int.toNat r.2.1)).1=k) (h2:k=1∨(Zag r.1 (Int.toNat r.2.1)).2=(⟨#[]⟩:ByteArray)):ZpC r k=true:=by
 unfold ZpC
 rw [ZbN.2 h,ZaE.2 h1,Bool.true_and,Bool.true_and,Bool.or_eq_true]
 exact h2.imp ZaE.2 Zav.2
theorem ZQ6 (h:¬ r.2.1 < ((r.1.length:Nat):Int)):ZpC r k=false:=by
 unfold ZpC
 rw [Zbz.2 h,Bool.false_and]
theorem ZQ7 (h1:¬ (Zag r.1 (Int.toNat r.2.1)).1=k):ZpC r k=false:=by
 unfold ZpC
 rw [Zba.2 h1,Bool.false_and,Bool.and_false]
theorem ZQ8 (h1:¬ k=1) (h2:¬ (Zag r.1 (Int.toNat r.2.1)).2=(⟨#[]⟩:ByteArray)):ZpC r k=false:=by
 unfold ZpC
 rw [Zba.2 h1,Zbc.2 h2,Bool.or_false,Bool.and_false,Bool.and_false]
theorem ZN2 (h:ZpC r k=true):(Zag r.1 (Int.toNat r.2.1)).2=ZaA r k:=(if_pos h).symm
theorem ZQ9 (h:ZpC r k=false):ZaA r k=(⟨#[]⟩:ByteArray):=if_neg (by rw [h]; decide)
theorem ZK9 (h:ZpC r k=true):Zal r k=(r.1,r.2.1 + 1,r.2.2):=if_pos h
theorem ZPv (h:ZpC r k=false):Zal r k=(r.1,r.2.1,true):=if_neg (by rw [h]; decide)
end
def ZxP (r:GL6In) (k:Int):Prop:=T9 (pt (true=true)∧T9 (ix 2 (w64 ((w64 (r.2.1 + 1)) - 1)) r.1.length∧T3 (pt ((((true=true∧leC (.hs .no Zab r.1) (.hs .no Zab (Zal r k).1))∧cI (w64 (r.2.1 + 1)) (Zal r k).2.1∧cB r.2.2 (Zal r k).2.2∧True)∧True)∧cS (Zag r.1 (Int.toNat (w64 ((w64 (r.2.1 + 1)) - 1)))).2 (ZaA r k)))))
def ZrV (r:GL6In) (k:Int):Prop:=T5 (pt ((((true=true∧leC (.hs .no Zab r.1) (.hs .no Zab (Zal r k).1))∧cI r.2.1 (Zal r k).2.1∧cB true (Zal r k).2.2∧True)∧True)∧cS (⟨#[]⟩:ByteArray) (ZaA r k)))
theorem ZA6 (r:GL6In) (k:Int) (hpre:ok6 r):ZdE Tryz.prog 48 (Zdw 0 [(.b Zdl),(.a (.v ZaF))] (r,k,())) (ZgX 0 [(.b Zdl),(.a (.v ZaF))] (r,k,())) (ZdR 0 [(.b Zdl),(.a (.v ZaF))] ((Zal r k),k,()) ++ []) (inpM 0 [(.b Zdl),(.a (.v ZaF))]) (.c (.str (ZaA r k))):=by
 refine Zce (T:=⟨[],[],[],[],none,fun _=>[],1,[],[]⟩) (L:=L0) Tryz.func48 rfl rfl rfl (by kernel_rfl) (fun hwf hwm=>?_)
 refine Eq.mpr (β:=True∧pt (true=true)∧T11 (bif geI r.2.1 r.1.length then T3 (ZrV r k) else T8 (ix 2 r.2.1 r.1.length∧T6 (bif neI (Zag r.1 r.2.1.toNat).1 k then True∧ZrV r k else T3 (bif neI k 1 then T8 (ix 2 r.2.1 r.1.length∧T5 (bif !eqS (Zag r.1 r.2.1.toNat).2 (⟨#[]⟩:ByteArray) then ZrV r k else ZxP r k)) else T2 (ZxP r k)))))) (by kernel_rfl) ?_
 unfold ZrV ZxP T11 T2 T3 T5 T6 T8 T9
 obtain ⟨⟨h1,h2⟩,h3⟩:(0≤r.2.1∧r.2.1≤((r.1.length:Nat):Int))∧r.1.length≤1048576:=hpre
 have w1:IntKind.wrap .i64 (r.2.1 + 1)=r.2.1 + 1:=ZB0 (by omega) (by omega)
 have w2:IntKind.wrap .i64 (r.2.1 + 1 - 1)=r.2.1:=by rw [ZB0 (by omega) (by omega)]; omega
 cases hy:ZpC r k with
 | false =>
  rw [ZPv hy,ZQ9 hy]
  try simp only [Zz6]
  simp only [w1,w2]
  simp only [Znp,Zd9,Zdj,eq_self]
  repeat' (with_reducible first | exact trivial | apply And.intro | intro _)
  all_goals first
   | (with_reducible trivial)
   | omega
   | (with_reducible assumption)
   | rfl
   | (exfalso; have:=ZMp (r:=r) (k:=k) (by omega) (by with_reducible assumption) (.inl (by with_reducible assumption)); rw [hy] at this; cases this)
   | (exfalso; have:=ZMp (r:=r) (k:=k) (by omega) (by with_reducible assumption) (.inr (by with_reducible assumption)); rw [hy] at this; cases this)
 | true =>
  rw [ZK9 hy,← ZN2 hy]
  try simp only [Zz6]
  simp only [w1,w2]
  simp only [Znp,Zd9,Zdj,eq_self]
  repeat' (with_reducible first | exact trivial | apply And.intro | intro _)
  all_goals first
   | (with_reducible trivial)
   | omega
   | (with_reducible assumption)
   | rfl
   | (exfalso; have:=ZQ6 (r:=r) (k:=k) (by omega); rw [hy] at this; cases this)
   | (exfalso; have:=ZQ7 (r:=r) (k:=k) (by with_reducible assumption); rw [hy] at this; cases this)
   | (exfalso; have:=ZQ8 (r:=r) (k:=k) (by with_reducible assumption) (by with_reducible assumption); rw [hy] at this; cases this)
def Zih:Zct Tryz.prog:=⟨48,[(.b Zdl),(.a (.v ZaF))],fun x=>ok6 x.1,fun x=>((Zal x.1 x.2.1),x.2.1,()),fun x=>.c (.str (ZaA x.1 x.2.1)),fun _=>[],fun x hx=>ZA6 x.1 x.2.1 hx,Tryz.call48⟩
set_option maxRecDepth 100000
set_option maxHeartbeats 4000000
def ag6 (r:GL6In):List GToken:=Zac (Int.toNat (Zal r 3).2.1) (Zal r 3).1
def am6 (r:GL6In) (n:Nat):GL6In:=((Zal r 3).1,(Zal r 3).2.1 + ((n:Nat):Int),(Zal r 3).2.2)
def Zeg (r:GL6In):List ByteArray:=txN (ag6 r) (atN (ag6 r))
def ZbK (r:GL6In):GL6In:=Zal (am6 r (atN (ag6 r))) 4
theorem ZfZ (r:GL6In) (k:Int):(Zal r k).1=r.1:=by
 unfold Zal
 split <;> rfl
theorem ZCY (l:List GToken):atN l≤l.length:=by
 unfold atN
 exact (List.takeWhile_sublist _).length_le
def agI (l:List GToken) (n:Nat):Prop:=n≤l.length∧∀ j,j < n→(Zag l j).1=1
theorem ZN3 {l:List GToken} {m n:Nat} (h:m + n < l.length):Zag (Zac m l) n=Zag l (m + n):=by
 show List.getD (l.drop m) n ((0,(⟨#[]⟩:ByteArray)):GToken)=List.getD l (m + n) ((0,(⟨#[]⟩:ByteArray)):GToken)
 rw [List.getD_eq_getElem?_getD,List.getD_eq_getElem?_getD,List.getElem?_drop]
theorem Ztc {r:GL6In} (h:ok6 r):(((ag6 r).length:Nat):Int)=(((Zal r 3).1.length:Nat):Int) - (Zal r 3).2.1:=by
 have h2:=(ZcI 3 h).1
 unfold ag6
 rw [ZbH]
 omega
section
variable {r:GL6In} {n:Nat}
theorem ZLa (h:ok6 r) (hi:agI (ag6 r) n):ok6 (am6 r n):=by
 have h1:=ZcI 3 h
 have h2:=Ztc h
 have h3:=hi.1
 refine ⟨⟨?_,?_⟩,h1.2⟩
 ·show 0≤(Zal r 3).2.1 + ((n:Nat):Int)
  have:=h1.1.1
  omega
 ·show (Zal r 3).2.1 + ((n:Nat):Int)≤_
  show _≤(((Zal r 3).1.length:Nat):Int)
  omega
theorem ZHi (h:ok6 r) (hlt:(Zal r 3).2.1 + ((n:Nat):Int) < (((Zal r 3).1.length:Nat):Int)):Zag (Zal r 3).1 (Int.toNat ((Zal r 3).2.1 + ((n:Nat):Int)))=Zag (ag6 r) n:=by
 have h1:=(ZcI 3 h).1.1
 unfold ag6
 rw [ZN3 (by omega)]
 congr 1
 omega
theorem ZRa:∃ q:Nat,agI (ag6 r) q∧((Zal r 3).1,(Zal r 3).2.1,(Zal r 3).2.2)=((Zal r 3).1,(Zal r 3).2.1 + ((q:Nat):Int),(Zal r 3).2.2)∧([]:List ByteArray)=txN (ag6 r) q:=by
 refine ⟨0,⟨Nat.zero_le _,fun j hj=>absurd hj (Nat.not_lt_zero j)⟩,?_,rfl⟩
 rw [show (Zal r 3).2.1 + ((0:Nat):Int)=(Zal r 3).2.1 by omega]
theorem ZRb (h:ok6 r) (hi:agI (ag6 r) n) (hlt:(Zal r 3).2.1 + ((n:Nat):Int) < (((Zal r 3).1.length:Nat):Int)) (h1:(Zag (Zal r 3).1 (Int.toNat ((Zal r 3).2.1 + ((n:Nat):Int)))).1=1) :
 agI (ag6 r) (n + 1)∧ZaA (am6 r n) 1=(Zag (ag6 r) n).2∧Zal (am6 r n) 1=am6 r (n + 1):=by
 have hy:ZpC (am6 r n) 1=true:=ZMp hlt h1 (.inl rfl)
 have e:=ZHi h hlt
 have h2:=Ztc h
 refine ⟨⟨by omega,fun j hj=>?_⟩,?_,?_⟩
 ·by_cases hj' : j < n
  ·exact hi.2 j hj'
  ·obtain rfl:j=n:=by omega
   rw [← e]
   exact h1
 ·rw [← ZN2 hy,← e]
  rfl
 ·rw [ZK9 hy]
  show ((Zal r 3).1,(Zal r 3).2.1 + ((n:Nat):Int) + 1,(Zal r 3).2.2)=((Zal r 3).1,(Zal r 3).2.1 + ((n + 1:Nat):Int),(Zal r 3).2.2)
  rw [show (Zal r 3).2.1 + ((n:Nat):Int) + 1=(Zal r 3).2.1 + ((n + 1:Nat):Int) by omega]
theorem ZFD (h:ok6 r) (hi:agI (ag6 r) n) (hlt:¬ (Zal r 3).2.1 + ((n:Nat):Int) < (((Zal r 3).1.length:Nat):Int)):atN (ag6 r)=n:=by
 have h2:=Ztc h
 refine Zzr hi.1 hi.2 ?_
 rw [ZDa (by omega)]
 show (0:Int) ≠ 1
 decide
theorem ZFE (h:ok6 r) (hi:agI (ag6 r) n) (hlt:(Zal r 3).2.1 + ((n:Nat):Int) < (((Zal r 3).1.length:Nat):Int)) (h1:¬ (Zag (Zal r 3).1 (Int.toNat ((Zal r 3).2.1 + ((n:Nat):Int)))).1=1):atN (ag6 r)=n:=by
 have h2:=Ztc h
 refine Zzr hi.1 hi.2 ?_
 rw [ZC9 (by omega),← ZHi h hlt]
 exact h1
theorem ZRc (h:ok6 r) (hi:agI (ag6 r) n) {x:ByteArray}:(txN (ag6 r) n).length + [x].length≤rowMax:=by
 have h1:=ZDb (ag6 r) n
 have h2:=Ztc h
 have h3:=hi.1
 have h4:=(ZcI 3 h).2
 have h5:=(ZcI 3 h).1.1
 exact Zh7
theorem ZRd (h:ok6 r) (hi:agI (ag6 r) n) (hlt:(Zal r 3).2.1 + ((n:Nat):Int) < (((Zal r 3).1.length:Nat):Int)) (h1:(Zag (Zal r 3).1 (Int.toNat ((Zal r 3).2.1 + ((n:Nat):Int)))).1=1) :
 ∃ m:Nat,agI (ag6 r) m∧(ag6 r).length - m < (ag6 r).length - n∧((Zal (am6 r n) 1).1,(Zal (am6 r n) 1).2.1,(Zal (am6 r n) 1).2.2)=((Zal r 3).1,(Zal r 3).2.1 + ((m:Nat):Int),(Zal r 3).2.2)∧txN (ag6 r) n ++ [ZaA (am6 r n) 1]=txN (ag6 r) m:=by
 obtain ⟨a1,a2,a3⟩:=ZRb h hi hlt h1
 have h2:=a1.1
 refine ⟨n + 1,a1,by omega,?_,?_⟩
 ·rw [a3]
  rfl
 ·rw [a2,Zzs (by omega)]
theorem ZJP (e:atN (ag6 r)=n):Zal (am6 r n) 4=ZbK r:=by
 unfold ZbK
 rw [e]
theorem ZPw (e:atN (ag6 r)=n):txN (ag6 r) n=Zeg r:=by
 unfold Zeg
 rw [e]
theorem Zqk (h:ok6 r):ok6 (ZbK r):=ZcI 4 (ZLa h ⟨ZCY _,fun j hj=>by
 have h1:j < (ag6 r).length:=Nat.lt_of_lt_of_le hj (ZCY _)
 have h2:(ag6 r)[j]?=some (Zag (ag6 r) j):=Zat (t:=Zab) h1
 have h3:((ag6 r).takeWhile ZFM)[j]?=(ag6 r)[j]?:=by
  have hp:=List.takeWhile_prefix ZFM (l:=ag6 r)
  obtain ⟨t,ht⟩:=hp
  have h6:=List.getElem?_append_left (l₂:=t) hj
  rw [ht] at h6
  exact h6.symm
 have h4:=List.mem_of_getElem? (h3.trans h2)
 have h5:=List.all_eq_true.1 (List.all_takeWhile (p:=ZFM) (l:=ag6 r)) _ h4
 exact of_decide_eq_true h5⟩)
end
def ZxQ (r:GL6In):Nat→List AV→Mem→Zbe
 | 3,tm,M=>⟨Nat,fun y=>(Zcp (ZcG tm [(3, .c (.row 1 0)),(4, .any)]) 7 29,ZgY M [(0, .box [.hs .no Zab (Zal r 3).1, .int .i64 ((Zal r 3).2.1 + ((y:Nat):Int)), .bool (Zal r 3).2.2]),(1, .row Zah (txN (ag6 r) y) 0 0 none)]),fun y=>(agI (ag6 r) y),fun y=>(List.length (ag6 r) - y)⟩
 | _,_,_=>⟨Unit,fun _=>([],[]),fun _=>False,fun _=>0⟩
def ZxR (r:GL6In) (y0:Nat):Prop:=pt (ok6 ((Zal r 3).1,((Zal r 3).2.1 + (y0:Int)),(Zal r 3).2.2)∧((true=true∧leC (.hs .no Zab (Zal r 3).1) (.hs .no Zab (Zal r 3).1))∧cI ((Zal r 3).2.1 + (y0:Int)) ((Zal r 3).2.1 + (y0:Int))∧cB (Zal r 3).2.2 (Zal r 3).2.2∧True)∧True)
def ZxS (r:GL6In) (y0:Nat):Prop:=True∧ZxR r y0∧T2 (pt ((((true=true∧leC (.hs .no Zab (Zal ((Zal r 3).1,((Zal r 3).2.1 + (y0:Int)),(Zal r 3).2.2) 4).1) (.hs .no Zab (ZbK r).1))∧cI (Zal ((Zal r 3).1,((Zal r 3).2.1 + (y0:Int)),(Zal r 3).2.2) 4).2.1 (ZbK r).2.1∧cB (Zal ((Zal r 3).1,((Zal r 3).2.1 + (y0:Int)),(Zal r 3).2.2) 4).2.2 (ZbK r).2.2∧True)∧True)∧(txN (ag6 r) y0)=Zeg r))
theorem ZxT (r:GL6In) (hpre:ok6 r):ZdE Tryz.prog 174 (Zdw 0 [(.b Zdl)] (r,())) (ZgX 0 [(.b Zdl)] (r,())) (ZdR 0 [(.b Zdl)] ((ZbK r),()) ++ [.row Zah (Zeg r) 0 0 none]) (inpM 0 [(.b Zdl)]) (.c (.row 1 0)):=by
 refine Zce (T:=⟨[],[],[],[Zih],none,fun _=>[],1,[],[]⟩) (L:=(ZxQ r)) Tryz.func174 rfl rfl rfl (by kernel_rfl) (fun hwf hwm=>?_)
 refine Eq.mpr (β:=T4 (pt (ok6 r∧((true=true∧leC (.hs .no Zab r.1) (.hs .no Zab r.1))∧cI r.2.1 r.2.1∧cB r.2.2 r.2.2∧True)∧True)∧(∃ q:Nat,(agI (ag6 r) q)∧lxs [.c (.bp 0 0), .tp [], .c (.raw (.slice none 0 0)), .c (.row 1 0)] (True∧lxs [.c (.bp 0 0), .c (.str (ZaA r 3))] (TN 29 (tpn 3 True)))∧pt (leB (.box [.hs .no Zab (Zal r 3).1, .int .i64 (Zal r 3).2.1, .bool (Zal r 3).2.2]) (.box [.hs .no Zab (Zal r 3).1, .int .i64 ((Zal r 3).2.1 + (q:Int)), .bool (Zal r 3).2.2])∧leB (.row Zah ([]:List ByteArray) 0 0 none) (.row Zah (txN (ag6 r) q) 0 0 none)∧True))∧∀ y0:Nat,(agI (ag6 r) y0)→pt (true=true)∧T11 (bif ltI ((Zal r 3).2.1 + (y0:Int)) (List.length (Zal r 3).1) then T8 (ix 2 ((Zal r 3).2.1 + (y0:Int)) (List.length (Zal r 3).1)∧T4 (bif eqI (Zag (Zal r 3).1 (Int.toNat ((Zal r 3).2.1 + (y0:Int)))).1 1 then T2 (ZxR r y0∧True∧(True∧List.length (txN (ag6 r) y0) + List.length ([(ZaA ((Zal r 3).1,((Zal r 3).2.1 + (y0:Int)),(Zal r 3).2.2) 1)])≤rowMax)∧True∧(∃ y0' : Nat,(agI (ag6 r) y0')∧(List.length (ag6 r) - y0') < (List.length (ag6 r) - y0)∧lxs [.c (.bp 0 0), .tp [], .c (.raw (.slice none 0 0)), .c (.row 1 0)] (True∧lxs [.c (.bp 0 0), .c (.str (ZaA r 3))] (TN 29 (tpn 3 True)))∧pt (leB (.box [.hs .no Zab (Zal ((Zal r 3).1,((Zal r 3).2.1 + (y0:Int)),(Zal r 3).2.2) 1).1, .int .i64 (Zal ((Zal r 3).1,((Zal r 3).2.1 + (y0:Int)),(Zal r 3).2.2) 1).2.1, .bool (Zal ((Zal r 3).1,((Zal r 3).2.1 + (y0:Int)),(Zal r 3).2.2) 1).2.2]) (.box [.hs .no Zab (Zal r 3).1, .int .i64 ((Zal r 3).2.1 + (y0' : Int)), .bool (Zal r 3).2.2])∧leB (.row Zah ((txN (ag6 r) y0) ++ [(ZaA ((Zal r 3).1,((Zal r 3).2.1 + (y0:Int)),(Zal r 3).2.2) 1)]) 0 0 none) (.row Zah (txN (ag6 r) y0') 0 0 none)∧True))) else ZxS r y0)) else True∧ZxS r y0))) (by kernel_rfl) ?_
 unfold ZxS ZxR T11 T2 T4 T8
 have h0:ok6 r:=hpre
 simp only [Znp,Zd9,Zdj,eq_self]
 repeat' (with_reducible first | exact trivial | apply And.intro | intro _)
 all_goals first
  | (with_reducible trivial)
  | omega
  | (with_reducible assumption)
  | exact h0
  | exact ZRa
  | (have h1:=(ZcI 3 h0).1.1; omega)
  | exact ZLa h0 (by with_reducible assumption)
  | exact ZRc h0 (by with_reducible assumption)
  | exact ZRd h0 (by with_reducible assumption) (by with_reducible assumption) (by with_reducible assumption)
  | exact congrArg (fun z:GL6In=>z.1) (ZJP (ZFE h0 (by with_reducible assumption) (by with_reducible assumption) (by with_reducible assumption)))
  | exact congrArg (fun z:GL6In=>z.2.1) (ZJP (ZFE h0 (by with_reducible assumption) (by with_reducible assumption) (by with_reducible assumption)))
  | exact congrArg (fun z:GL6In=>z.2.2) (ZJP (ZFE h0 (by with_reducible assumption) (by with_reducible assumption) (by with_reducible assumption)))
  | exact ZPw (ZFE h0 (by with_reducible assumption) (by with_reducible assumption) (by with_reducible assumption))
  | exact congrArg (fun z:GL6In=>z.1) (ZJP (ZFD h0 (by with_reducible assumption) (by with_reducible assumption)))
  | exact congrArg (fun z:GL6In=>z.2.1) (ZJP (ZFD h0 (by with_reducible assumption) (by with_reducible assumption)))
  | exact congrArg (fun z:GL6In=>z.2.2) (ZJP (ZFD h0 (by with_reducible assumption) (by with_reducible assumption)))
  | exact ZPw (ZFD h0 (by with_reducible assumption) (by with_reducible assumption))
def Znq:Zct Tryz.prog:=⟨174,[(.b Zdl)],fun x=>ok6 x.1,fun x=>((ZbK x.1),()),fun x=>.c (.row 1 0),fun x=>[.row Zah (Zeg x.1) 0 0 none],fun x hx=>ZxT x.1 hx,Tryz.call174⟩
def ev6 (w:ByteArray):Nat→Int
 | 0=>-1
 | j + 1=>if eqS (upT (Zaa evW j)) (upT w)=true then ((j:Nat):Int) else ev6 w j
theorem ZIU (w:ByteArray):∀ n,-1≤ev6 w n∧ev6 w n < ((n:Nat):Int)
 | 0=>⟨Int.le_refl _,by show (-1:Int) < 0; decide⟩
 | j + 1=>by
  have:=ZIU w j
  unfold ev6
  split <;> omega
theorem ZN4 {w:ByteArray} {j:Nat} (h:upT (Zaa evW j)=upT w):((j:Nat):Int)=ev6 w (j + 1):=(if_pos (Zav.2 h)).symm
theorem ZN5 {w:ByteArray} {j:Nat} (h:¬ upT (Zaa evW j)=upT w):ev6 w j=ev6 w (j + 1):=(if_neg (by rw [Zbc.2 h]; decide)).symm
def bt6:List ByteArray→Int→Int→Int × Bool
 | [],_,b=>(b,true)
 | w :: ws,l,b=>if ev6 w 4≤l then (0,false) else bt6 ws (ev6 w 4) (orI b (ev6 w 4))
theorem ZIV {ws:List ByteArray} {l b:Int} {n:Nat} (h:n < ws.length) (h1:ev6 (Zaa ws n) 4≤l):bt6 (ws.drop n) l b=(0,false):=by
 rw [ZgI h]
 exact if_pos h1
theorem ZIW {ws:List ByteArray} {l b:Int} {n:Nat} (h:n < ws.length) (h1:¬ ev6 (Zaa ws n) 4≤l):bt6 (ws.drop n) l b=bt6 (ws.drop (n + 1)) (ev6 (Zaa ws n) 4) (orI b (ev6 (Zaa ws n) 4)):=by
 rw [ZgI h]
 exact if_neg h1
theorem ZLb {ws:List ByteArray} {l b:Int} {n:Nat} (h:ws.length≤n):bt6 (ws.drop n) l b=(b,true):=by
 rw [List.drop_of_length_le h]
 rfl
def btI (ws:List ByteArray) (k:Nat) (l b:Int):Prop:=(k≤ws.length∧-1≤l)∧bt6 (ws.drop k) l b=bt6 ws (-1) 0
theorem ZRe:∀ n:Nat,n < 4→IntKind.wrap .u64 ((n:Nat):Int)=((n:Nat):Int):=by decide
section
variable {words:List ByteArray} {k:Nat} {l b:Int} {j:Nat} {w:ByteArray}
theorem ZRf:∃ q:Nat × Int × Int,btI words q.1 q.2.1 q.2.2∧(0:Int)=q.2.2∧(-1:Int)=q.2.1∧(0:Int)=((q.1:Nat):Int):=⟨(0,-1,0),⟨⟨Nat.zero_le _,Int.le_refl _⟩,rfl⟩,rfl,rfl,rfl⟩
theorem ZN6:∃ q:Nat,q≤4∧(-1:Int)=ev6 w q∧(0:Int)=((q:Nat):Int):=⟨0,by decide,rfl,rfl⟩
theorem ZN7 (h:((j:Nat):Int) < 4) (e:upT (Zaa evW j)=upT w):∃ q:Nat,q≤4∧4 - q < 4 - j∧((j:Nat):Int)=ev6 w q∧IntKind.wrap .i64 (((j:Nat):Int) + 1)=((q:Nat):Int):=⟨j + 1,by omega,by omega,ZN4 e,Zbm (by unfold maxLen; omega)⟩
theorem ZN8 (h:((j:Nat):Int) < 4) (e:¬ upT (Zaa evW j)=upT w):∃ q:Nat,q≤4∧4 - q < 4 - j∧ev6 w j=ev6 w q∧IntKind.wrap .i64 (((j:Nat):Int) + 1)=((q:Nat):Int):=⟨j + 1,by omega,by omega,ZN5 e,Zbm (by unfold maxLen; omega)⟩
theorem ZRg (h:((j:Nat):Int) < 4):((j:Nat):Int) < ((evW.length:Nat):Int):=h
theorem ZPx (hi:btI words k l b) (hk:((k:Nat):Int) < ((words.length:Nat):Int)) (hj:j≤4) (hn:¬ ((j:Nat):Int) < 4) (h:ev6 (Zaa words k) j≤l):bt6 words (-1) 0=(0,false):=by
 obtain rfl:j=4:=by omega
 rw [← hi.2]
 exact ZIV (by omega) h
theorem ZPy (hi:btI words k l b) (hj:j≤4) (h:¬ ev6 w j≤l):IntKind.wrap .u64 (ev6 w j)=ev6 w j:=by
 have h1:=ZIU w j
 have h2:=hi.1.2
 obtain ⟨n,hn⟩:∃ n:Nat,ev6 w j=((n:Nat):Int):=⟨(ev6 w j).toNat,by omega⟩
 rw [hn]
 exact ZRe n (by omega)
theorem ZRh (hi:btI words k l b) (hj:j≤4) (h:¬ ev6 w j≤l):0≤IntKind.wrap .u64 (ev6 w j):=by
 rw [ZPy hi hj h]
 have h2:=hi.1.2
 omega
theorem ZRi (hm:words.length≤maxLen) (hi:btI words k l b) (hk:((k:Nat):Int) < ((words.length:Nat):Int)) (hj:j≤4) (hn:¬ ((j:Nat):Int) < 4) (h:¬ ev6 (Zaa words k) j≤l):∃ q:Nat × Int × Int,btI words q.1 q.2.1 q.2.2∧words.length - q.1 < words.length - k ∧
 IntKind.wrap .i64 (((BitVec.ofInt (IntKind.bits .i64) b ||| BitVec.ofInt (IntKind.bits .i64) (Zpg .i64 1 (IntKind.wrap .u64 (ev6 (Zaa words k) j)))).toNat:Nat))=q.2.2∧ev6 (Zaa words k) j=q.2.1∧IntKind.wrap .i64 (((k:Nat):Int) + 1)=((q.1:Nat):Int):=by
 have hu:=ZPy hi hj h
 have h2:=hi.1.2
 obtain rfl:j=4:=by omega
 refine ⟨(k + 1,ev6 (Zaa words k) 4,orI b (ev6 (Zaa words k) 4)),⟨⟨by show k + 1≤_; omega,?_⟩,?_⟩,by show _ - (k + 1) < _; omega,by rw [hu]; rfl,rfl,Zbm (by omega)⟩
 ·show -1≤ev6 _ 4
  omega
 ·rw [← hi.2]
  exact (ZIW (by omega) h).symm
theorem ZPz (hi:btI words k l b) (hk:¬ ((k:Nat):Int) < ((words.length:Nat):Int)):bt6 words (-1) 0=(b,true):=by
 rw [← hi.2]
 exact ZLb (by omega)
end
def ZA7 (words:List ByteArray):Nat→List AV→Mem→Zbe
 | 4,tm,M=>⟨Nat × Int × Int,fun y=>(Zcp (ZcG tm [(2, .any),(3, .any),(4, .c (.int .i64 y.2.2)),(5, .c (.int .i64 y.2.1)),(6, .c (.int .i64 ((y.1:Nat):Int)))]) 7 33,M),fun y=>(btI words y.1 y.2.1 y.2.2),fun y=>(List.length words - y.1)⟩
 | 8,tm,M=>⟨Nat,fun y=>(Zcp (ZcG tm [(7, .c (.int .i64 (ev6 (Zaa words (Int.toNat (tmI tm 6))) y))),(8, .c (.int .i64 ((y:Nat):Int)))]) 15 16,M),fun y=>(y≤4),fun y=>(4 - y)⟩
 | _,_,_=>⟨Unit,fun _=>([],[]),fun _=>False,fun _=>0⟩
theorem ZA8 (words:List ByteArray):Zaq Tryz.prog 175 [.c (.hs .no Zah words)] (.tp [.c (.int .i64 (bt6 words (-1) 0).1), .c (.bool (bt6 words (-1) 0).2)]) []:=by
 refine bc0 [ZsZ,Zk2] [] [] [] (ZA7 words) Tryz.func175 (fun hwf=>?_)
 refine Eq.mpr (β:=T5 ((∃ q:Nat × Int × Int,(btI words q.1 q.2.1 q.2.2)∧lxs [hn Zah words, .tp []] (True∧True∧vI 0 q.2.2∧vI (-1) q.2.1∧vI 0 q.1∧TN 33 (lxs [.tp []] True))∧pt (True))∧∀ y0:Nat × Int × Int,(btI words y0.1 y0.2.1 y0.2.2)→T4 (bif ltI y0.1 words.length then T2 ((∃ q:Nat,(q≤4)∧lxs [hn Zah words, .tp []] (True∧True∧lxs [ci y0.2.2,ci y0.2.1,ci y0.1] (vI (-1) (ev6 (Zaa words y0.1) q)∧vI 0 q∧lxs [ci y0.1,hn Zah words,ci words.length, .c (.bool true)] (TN 27 (lxs [.tp []] True))))∧pt (True))∧∀ y1:Nat,(y1≤4)→T2 (bif ltI y1 4 then pt (true=true)∧T3 (ix 1 y0.1 words.length∧True∧pt True∧ix 1 y1 evW.length∧True∧pt True∧pt True∧True∧bif eqS (upT (Zaa evW y1)) (upT (Zaa words y0.1)) then T5 (∃ y1' : Nat,(y1'≤4)∧(4 - y1') < (4 - y1)∧lxs [hn Zah words, .tp []] (True∧True∧lxs [ci y0.2.2,ci y0.2.1,ci y0.1] (vI y1 (ev6 (Zaa words y0.1) y1')∧vI (w64 ((y1:Int) + 1)) y1'∧lxs [ci y0.1,hn Zah words,ci words.length, .c (.bool true)] (TN 27 (lxs [.tp []] True))))∧pt (True)) else T3 (∃ y1' : Nat,(y1'≤4)∧(4 - y1') < (4 - y1)∧lxs [hn Zah words, .tp []] (True∧True∧lxs [ci y0.2.2,ci y0.2.1,ci y0.1] (vI (ev6 (Zaa words y0.1) y1) (ev6 (Zaa words y0.1) y1')∧vI (w64 ((y1:Int) + 1)) y1'∧lxs [ci y0.1,hn Zah words,ci words.length, .c (.bool true)] (TN 27 (lxs [.tp []] True))))∧pt (True))) else T3 (bif leI (ev6 (Zaa words y0.1) y1) y0.2.1 then T2 (pt ((cI 0 (bt6 words (-1) 0).1∧cB false (bt6 words (-1) 0).2∧True))) else T4 (true=true∧(0:Int)≤(IntKind.wrap .u64 (ev6 (Zaa words y0.1) y1))∧T5 (∃ y0' : Nat × Int × Int,(btI words y0'.1 y0'.2.1 y0'.2.2)∧(words.length - y0'.1) < (words.length - y0.1)∧lxs [hn Zah words, .tp []] (True∧True∧vI (w64 (((BitVec.ofInt (IntKind.bits .i64) y0.2.2 ||| BitVec.ofInt (IntKind.bits .i64) (Zpg .i64 1 (IntKind.wrap .u64 (ev6 (Zaa words y0.1) y1)))).toNat:Nat))) y0'.2.2∧vI (ev6 (Zaa words y0.1) y1) y0'.2.1∧vI (w64 ((y0.1:Int) + 1)) y0'.1∧TN 33 (lxs [.tp []] True))∧pt (True)))))) else T3 (pt ((cI y0.2.2 (bt6 words (-1) 0).1∧cB true (bt6 words (-1) 0).2∧True)))))) (by kernel_rfl) ?_
 unfold T2 T3 T4 T5
 have hm:List.length words≤maxLen:=hwf.1.1
 simp only [Zdj,eq_self]
 repeat' (with_reducible first | exact trivial | apply And.intro | intro _)
 all_goals first
  | (with_reducible trivial)
  | omega
  | (with_reducible assumption)
  | exact ZRf
  | exact ZN6
  | exact ZN7 (by with_reducible assumption) (by with_reducible assumption)
  | exact ZN8 (by with_reducible assumption) (by with_reducible assumption)
  | exact ZRg (by with_reducible assumption)
  | exact (congrArg Prod.fst (ZPx (by with_reducible assumption) (by with_reducible assumption) (by with_reducible assumption) (by with_reducible assumption) (by with_reducible assumption))).symm
  | exact (congrArg Prod.snd (ZPx (by with_reducible assumption) (by with_reducible assumption) (by with_reducible assumption) (by with_reducible assumption) (by with_reducible assumption))).symm
  | exact ZRh (by with_reducible assumption) (by with_reducible assumption) (by with_reducible assumption)
  | exact ZRi hm (by with_reducible assumption) (by with_reducible assumption) (by with_reducible assumption) (by with_reducible assumption) (by with_reducible assumption)
  | exact (congrArg Prod.fst (ZPz (by with_reducible assumption) (by with_reducible assumption))).symm
  | exact (congrArg Prod.snd (ZPz (by with_reducible assumption) (by with_reducible assumption))).symm
def ZA9:ZaD Tryz.prog:=⟨175,[.v (.list Zah)],fun x=>True,fun x=>.tp [.c (.int .i64 (bt6 x.1 (-1) 0).1), .c (.bool (bt6 x.1 (-1) 0).2)],fun _=>[],fun x hx=>ZA8 x.1,Tryz.call175⟩
end Go.Proofs.YtkeglpnnedflnaaGreatDoor
