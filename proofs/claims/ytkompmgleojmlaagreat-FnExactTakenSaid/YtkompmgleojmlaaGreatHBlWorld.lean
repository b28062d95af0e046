import Derived.Test.YtkompmgleojmlaaGreatHBlServer
import Derived.Test.YtkompmgleojmlaaGreatHBlCpy
set_option linter.unusedSimpArgs false
set_option linter.unusedVariables false
set_option maxRecDepth 100000
set_option maxHeartbeats 4000000
namespace Go.Proofs.YtkompmgleojmlaaGreat
open Go.ChangeShapes Go.WideShapes Go.ChangeAt Go.RowKit Go.Joins Go.Deep
open GoRep (rep bulk)
def ZOy (s:Zad) (x:GIn):Zad:=(s.1,s.2.1,s.2.2.1,s.2.2.2.1,s.2.2.2.2.1,s.2.2.2.2.2.1,s.2.2.2.2.2.2.1,s.2.2.2.2.2.2.2.1,s.2.2.2.2.2.2.2.2.1,x,s.2.2.2.2.2.2.2.2.2.2)
def Zv7 (s:Zad) (x:Zl0):Zad:=(s.1,s.2.1,s.2.2.1,s.2.2.2.1,s.2.2.2.2.1,s.2.2.2.2.2.1,s.2.2.2.2.2.2.1,s.2.2.2.2.2.2.2.1,s.2.2.2.2.2.2.2.2.1,s.2.2.2.2.2.2.2.2.2.1,x,s.2.2.2.2.2.2.2.2.2.2.2)
def ZKK (s:Zad) (x:Int):Zad:=(s.1,s.2.1,s.2.2.1,s.2.2.2.1,s.2.2.2.2.1,s.2.2.2.2.2.1,s.2.2.2.2.2.2.1,s.2.2.2.2.2.2.2.1,s.2.2.2.2.2.2.2.2.1,s.2.2.2.2.2.2.2.2.2.1,s.2.2.2.2.2.2.2.2.2.2.1,x)
def ZsV (x:GIn) (t:ByteArray):Int:=if x.1.size≤600 then min (t.size:Int) (600 - (x.1.size:Int)) else 0
def ZrV (x:GIn) (t:ByteArray):GIn:=if x.1.size≤600 then (x.1 ++ t.extract 0 (ZsV x t).toNat,x.2) else x
def drC (o:Zl0) (n:Int):Int:=if outOk o=true∧0≤n then min n (min (o.1.size:Int) (20000 - (o.2.size:Int))) else 0
def drO (o:Zl0) (n:Int):Zl0:=if outOk o=true∧0≤n then (o.1.extract (drC o n).toNat o.1.size,o.2 ++ o.1.extract 0 (drC o n).toNat) else o
def ZlZ (v:ZaE) (i:Int):Bool:=btw i 0 ((List.length v.2:Int) - 1) && Zb4 v
def Zcc (v:ZaE) (i:Int):ZaE:=if ZlZ v i=true then (v.1,List.set v.2 (Int.toNat i) (ZaN (Zaa v.2 (Int.toNat i)))) else v
def Zsy (s:Zad) (t:ByteArray):Int:=if s.1=true∧¬ s.2.1=4 then ZsV s.2.2.2.2.2.2.2.2.2.1 t else 0
def ZGE (s:Zad) (t:ByteArray):Zad:=if s.1=true∧¬ s.2.1=4 then ZOy s (ZrV s.2.2.2.2.2.2.2.2.2.1 t) else s
def Zsz (v:ZaE) (i:Int) (t:ByteArray):ZaE:=(v.1,List.set v.2 (Int.toNat i) (ZGE (Zaa v.2 (Int.toNat i)) t))
def Zbq (v:ZaE) (i:Int) (t:ByteArray):ZaE:=if ZlZ v i=true then Zsz v i t else v
def ZfD (v:ZaE) (i:Int) (t:ByteArray):Int:=if ZlZ v i=true then Zsy (Zaa v.2 (Int.toNat i)) t else 0
def Zmh (s:Zad) (n:Int):Int:=if s.1=true then drC s.2.2.2.2.2.2.2.2.2.2.1 n else 0
def Zvk (s:Zad) (n:Int):Zad:=if ¬ n=0∨s.2.2.2.2.2.2.2.2.2.2.1.1=(⟨#[]⟩:ByteArray) then ZKK s 0 else s
def ZGF (s:Zad) (n:Int):Zad:=if s.1=true then Zvk (Zv7 s (drO s.2.2.2.2.2.2.2.2.2.2.1 n)) (Zmh s n) else s
def tkV (v:ZaE) (i:Int) (n:Int):ZaE:=(v.1,List.set v.2 (Int.toNat i) (ZGF (Zaa v.2 (Int.toNat i)) n))
def Zbn (v:ZaE) (i:Int) (n:Int):ZaE:=if ZlZ v i=true then tkV v i n else v
def Ze7 (v:ZaE) (i:Int) (n:Int):Int:=if ZlZ v i=true then Zmh (Zaa v.2 (Int.toNat i)) n else 0
theorem Zh5 {v:ZaE} (h:ZcD v):Ze6 v:=⟨h.1.2,h.2.1,fun x hx=>(h.2.2 x hx).2.2⟩
theorem Zmi {v:ZaE} {i:Int}:ZlZ v i=true↔(0≤i∧i≤(List.length v.2:Int) - 1)∧Zb4 v=true:=by
 unfold ZlZ
 rw [Bool.and_eq_true,Zbe]
theorem ZII {v:ZaE} {k:Nat} (h:k < v.2.length):List.set v.2 k (Zaa v.2 k)=v.2:=by
 have h0:v.2[k]?=some (Zaa v.2 k):=Zau (t:=Zae) h
 apply List.ext_getElem?
 intro j
 rw [List.getElem?_set]
 split
 ·rename_i e; subst e; exact h0.symm
 ·rfl
theorem wA {x:Int} (h0 : -9223372036854775808≤x) (h1:x≤9223372036854775807):IntKind.wrap .i64 x=x:=IntWalk.i64_in _ (by omega)
theorem ZNP {a b:Int}:(if b < a then b else a)=min a b:=by omega
theorem ZMe (s:ByteArray):ByteArray.extract s 0 s.size=s:=by
 apply ByteArray.ext
 rw [ByteArray.data_extract]
 exact Array.extract_size
theorem ZNQ (a b:ByteArray):a ++ ByteArray.extract b 0 0=a:=by
 apply ByteArray.ext
 rw [ByteArray.data_append,ByteArray.data_extract]
 simp
theorem Zxu {o:Zl0}:outOk o=true↔o.1.size≤1200∧o.2.size≤20000:=by
 unfold outOk
 rw [Bool.and_eq_true,Zce,Zce]
 omega
theorem ZIJ {v:ZaE} {i:Int} (h:ZlZ v i=false):¬ ZlZ v i=true:=by rw [h]; decide
theorem ZEO {l:List Zad} {k:Nat} {y:Zad} (h:k < l.length):Zaa (List.set l k y) k=y:=ZaH (t:=Zae) h
theorem ZMf (o:Zl0) (n:Int):0≤drC o n:=by
 unfold drC
 split
 ·rename_i h
  have:=Zxu.1 h.1
  omega
 ·omega
theorem ZsA (v:ZaE) (i:Int) (hpre:Ze6 v):Zam Tryz.prog 57 [.ag (cellsOf ZaV v), .c (.int .i64 i)] (.c (.bool (ZlZ v i))) []:=by
 refine bc0 [ZcE,ZwP] [] [] [] L0 Tryz.func57 (fun hwf=>?_)
 refine Eq.mpr (β:=T7 (pt True∧True∧bif btw i 0 (w64 ((v.2.length:Int) - 1)) then True∧pt (Ze6 v)∧T2 (rB (Zb4 v) (ZlZ v i)) else T2 (rB false (ZlZ v i)))) (by kernel_rfl) ?_
 exact Zy0
def ZhW:ZaC Tryz.prog:=⟨57,[.s ZaV, .v Zaz],fun x=>Ze6 x.1,fun x=>.c (.bool (ZlZ x.1 x.2.1)),fun _=>[],fun x hx=>ZsA x.1 x.2.1 hx,Tryz.call57⟩
theorem ZIK (v:ZaE) (i:Int) (hpre:Ze6 v):Zam Tryz.prog 55 [.ag (cellsOf ZaV v), .c (.int .i64 i)] (.c (.bool (ZlZ v i))) []:=by
 refine bc0 [ZwS,ZcF] [] [] [] L0 Tryz.func55 (fun hwf=>?_)
 refine Eq.mpr (β:=T3 (pt (Ze6 v)∧True∧bif Zb4 v then T5 (pt True∧T2 (rB (btw i 0 (w64 ((v.2.length:Int) - 1))) (ZlZ v i))) else T2 (rB false (ZlZ v i)))) (by kernel_rfl) ?_
 exact Zy0
def Zqe:ZaC Tryz.prog:=⟨55,[.s ZaV, .v Zaz],fun x=>Ze6 x.1,fun x=>.c (.bool (ZlZ x.1 x.2.1)),fun _=>[],fun x hx=>ZIK x.1 x.2.1 hx,Tryz.call55⟩
theorem ZDA (v:ZaE) (i:Int) (hpre:ZcD v):Zam Tryz.prog 19 [.ag (cellsOf ZaV v), .c (.int .i64 i)] (.ag [.row 0 0, .row 1 0, .int .i64 (Zcc v i).1.2.2, .row 2 0]) [.row Zaj (Zcc v i).1.1 0 0 none, .row Zag (Zcc v i).1.2.1 0 0 none, .row Zae (Zcc v i).2 0 0 none]:=by
 refine bc0 [ZhN,ZhW,ZsR] [] [] [] L0 Tryz.func19 (fun hwf=>?_)
 refine Eq.mpr (β:=T3 (pt (ZcD v)∧T4 (pt (Ze6 v)∧bif ZlZ v i then pt (true=true)∧T6 (ix 17 i v.2.length∧True∧pt True∧ix 17 i v.2.length∧True∧∀ r0:List Zad,r0=List.set v.2 i.toNat (ZaN (Zaa v.2 i.toNat))→T2 (pt ((v.1.1=(Zcc v i).1.1∧v.1.2.1=(Zcc v i).1.2.1∧cI v.1.2.2 (Zcc v i).1.2.2∧r0=(Zcc v i).2∧True)))) else T2 (pt ((v.1.1=(Zcc v i).1.1∧v.1.2.1=(Zcc v i).1.2.1∧cI v.1.2.2 (Zcc v i).1.2.2∧v.2=(Zcc v i).2∧True)))))) (by kernel_rfl) ?_
 unfold T2 T3 T4 T6
 have hw:=Zh5 hpre
 cases h:ZlZ v i with
 | false =>
  exact ZAS
 | true =>
  exact ZAP
def ZDB:ZaC Tryz.prog:=⟨19,[.s ZaV, .v Zaz],fun x=>ZcD x.1,fun x=>.ag [.row 0 0, .row 1 0, .int .i64 (Zcc x.1 x.2.1).1.2.2, .row 2 0],fun x=>[.row Zaj (Zcc x.1 x.2.1).1.1 0 0 none, .row Zag (Zcc x.1 x.2.1).1.2.1 0 0 none, .row Zae (Zcc x.1 x.2.1).2 0 0 none],fun x hx=>ZDA x.1 x.2.1 hx,Tryz.call19⟩
theorem ZDC (v:ZaE) (i:Int) (hpre:ZcD v):Zam Tryz.prog 18 [.ag (cellsOf ZaV v), .c (.int .i64 i)] (.ag [.row 0 0, .row 1 0, .int .i64 (Zcc v i).1.2.2, .row 2 0]) [.row Zaj (Zcc v i).1.1 0 0 none, .row Zag (Zcc v i).1.2.1 0 0 none, .row Zae (Zcc v i).2 0 0 none]:=by
 refine bc0 [Zlo,Zqe,ZsS] [] [] [] L0 Tryz.func18 (fun hwf=>?_)
 refine Eq.mpr (β:=T3 (pt (ZcD v)∧T4 (pt (Ze6 v)∧bif ZlZ v i then pt (true=true)∧T6 (ix 17 i v.2.length∧True∧pt True∧ix 17 i v.2.length∧True∧∀ r0:List Zad,r0=List.set v.2 i.toNat (ZaN (Zaa v.2 i.toNat))→T2 (pt ((v.1.1=(Zcc v i).1.1∧v.1.2.1=(Zcc v i).1.2.1∧cI v.1.2.2 (Zcc v i).1.2.2∧r0=(Zcc v i).2∧True)))) else T2 (pt ((v.1.1=(Zcc v i).1.1∧v.1.2.1=(Zcc v i).1.2.1∧cI v.1.2.2 (Zcc v i).1.2.2∧v.2=(Zcc v i).2∧True)))))) (by kernel_rfl) ?_
 unfold T2 T3 T4 T6
 have hw:=Zh5 hpre
 cases h:ZlZ v i with
 | false =>
  exact ZAS
 | true =>
  exact ZAP
def ZDD:ZaC Tryz.prog:=⟨18,[.s ZaV, .v Zaz],fun x=>ZcD x.1,fun x=>.ag [.row 0 0, .row 1 0, .int .i64 (Zcc x.1 x.2.1).1.2.2, .row 2 0],fun x=>[.row Zaj (Zcc x.1 x.2.1).1.1 0 0 none, .row Zag (Zcc x.1 x.2.1).1.2.1 0 0 none, .row Zae (Zcc x.1 x.2.1).2 0 0 none],fun x hx=>ZDC x.1 x.2.1 hx,Tryz.call18⟩
end Go.Proofs.YtkompmgleojmlaaGreat
