import Derived.Test.YtkeglpnnedflnaaGreatDoorPBlRd
import Derived.Test.YtkeglpnnedflnaaGreatDoorPBlRf
import Derived.Test.YtkeglpnnedflnaaGreatDoorPBlR9
import Derived.Test.YtkeglpnnedflnaaGreatDoorPBlCmd4
import Derived.Test.YtkeglpnnedflnaaGreatDoorPBlSetR
set_option linter.unusedSimpArgs false
set_option linter.unusedVariables false
set_option maxRecDepth 100000
namespace Go.Proofs.YtkeglpnnedflnaaGreatDoor
open Go.ChangeShapes Go.WideShapes Go.ChangeAt Go.RowKit Go.Joins Go.Deep
open GoRep (rep bulk)
def ZKq (a b:Int):Int:=IntKind.wrap .i64 (((BitVec.ofInt (IntKind.bits .i64) a &&& BitVec.ofInt (IntKind.bits .i64) b).toNat:Nat))
def orB (a b:Int):Int:=IntKind.wrap .i64 (((BitVec.ofInt (IntKind.bits .i64) a ||| BitVec.ofInt (IntKind.bits .i64) b).toNat:Nat))
def fb5 (w:ByteArray):Nat→Int
 | 0=>0
 | i + 1=>if eqS (upT w) (upT (Zaa ZaB i))=true then Zpg .i64 1 ((i:Nat):Int) else fb5 w i
def bt5:List ByteArray→Int→Int × Bool
 | [],b=>(b,true)
 | w :: ws,b=>if fb5 w 5=0 then (0,false) else if ¬ ZKq b (fb5 w 5)=0 then (0,false) else bt5 ws (orB b (fb5 w 5))
theorem ZKr:∀ k:Nat,k < 5→ZaM (fun z:ByteArray=>eqS (upT z) (upT (Zaa ZaB k))) ZaB=((k:Nat):Int)∧(if eqS (upT (Zaa ZaB k)) (upT (Zaa ZaB 4))=true then Zpg .i64 1 4 else if eqS (upT (Zaa ZaB k)) (upT (Zaa ZaB 3))=true then Zpg .i64 1 3 else if eqS (upT (Zaa ZaB k)) (upT (Zaa ZaB 2))=true then Zpg .i64 1 2 else if eqS (upT (Zaa ZaB k)) (upT (Zaa ZaB 1))=true then Zpg .i64 1 1 else if eqS (upT (Zaa ZaB k)) (upT (Zaa ZaB 0))=true then Zpg .i64 1 0 else 0)=Zpg .i64 1 ((k:Nat):Int):=by decide +kernel
theorem ZIg {w:ByteArray} {j:Nat} (h:j < 5) (e:upT w=upT (Zaa ZaB j)):fb5 w 5=Zpg .i64 1 ((j:Nat):Int)∧wIx ZaB w=((j:Nat):Int):=by
 have h1:=ZKr j h
 unfold wIx
 rw [e]
 refine ⟨?_,h1.1⟩
 rw [← h1.2]
 unfold fb5 fb5 fb5 fb5 fb5 fb5
 rw [e]
 rfl
theorem ZKs {w:ByteArray}:∀ {n:Nat},¬ fb5 w n=0→∃ j,j < n∧upT w=upT (Zaa ZaB j)
 | 0,h=>absurd rfl h
 | n + 1,h=>by
  unfold fb5 at h
  split at h
  ·rename_i h1
   exact ⟨n,Nat.lt_succ_self _,Zav.1 h1⟩
  ·obtain ⟨j,hj,e⟩:=ZKs h
   exact ⟨j,by omega,e⟩
theorem ZKt {w:ByteArray} (h:¬ wIx ZaB w < 0):∃ j,j < 5∧upT w=upT (Zaa ZaB j):=by
 unfold wIx at h
 have hl:=ZEw (p:=fun z:ByteArray=>eqS (upT z) (upT w)) ZaB
 have hg:=(ZoK (p:=fun z:ByteArray=>eqS (upT z) (upT w)) ZaB).1 (by omega)
 obtain ⟨z,hz,he⟩:=List.any_eq_true.1 hg
 obtain ⟨k,hk,rfl⟩:=List.getElem_of_mem hz
 have h3:ZaB[k]?=some (Zaa ZaB k):=Zat (t:=Zah) hk
 rw [List.getElem?_eq_getElem hk] at h3
 rw [Option.some.inj h3] at he
 exact ⟨k,hk,(Zav.1 he).symm⟩
theorem ZCA:∀ b:Nat,b < 32→∀ j:Nat,j < 5→decide (¬ ZKq ((b:Nat):Int) (Zpg .i64 1 ((j:Nat):Int))=0)=ZHw ((b:Nat):Int) ((j:Nat):Int)∧orB ((b:Nat):Int) (Zpg .i64 1 ((j:Nat):Int))=orI ((b:Nat):Int) ((j:Nat):Int)∧(0≤orI ((b:Nat):Int) ((j:Nat):Int)∧orI ((b:Nat):Int) ((j:Nat):Int) < 32)∧¬ Zpg .i64 1 ((j:Nat):Int)=0:=by decide +kernel
theorem ZG8:∀ {ws:List ByteArray} {b:Int},0≤b→b < 32→bt5 ws b=boI ZaB ws b
 | [],_,_,_=>rfl
 | w :: ws,b,h0,h1=>by
  unfold bt5 boI
  by_cases hw:wIx ZaB w < 0
  ·rw [if_pos hw]
   by_cases hf:fb5 w 5=0
   ·rw [if_pos hf]
   ·obtain ⟨j,hj,e⟩:=ZKs hf
    rw [(ZIg hj e).2] at hw
    omega
  ·rw [if_neg hw]
   obtain ⟨j,hj,e⟩:=ZKt hw
   obtain ⟨e1,e2⟩:=ZIg hj e
   have hb:=ZCA b.toNat (by omega) j hj
   rw [show ((b.toNat:Nat):Int)=b by omega] at hb
   obtain ⟨q1,q2,q3,q4⟩:=hb
   rw [e1,e2,if_neg q4,← q1,q2]
   by_cases ha:¬ ZKq b (Zpg .i64 1 ((j:Nat):Int))=0
   ·rw [if_pos ha,if_pos (decide_eq_true ha)]
   ·rw [if_neg ha,if_neg (by rw [decide_eq_true_eq]; exact ha)]
    exact ZG8 q3.1 q3.2
def ZG9 (b:Int):Nat:=(ZaO ZaB b 5).length
theorem ZFm:∀ b:Nat,b < 32→∀ j:Nat,j < 5→ZHw ((b:Nat):Int) ((j:Nat):Int)=false→ZG9 (orI ((b:Nat):Int) ((j:Nat):Int))=ZG9 ((b:Nat):Int) + 1:=by decide +kernel
theorem ZCB:∀ {ws:List ByteArray} {b:Int},0≤b→b < 32→(boI ZaB ws b).2=true→ZG9 (boI ZaB ws b).1=ZG9 b + ws.length∧0≤(boI ZaB ws b).1∧(boI ZaB ws b).1 < 32
 | [],_,h0,h1,_=>⟨rfl,h0,h1⟩
 | w :: ws,b,h0,h1,h=>by
  unfold boI at h ⊢
  by_cases hw:wIx ZaB w < 0
  ·rw [if_pos hw] at h
   cases h
  ·rw [if_neg hw] at h ⊢
   obtain ⟨j,hj,e⟩:=ZKt hw
   obtain ⟨e1,e2⟩:=ZIg hj e
   rw [e2] at h ⊢
   have hb:=ZCA b.toNat (by omega) j hj
   have hc:=ZFm b.toNat (by omega) j hj
   rw [show ((b.toNat:Nat):Int)=b by omega] at hb hc
   by_cases ha:ZHw b ((j:Nat):Int)=true
   ·rw [if_pos ha] at h
    cases h
   ·rw [if_neg ha] at h ⊢
    have ha:ZHw b ((j:Nat):Int)=false:=by simpa using ha
    obtain ⟨i1,i2,i3⟩:=ZCB hb.2.2.1.1 hb.2.2.1.2 h
    refine ⟨?_,i2,i3⟩
    rw [i1,hc ha,List.length_cons]
    omega
set_option maxRecDepth 100000
def kwW:List ByteArray:=[(⟨#[]⟩:ByteArray),(⟨#[108,111,103,105,110]⟩:ByteArray),(⟨#[115,101,108,101,99,116]⟩:ByteArray),(⟨#[99,108,111,115,101]⟩:ByteArray),(⟨#[110,111,111,112]⟩:ByteArray),(⟨#[105,100,108,101]⟩:ByteArray),(⟨#[110,111,116,105,102,121]⟩:ByteArray),(⟨#[102,101,116,99,104]⟩:ByteArray),(⟨#[115,116,111,114,101]⟩:ByteArray),(⟨#[101,120,112,117,110,103,101]⟩:ByteArray),(⟨#[99,111,112,121]⟩:ByteArray),(⟨#[97,112,112,101,110,100]⟩:ByteArray),(⟨#[99,114,101,97,116,101]⟩:ByteArray),(⟨#[100,101,108,101,116,101]⟩:ByteArray),(⟨#[114,101,110,97,109,101]⟩:ByteArray),(⟨#[108,111,103,111,117,116]⟩:ByteArray)]
def kdI (w:ByteArray):Int:=ZaM (fun z:ByteArray=>eqS (upT z) w) kwW
def ZMl:ByteArray:=⟨#[85,73,68]⟩
def opV (s:ByteArray):Int:=if eqS (opT 1) s=true then 1 else if eqS (opT 2) s=true then 2 else if eqS (opT 3) s=true then 3 else 0
def opB (s:ByteArray):Bool:=neI (opV s) 0
def fl7 (k:Int):Bool:=eqI k 8 || eqI k 11
def z_C:GCommand:=((⟨#[]⟩:ByteArray),0,(⟨#[]⟩:ByteArray),(⟨#[]⟩:ByteArray),false,[],0,0,(⟨#[]⟩:ByteArray),(false,[]))
section
variable (c:GCommand) (s:List GToken)
def Zi6:List Zaj:=if Zbj c.2.1=true then rsL (tkT s).2 else c.2.2.2.2.2.1
def ZiG:List GToken:=if Zbj c.2.1=true then Zac 1 s else s
def fOp:Int:=if c.2.1=8 then opV (tkT s).2 else c.2.2.2.2.2.2.1
def rOp:List GToken:=if c.2.1=8 then Zac 1 s else s
def ZAK:ByteArray:=if ZaX c.2.1=true then (tkT s).2 else c.2.2.1
def ZIh:List GToken:=if ZaX c.2.1=true then Zac 1 s else s
def fTo:ByteArray:=if c.2.1=14 then (tkT s).2 else c.2.2.2.1
def rTo:List GToken:=if c.2.1=14 then Zac 1 s else s
def fFl:Int:=if fl7 c.2.1=true then (if (boI ZaB (Ze8 s) 0).2=true then (boI ZaB (Ze8 s) 0).1 else -1) else c.2.2.2.2.2.2.2.1
def rFl:List GToken:=if fl7 c.2.1=true then ZdC s else s
def kFl:List GToken:=if fl7 c.2.1=true then grK (Ze8 s) else []
def fTx:ByteArray:=if c.2.1=11 then (tkT s).2 else c.2.2.2.2.2.2.2.2.1
def rTx:List GToken:=if c.2.1=11 then Zac 1 s else s
def fFi:GFilter:=if c.2.1=6 then (if rdB s=true then rdI s else (true,[])) else c.2.2.2.2.2.2.2.2.2
def rz3:List GToken:=rOp c (ZiG c s)
def rz4:List GToken:=ZIh c (rz3 c s)
def rz5:List GToken:=rTo c (rz4 c s)
def rz6:List GToken:=rFl c (rz5 c s)
def Za8:GCommand:=(c.1,c.2.1,ZAK c (rz3 c s),fTo c (rz4 c s),c.2.2.2.2.1,Zi6 c s,fOp c (ZiG c s),fFl c (rz5 c s),fTx c (rz6 c s),fFi c (rz6 c s))
def ZpB:List GToken:=rTx c (rz6 c s)
def ZfB:List GToken:=kFl c (rz5 c s)
end
section
variable (l:List GToken)
def pU:Bool:=eqS (upT (tkT (Zac 1 l)).2) ZMl
def pW:ByteArray:=if pU l=true then upT (tkT (Zac 1 (Zac 1 l))).2 else upT (tkT (Zac 1 l)).2
def pS:List GToken:=if pU l=true then Zac 1 (Zac 1 (Zac 1 l)) else Zac 1 (Zac 1 l)
def p0:GCommand:=((tkT l).2,kdI (pW l),(⟨#[]⟩:ByteArray),(⟨#[]⟩:ByteArray),pU l,[],0,0,(⟨#[]⟩:ByteArray),(false,[]))
def pC:GCommand:=Za8 (p0 l) (pS l)
def pF:List GToken:=ZfB (p0 l) (pS l)
def pIx (t:List GToken):Int:=ZaM (fun z:GToken=>ZaG ZdK z) t
def pT2:List GToken:=if fl7 (pC l).2.1=true∧0≤pIx (Zas (pC l)) then (Zas (pC l)).take (Int.toNat (pIx (Zas (pC l)))) ++ pF l ++ (Zas (pC l)).drop (Int.toNat (pIx (Zas (pC l))) + (pF l).length) else Zas (pC l)
def pB:Bool:=neI (((Zas (pC l)).length:Nat):Int) 0 && (Zb5 Za4 (pT2 l) l && eqS (Zag l 0).2 (pC l).1)
def pR:GCommand:=if pB l=true then pC l else z_C
end
def bdR (r:GL6In) (b:Bool):GL6In:=(r.1,r.2.1,r.2.2 || !b)
def yTx (r:GL6In):Bool:=ltI r.2.1 ((r.1.length:Nat):Int) && eqI (Zag r.1 (Int.toNat r.2.1)).1 2
section
variable (c:GCommand) (r:GL6In)
def Zi7:List Zaj:=if Zbj c.2.1=true then rsM (ZaA r 1) else c.2.2.2.2.2.1
def ZcP:GL6In:=if Zbj c.2.1=true then bdR (Zal r 1) (rsC (ZaA r 1)) else r
def gOp:Int:=if c.2.1=8 then opV (ZaA r 1) else c.2.2.2.2.2.2.1
def qOp:GL6In:=if c.2.1=8 then bdR (Zal r 1) (opB (ZaA r 1)) else r
def Zrt:ByteArray:=if ZaX c.2.1=true then ZaA r 1 else c.2.2.1
def ZFn:GL6In:=if ZaX c.2.1=true then Zal r 1 else r
def gTo:ByteArray:=if c.2.1=14 then ZaA r 1 else c.2.2.2.1
def qTo:GL6In:=if c.2.1=14 then Zal r 1 else r
def gFl:Int:=if fl7 c.2.1=true then (boI ZaB (Zeg r) 0).1 else c.2.2.2.2.2.2.2.1
def qFl:GL6In:=if fl7 c.2.1=true then bdR (ZbK r) (boI ZaB (Zeg r) 0).2 else r
def gTx:ByteArray:=if c.2.1=11∧yTx r=true then (Zag r.1 (Int.toNat r.2.1)).2 else c.2.2.2.2.2.2.2.2.1
def qTx:GL6In:=if c.2.1=11 then (if yTx r=true then (r.1,r.2.1 + 1,r.2.2) else (r.1,r.2.1,true)) else r
def gFi:GFilter:=if c.2.1=6∧r.2.2=false then rdS (Zac (Int.toNat r.2.1) r.1) else c.2.2.2.2.2.2.2.2.2
def qFi:GL6In:=if c.2.1=6∧r.2.2=false then (r.1,((r.1.length:Nat):Int),!Zjw (Zac (Int.toNat r.2.1) r.1)) else r
def qs3:GL6In:=qOp c (ZcP c r)
def qs4:GL6In:=ZFn c (qs3 c r)
def qs5:GL6In:=qTo c (qs4 c r)
def qs6:GL6In:=qFl c (qs5 c r)
def qs7:GL6In:=qTx c (qs6 c r)
def Zbk:GCommand:=(c.1,c.2.1,Zrt c (qs3 c r),gTo c (qs4 c r),c.2.2.2.2.1,Zi7 c r,gOp c (ZcP c r),gFl c (qs5 c r),gTx c (qs6 c r),gFi c (qs7 c r))
def Zer:GL6In:=qFi c (qs7 c r)
end
def kdN (w:ByteArray):Nat→Int
 | 0=>0
 | n + 1=>if eqS (upT (Za3 ((n + 1:Nat):Int))) w=true then ((n + 1:Nat):Int) else kdN w n
section
variable (l:List GToken)
def sU1:GL6In:=Zal (l,0,false) 1
def sU2:GL6In:=Zal (sU1 l) 1
def sU:Bool:=eqS (upT (ZaA (sU1 l) 1)) ZMl
def sW:ByteArray:=if sU l=true then upT (ZaA (sU2 l) 1) else upT (ZaA (sU1 l) 1)
def sR:GL6In:=if sU l=true then Zal (sU2 l) 1 else sU2 l
def s0:GCommand:=(ZaA (l,0,false) 1,kdN (sW l) 15,(⟨#[]⟩:ByteArray),(⟨#[]⟩:ByteArray),sU l,[],0,0,(⟨#[]⟩:ByteArray),(false,[]))
def sC:GCommand:=Zbk (s0 l) (sR l)
def sB:Bool:=!(sR l).2.2 && (neI (kdN (sW l) 15) 0 && (!(Zer (s0 l) (sR l)).2.2 && (!ltI (Zer (s0 l) (sR l)).2.1 ((l.length:Nat):Int) && ZbQ (sC l))))
def sP:GCommand:=if sB l=true then sC l else z_C
end
end Go.Proofs.YtkeglpnnedflnaaGreatDoor
