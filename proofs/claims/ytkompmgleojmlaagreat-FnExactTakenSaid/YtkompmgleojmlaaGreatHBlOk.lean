import Derived.Test.YtkompmgleojmlaaGreatHBmTy
import Derived.Shelf.Strings.Search3
import Derived.Test.YtkompmgleojmlaaGreatHLawA
import Derived.Lib.IndexMore
import Derived.Test.YtkompmgleojmlaaGreatHBlLib
set_option linter.unusedSimpArgs false
set_option linter.unusedVariables false
namespace Go.Proofs.YtkompmgleojmlaaGreat
open Go.ChangeShapes Go.WideShapes Go.ChangeAt Go.RowKit Go.Joins Go.Deep
open GoRep (rep bulk)
def ZPM:Go.Shelf.Ren:=⟨fun | 143=>302 | 144=>276 | 217=>316 | 219=>313 | 224=>318 | 225=>317 | 266=>320 | 267=>319 | 314=>321 | n=>n,
 fun | 3=>3 | 4=>4 | 5=>5 | 9=>9 | 46=>267 | 51=>285 | 146=>302 | n=>n,
 fun | 1=>0 | n=>n⟩
open Go.Shelf in
theorem ZPd:Lays.n144 Tryz.prog ZPM where
 mixed:=by kernel_rfl
 f143:=Tryz.func302.trans (congrArg some (by kernel_rfl))
 f144:=Tryz.func276.trans (congrArg some (by kernel_rfl))
 f217:=Tryz.func316.trans (congrArg some (by kernel_rfl))
 f219:=Tryz.func313.trans (congrArg some (by kernel_rfl))
 f224:=Tryz.func318.trans (congrArg some (by kernel_rfl))
 f225:=Tryz.func317.trans (congrArg some (by kernel_rfl))
 f266:=Tryz.func320.trans (congrArg some (by kernel_rfl))
 f267:=Tryz.func319.trans (congrArg some (by kernel_rfl))
 f314:=Tryz.func321.trans (congrArg some (by kernel_rfl))
 t3:=Tryz.underlying3
 a3:=Tryz.isAgg3
 z3:=Tryz.sizeOf3
 v3:=Tryz.zeroValue3
 t4:=Tryz.underlying4
 a4:=Tryz.isAgg4
 z4:=Tryz.sizeOf4
 v4:=Tryz.zeroValue4
 t5:=Tryz.underlying5
 a5:=Tryz.isAgg5
 z5:=Tryz.sizeOf5
 v5:=Tryz.zeroValue5
 t9:=Tryz.underlying9
 a9:=Tryz.isAgg9
 z9:=Tryz.sizeOf9
 v9:=Tryz.zeroValue9
 t46:=Tryz.underlying267
 a46:=Tryz.isAgg267
 z46:=Tryz.sizeOf267
 v46:=Tryz.zeroValue267
 t51:=Tryz.underlying285
 a51:=Tryz.isAgg285
 z51:=Tryz.sizeOf285
 v51:=Tryz.zeroValue285
 t146:=Tryz.underlying302
 a146:=Tryz.isAgg302
 z146:=Tryz.sizeOf302
 v146:=Tryz.zeroValue302
 g1:=by kernel_rfl
def ZMF (s t:ByteArray):Bool:=Lib.contains s.data.toList t.data.toList
theorem Zl9 (s t:ByteArray) (h:s.size < 4294967281):Zam Tryz.prog 276 [.c (.str s), .c (.str t)] (.c (.bool (ZMF s t))) []:=by
 intro X W vs hX hgl hr
 obtain ⟨v,r,rfl,⟨rfl,hw⟩,u,r2,rfl,⟨rfl,hu⟩,hn⟩:=hr
 obtain rfl:r2=[]:=hn
 obtain ⟨m,hm⟩:=hgl.int (g:=0) (by simp [globs])
 refine (Any.strings_Contains ZPd s t m W h hm).mono fun e W' he=>?_
 obtain ⟨rfl,rfl⟩:=he
 exact ⟨_,[],rfl,ZbW.refl W' [],ZOC hX,rfl⟩
def Zma:ZaC Tryz.prog:=⟨276,[.v ZaW, .v ZaW],fun x=>ByteArray.size x.1 < 4294967281,fun x=>.c (.bool (ZMF x.1 x.2.1)),fun _=>[],fun x hx=>Zl9 x.1 x.2.1 hx,Tryz.call276⟩
theorem ZL9:∀ (x y:List UInt8),(Op.bytesLess x y || decide (x=y))=!Op.bytesLess y x
 | [],[]=>by simp [Op.bytesLess]
 | _ :: _,[]=>by simp [Op.bytesLess]
 | [],_ :: _=>by simp [Op.bytesLess]
 | a :: x,b :: y=>by
  have ih:=ZL9 x y
  rw [Op.bytesLess,Op.bytesLess]
  rcases Nat.lt_trichotomy a.toNat b.toNat with h | h | h
  ·have h1:a < b:=h
   have h2:¬ b < a:=fun h'=>by have:b.toNat < a.toNat:=h'; omega
   exact ZAy
  ·have e:a=b:=UInt8.toNat_inj.1 h
   subst e
   have h2:¬ a < a:=fun h'=>by have:a.toNat < a.toNat:=h'; omega
   simpa [h2] using ih
  ·have h1:b < a:=h
   have h2:¬ a < b:=fun h'=>by have:a.toNat < b.toNat:=h'; omega
   exact ZAy
theorem ZMa (a b:ByteArray):(Op.bytesLess a.toList b.toList || decide (a=b))=!Op.bytesLess b.toList a.toList:=by
 rw [← ZL9]
 congr 1
 rw [decide_eq_decide,ByteArray.toList_eq,ByteArray.toList_eq]
 exact ⟨fun h=>by rw [h],fun h=>ByteArray.ext (Array.toList_inj.1 h)⟩
theorem Zh4 {s:ByteArray} {i:Nat} (h:i < s.size):∃ b,s.data.toList[i]?=some b∧Zbf s i=(b.toNat:Nat):=by
 have hl:i < s.data.toList.length:=h
 refine ⟨s.data.toList[i],List.getElem?_eq_getElem hl,?_⟩
 unfold Zbf
 rw [List.getD_eq_getElem?_getD,List.getElem?_eq_getElem hl]
 rfl
theorem ZoK (s:ByteArray) (i:Nat):0≤Zbf s i∧Zbf s i≤255:=by
 unfold Zbf
 have:=(s.data.toList.getD i 0).toNat_lt
 omega
theorem ZH5 (l:List UInt8) (a b:UInt8) (i:Nat):Lib.occAt l [a,b] i=true↔l[i]?=some a∧l[i + 1]?=some b:=by
 unfold Lib.occAt
 have h0:(l.drop i)[0]?=l[i]?:=by rw [List.getElem?_drop]; rfl
 have h1:(l.drop i)[1]?=l[i + 1]?:=by rw [List.getElem?_drop]
 rw [← h0,← h1]
 cases l.drop i with
 | nil=>simp
 | cons x r =>
  cases r with
  | nil=>simp [List.isPrefixOf]
  | cons y r =>
   simp only [List.isPrefixOf,Bool.and_true,Bool.and_eq_true,beq_iff_eq,List.getElem?_cons_zero,List.getElem?_cons_succ,Option.some.injEq]
   exact ⟨fun h=>⟨h.1.symm,h.2.symm⟩,fun h=>⟨h.1.symm,h.2.symm⟩⟩
theorem ZpB (s:ByteArray):ZMF s (⟨#[47,47]⟩:ByteArray)=true↔∃ i,i + 1 < s.size∧Zbf s i=47∧Zbf s (i + 1)=47:=by
 have hb:∀ i,i < s.size→(Zbf s i=47↔s.data.toList[i]?=some 47):=fun i hi=>by
  obtain ⟨b,h1,h2⟩:=Zh4 hi
  rw [h1,h2]
  constructor
  ·intro h
   have:b.toNat=47:=by omega
   exact congrArg some (UInt8.toNat_inj.1 this)
  ·intro h
   obtain rfl:=Option.some.inj h
   rfl
 have hlen:s.data.toList.length=s.size:=rfl
 show Lib.contains s.data.toList [47,47]=true↔_
 unfold Lib.contains
 rw [decide_eq_true_eq]
 rcases Lib.index_spec s.data.toList [47,47] with ⟨h1,h2⟩ | ⟨i,h1,h2,h3,_⟩
 ·constructor
  ·intro h; omega
  ·rintro ⟨i,hi,ha,hc⟩
   have:=h2 i (by omega)
   rw [(ZH5 _ _ _ _).2 ⟨(hb i (by omega)).1 ha,(hb (i + 1) hi).1 hc⟩] at this
   cases this
 ·constructor
  ·intro _
   obtain ⟨ha,hc⟩:=(ZH5 _ _ _ _).1 h3
   have hi:i + 1 < s.size:=(List.getElem?_eq_some_iff.1 hc).1
   exact ⟨i,hi,(hb i (by omega)).2 ha,(hb (i + 1) hi).2 hc⟩
  ·intro _; omega
def ZkM (s:ByteArray) (i:Nat):Prop:=(Zbf s i=47∧(i=0∨i + 1=s.size∨Zbf s (i - 1)=47))∨(Zbf s i ≠ 47∧(Zbf s i < 97∨122 < Zbf s i))
instance (s:ByteArray) (i:Nat):Decidable (ZkM s i):=by unfold ZkM; infer_instance
def Zb9 (s:ByteArray):Bool:=decide ((∀ i,i < s.size→¬ ZkM s i)∧1≤s.size∧s.size≤12)
theorem Zjz {s:ByteArray} {i:Nat} (hi:i < s.size) (h:ZkM s i):Zb9 s=false:=decide_eq_false fun q=>q.1 i hi h
theorem Znd {s:ByteArray} (h:∀ i,i < s.size→¬ ZkM s i):Zb9 s=btw (s.size:Nat) 1 12:=by
 unfold Zb9
 exact ZAg
theorem ZB1 {s:ByteArray} (h:btw (s.size:Nat) 1 12=false):Zb9 s=false:=decide_eq_false fun q=>by rw [Zbl] at h; omega
def upI (x:Int):Int:=if 97≤x∧x≤122 then x - 32 else x
def upB (x:UInt8):UInt8:=if 97≤x.toNat∧x.toNat≤122 then x - 32 else x
def upT (s:ByteArray):ByteArray:=⟨s.data.map upB⟩
theorem ZoL (s:ByteArray):(upT s).size=s.size:=by show (s.data.map upB).size=s.data.size; simp
theorem ZMG (x:UInt8):((upB x).toNat:Int)=upI x.toNat:=by
 unfold upB upI
 split
 ·rw [if_pos (by omega),UInt8.toNat_sub]
  simp
  omega
 ·rw [if_neg (by omega)]
theorem ZMb {s:ByteArray} {i:Nat} (h:i < s.size):Zbf (upT s) i=upI (Zbf s i):=by
 obtain ⟨b,h1,h2⟩:=Zh4 h
 obtain ⟨c,h3,h4⟩:=Zh4 (s:=upT s) (i:=i) (by rw [ZoL]; exact h)
 rw [h2,h4,← ZMG]
 have:(upT s).data.toList[i]?=some (upB b):=by
  show (s.data.map upB).toList[i]?=_
  rw [Array.toList_map,List.getElem?_map,h1]
  rfl
 rw [this] at h3
 obtain rfl:=Option.some.inj h3
 rfl
theorem ZMH {s:ByteArray} {i:Nat} (h:i < s.size):(s.extract i (i + 1)).size=1∧Zbf (s.extract i (i + 1)) 0=Zbf s i:=by
 have hs:(s.extract i (i + 1)).size=1:=by rw [ByteArray.size_extract]; omega
 refine ⟨hs,?_⟩
 obtain ⟨b,h1,h2⟩:=Zh4 h
 obtain ⟨c,h3,h4⟩:=Zh4 (s:=s.extract i (i + 1)) (i:=0) (by omega)
 rw [h2,h4]
 have:(s.extract i (i + 1)).data.toList[0]?=some b:=by
  rw [ByteArray.data_extract,Array.toList_extract,List.extract_eq_take_drop,List.getElem?_take,if_pos (by omega),List.getElem?_drop]
  exact h1
 rw [this] at h3
 obtain rfl:=Option.some.inj h3
 rfl
theorem ZNH {s:ByteArray} {i:Nat} (h:i < s.size):(upT (s.extract i (i + 1))).size=1∧Zbf (upT (s.extract i (i + 1))) 0=upI (Zbf s i):=by
 have:=ZMH h
 exact ⟨by rw [ZoL]; exact this.1,by rw [ZMb (by omega),this.2]⟩
def ZjA (x:Int):Prop:=¬ ((97≤x∧x≤122)∨(65≤x∧x≤90)∨(48≤x∧x≤57))
instance (x:Int):Decidable (ZjA x):=by unfold ZjA; infer_instance
def Zmb (s:ByteArray):Bool:=decide ((∀ i,i < s.size→¬ ZjA (Zbf s i))∧1≤s.size∧s.size≤8)
theorem ZEH {s:ByteArray} {i:Nat} (hi:i < s.size) (h:ZjA (Zbf s i)):Zmb s=false:=decide_eq_false fun q=>q.1 i hi h
theorem ZwK {s:ByteArray} (h:∀ i,i < s.size→¬ ZjA (Zbf s i)):Zmb s=btw (s.size:Nat) 1 8:=by
 unfold Zmb
 exact ZAg
set_option maxRecDepth 100000
set_option maxHeartbeats 4000000
theorem ZFO (n:Int) (lo:Int) (hi:Int):Zam Tryz.prog 91 [.c (.int .i64 n), .c (.int .i64 lo), .c (.int .i64 hi)] (.c (.bool (btw n lo hi))) []:=by
 refine bc0 [] [] [] [] L0 Tryz.func91 (fun hwf=>?_)
 exact Zzg
def ZcE:ZaC Tryz.prog:=⟨91,[.v Zaz, .v Zaz, .v Zaz],fun x=>True,fun x=>.c (.bool (btw x.1 x.2.1 x.2.2.1)),fun _=>[],fun x hx=>ZFO x.1 x.2.1 x.2.2.1,Tryz.call91⟩
theorem ZKt (n:Int) (lo:Int) (hi:Int):Zam Tryz.prog 67 [.c (.int .i64 n), .c (.int .i64 lo), .c (.int .i64 hi)] (.c (.bool (btw n lo hi))) []:=by
 refine bc0 [] [] [] [] L0 Tryz.func67 (fun hwf=>?_)
 exact Zzg
def ZcF:ZaC Tryz.prog:=⟨67,[.v Zaz, .v Zaz, .v Zaz],fun x=>True,fun x=>.c (.bool (btw x.1 x.2.1 x.2.2.1)),fun _=>[],fun x hx=>ZKt x.1 x.2.1 x.2.2.1,Tryz.call67⟩
theorem ZH6 (a:Int) (b:Int):Zam Tryz.prog 137 [.c (.int .i64 a), .c (.int .i64 b)] (.c (.int .i64 (min a b))) []:=by
 refine bc0 [] [] [] [] L0 Tryz.func137 (fun hwf=>?_)
 refine Eq.mpr (β:=T4 (bif ltI a b then T2 (rI a (min a b)) else T2 (rI b (min a b)))) (by kernel_rfl) ?_
 exact Zz7
def ZpC:ZaC Tryz.prog:=⟨137,[.v Zaz, .v Zaz],fun x=>True,fun x=>.c (.int .i64 (min x.1 x.2.1)),fun _=>[],fun x hx=>ZH6 x.1 x.2.1,Tryz.call137⟩
theorem ZH7 (a:Int) (b:Int):Zam Tryz.prog 46 [.c (.int .i64 a), .c (.int .i64 b)] (.c (.int .i64 (max a b))) []:=by
 refine bc0 [] [] [] [] L0 Tryz.func46 (fun hwf=>?_)
 refine Eq.mpr (β:=T4 (bif gtI a b then T2 (rI a (max a b)) else T2 (rI b (max a b)))) (by kernel_rfl) ?_
 exact Zz7
def ZpD:ZaC Tryz.prog:=⟨46,[.v Zaz, .v Zaz],fun x=>True,fun x=>.c (.int .i64 (max x.1 x.2.1)),fun _=>[],fun x hx=>ZH7 x.1 x.2.1,Tryz.call46⟩
def ZKd (x:Int):Prop:=x=47∨(97≤x∧x≤122)
theorem ZMI {s:ByteArray} {i:Nat} (hi:i < s.size) (h:¬ ZKd (Zbf s i)):Zb9 s=false:=Zjz hi (by unfold ZKd at h; unfold ZkM; right; omega)
theorem ZKu {s:ByteArray} (hi:1≤s.size) (h:Zbf s 0=47):Zb9 s=false:=Zjz (i:=0) (by omega) (by unfold ZkM; left; omega)
theorem ZMJ {s:ByteArray} (hi:1≤s.size) (h:Zbf s (s.size - 1)=47):Zb9 s=false:=Zjz (i:=s.size - 1) (by omega) (by unfold ZkM; left; omega)
theorem ZNI {s:ByteArray} (hc:∀ j,j < s.size→ZKd (Zbf s j)) (hb:btw ((s.size:Nat):Int) 1 12=true) (h0:¬ Zbf s 0=47) (h1:¬ Zbf s (s.size - 1)=47):(!ZMF s (⟨#[47,47]⟩:ByteArray))=Zb9 s:=by
 cases hs:ZMF s (⟨#[47,47]⟩:ByteArray) with
 | true =>
  obtain ⟨i,hi,ha,hb'⟩:=(ZpB s).1 hs
  exact (Zjz (i:=i + 1) hi (by unfold ZkM; left; exact ⟨hb', .inr (.inr (by simpa using ha))⟩)).symm
 | false =>
  rw [Znd,hb]
  ·rfl
  ·intro i hi hbad
   have hci:=hc i hi
   unfold ZkM at hbad
   unfold ZKd at hci
   rcases hbad with ⟨q,rfl | q2 | q2⟩ | ⟨q,q2⟩
   ·exact h0 q
   ·exact h1 (by rw [show s.size - 1=i by omega]; exact q)
   ·have h2:ZMF s (⟨#[47,47]⟩:ByteArray)=true:=(ZpB s).2 ⟨i - 1,by
     have:i ≠ 0:=fun e=>by subst e; exact h0 q
     omega,q2,by
     have:i ≠ 0:=fun e=>by subst e; exact h0 q
     rw [show i - 1 + 1=i by omega]; exact q⟩
    rw [hs] at h2
    cases h2
   ·omega
def ZFP (s:ByteArray):Nat→List AV→Mem→Zbj
 | 2,tm,M=>⟨Nat,fun y=>(Zcn (ZcC tm [(2, .any),(3, .any),(6, .c (.int .i64 ((y:Nat):Int)))]) 7 19,M),fun y=>(y≤ByteArray.size s∧∀ j,j < y→ZKd (Zbf s j)),fun y=>(ByteArray.size s - y)⟩
 | _,_,_=>⟨Unit,fun _=>([],[]),fun _=>False,fun _=>0⟩
def ZB2 (s:ByteArray) (y0:Nat):Prop:=T2 (∃ y0' : Nat,(y0'≤s.size∧∀ j,j < y0'→ZKd (Zbf s j))∧(s.size - y0') < (s.size - y0)∧lxs [.c (.str s), .tp []] (True∧True∧lxs [.c (.str s),ci s.size] (vI (w64 ((y0:Int) + 1)) y0'∧TN 19 (tpn 21 True)))∧pt (True))
def ZuB (y0:Nat) (s:ByteArray):Prop:=(0:Int)≤(y0:Int)∧(y0:Int) < (s.size:Int)
theorem ZFQ (s:ByteArray):Zam Tryz.prog 244 [.c (.str s)] (.c (.bool (Zb9 s))) []:=by
 refine bc0 [ZcE,Zma] [] [] [] (ZFP s) Tryz.func244 (fun hwf=>?_)
 refine Eq.mpr (β:=T4 ((∃ q:Nat,(q≤s.size∧∀ j,j < q→ZKd (Zbf s j))∧lxs [.c (.str s), .tp []] (True∧True∧lxs [.c (.str s),ci s.size] (vI 0 q∧TN 19 (tpn 21 True)))∧pt (True))∧∀ y0:Nat,(y0≤s.size∧∀ j,j < y0→ZKd (Zbf s j))→True∧bif ltI y0 s.size then T4 (ZuB y0 s∧T2 (bif neI (Zbf s y0) 47 then T2 (ZuB y0 s∧T2 (bif ltI (Zbf s y0) 97 then T3 (rB false (Zb9 s)) else T2 (ZuB y0 s∧T3 (bif gtI (Zbf s y0) 122 then True∧rB false (Zb9 s) else ZB2 s y0)))) else True∧ZB2 s y0)) else T2 (pt True∧True∧bif btw (s.size:Int) 1 12 then True∧((0:Int)≤0∧(0:Int) < (s.size:Int))∧T3 (bif neI (Zbf s (Int.toNat 0)) 47 then T4 (((0:Int)≤(w64 ((s.size:Int) - 1))∧((w64 ((s.size:Int) - 1)):Int) < (s.size:Int))∧T3 (bif neI (Zbf s (Int.toNat (w64 ((s.size:Int) - 1)))) 47 then True∧pt (s.size < 4294967281)∧T3 (rB (!(ZMF s (⟨#[47,47]⟩:ByteArray))) (Zb9 s)) else T2 (rB false (Zb9 s)))) else T4 (rB false (Zb9 s))) else T6 (rB false (Zb9 s))))) (by kernel_rfl) ?_
 unfold ZuB ZB2 T2 T3 T4 T6
 have hm:s.size≤maxLen:=hwf.1
 unfold maxLen at hm
 have e1:1≤s.size→Int.toNat (IntKind.wrap .i64 ((ByteArray.size s:Int) - 1))=s.size - 1:=fun h=>by rw [Za3 (by omega) (by omega)]; omega
 have e2:IntKind.wrap .i64 ((ByteArray.size s:Int) - 1)=(ByteArray.size s:Int) - 1:=Za3 (by omega) (by omega)
 simp only [Zdq,eq_self]
 refine ⟨⟨0,⟨Nat.zero_le _,fun j hj=>absurd hj (Nat.not_lt_zero j)⟩,rfl⟩,fun k hk=>⟨fun hlt=>?_,fun hge=>?_⟩⟩
 ·have hb:=ZoK s k
  repeat' (first | apply And.intro | intro _)
  all_goals first
   | trivial
   | omega
   | exact (ZMI (i:=k) (by omega) (by unfold ZKd; omega)).symm
   | exact ⟨k + 1,⟨by omega,fun j hj=>if h:j < k then hk.2 j h else by obtain rfl:j=k:=(by omega); unfold ZKd; omega⟩,by omega,ZbL (by unfold maxLen; omega)⟩
 ·obtain rfl:k=s.size:=by omega
  repeat' (first | apply And.intro | intro _)
  all_goals first
   | trivial
   | (rw [Zbe] at *; omega)
   | (have hb1:=Zbe.1 (by assumption:btw (ByteArray.size s:Int) 1 12=true); first | omega | (rw [e1 (by omega)] at *; first | exact ZNI hk.2 (by assumption) (by assumption) (by assumption) | exact (ZMJ (by omega) (by assumption)).symm) | exact (ZKu (by omega) (by assumption)).symm)
   | exact (ZB1 (by assumption)).symm
def Zko:ZaC Tryz.prog:=⟨244,[.v ZaW],fun x=>True,fun x=>.c (.bool (Zb9 x.1)),fun _=>[],fun x hx=>ZFQ x.1,Tryz.call244⟩
def ZFR (s:ByteArray):Nat→List AV→Mem→Zbj
 | 2,tm,M=>⟨Nat,fun y=>(Zcn (ZcC tm [(2, .any),(3, .c (.int .i64 ((y:Nat):Int)))]) 4 36,M),fun y=>(y≤ByteArray.size s∧∀ j,j < y→¬ ZkM s j),fun y=>(ByteArray.size s - y)⟩
 | _,_,_=>⟨Unit,fun _=>([],[]),fun _=>False,fun _=>0⟩
def ZB3 (s:ByteArray) (y0:Nat):Prop:=T3 (∃ y0' : Nat,(y0'≤s.size∧∀ j,j < y0'→¬ ZkM s j)∧(s.size - y0') < (s.size - y0)∧lxs [.c (.str s), .tp []] (True∧vI (w64 ((y0:Int) + 1)) y0'∧TN 36 (tpn 3 True))∧pt (True))
def ZuC (y0:Nat) (s:ByteArray):Prop:=(0:Int)≤(y0:Int)∧(y0:Int) < (s.size:Int)
theorem ZFS (s:ByteArray):Zam Tryz.prog 222 [.c (.str s)] (.c (.bool (Zb9 s))) []:=by
 refine bc0 [ZcF] [] [] [] (ZFR s) Tryz.func222 (fun hwf=>?_)
 refine Eq.mpr (β:=T2 ((∃ q:Nat,(q≤s.size∧∀ j,j < q→¬ ZkM s j)∧lxs [.c (.str s), .tp []] (True∧vI 0 q∧TN 36 (tpn 3 True))∧pt (True))∧∀ y0:Nat,(y0≤s.size∧∀ j,j < y0→¬ ZkM s j)→T4 (bif ltI y0 s.size then T2 (ZuC y0 s∧True∧bif eqI (Zbf s y0) 47 then T3 (bif eqI y0 0 then T4 (rB false (Zb9 s)) else T7 (bif eqI y0 (w64 ((s.size:Int) - 1)) then T2 (rB false (Zb9 s)) else T3 (((0:Int)≤(w64 ((y0:Int) - 1))∧((w64 ((y0:Int) - 1)):Int) < (s.size:Int))∧T2 (bif eqI (Zbf s (Int.toNat (w64 ((y0:Int) - 1)))) 47 then True∧rB false (Zb9 s) else ZB3 s y0)))) else T2 (ZuC y0 s∧T2 (bif ltI (Zbf s y0) 97 then T2 (rB false (Zb9 s)) else T2 (ZuC y0 s∧T2 (bif gtI (Zbf s y0) 122 then True∧rB false (Zb9 s) else ZB3 s y0))))) else T2 (pt True∧True∧rB (btw (s.size:Int) 1 12) (Zb9 s))))) (by kernel_rfl) ?_
 unfold ZuC ZB3 T2 T3 T4 T7
 have hm:s.size≤maxLen:=hwf.1
 unfold maxLen at hm
 have e2:IntKind.wrap .i64 ((ByteArray.size s:Int) - 1)=(ByteArray.size s:Int) - 1:=Za3 (by omega) (by omega)
 simp only [Zdq,eq_self]
 refine ⟨⟨0,⟨Nat.zero_le _,fun j hj=>absurd hj (Nat.not_lt_zero j)⟩,rfl⟩,fun k hk=>⟨fun hlt=>?_,fun hge=>?_⟩⟩
 ·have hb:=ZoK s k
  have e3:IntKind.wrap .i64 (((k:Nat):Int) - 1)=((k:Nat):Int) - 1:=Za3 (by omega) (by omega)
  have e4:1≤k→Int.toNat (((k:Nat):Int) - 1)=k - 1:=fun h=>by omega
  simp only [e2,e3]
  repeat' (first | apply And.intro | intro _)
  all_goals first
   | trivial
   | omega
   | exact (Zjz (i:=k) (by omega) (by unfold ZkM; first | (right; omega) | (left; refine ⟨by assumption,?_⟩; first | (left; omega) | (right; left; omega) | (right; right; rw [← e4 (by omega)]; assumption)))).symm
   | exact ⟨k + 1,⟨by omega,fun j hj=>if h:j < k then hk.2 j h else by obtain rfl:j=k:=(by omega); unfold ZkM; first | (rintro (⟨q,q2⟩ | ⟨q,q2⟩) <;> omega) | (rw [e4 (by omega)] at *; rintro (⟨q,rfl | q2 | q2⟩ | ⟨q,q2⟩) <;> first | omega | contradiction)⟩,by omega,ZbL (by unfold maxLen; omega)⟩
 ·obtain rfl:k=s.size:=by omega
  first | exact (Znd hk.2).symm | exact ⟨trivial,(Znd hk.2).symm⟩
def Zkp:ZaC Tryz.prog:=⟨222,[.v ZaW],fun x=>True,fun x=>.c (.bool (Zb9 x.1)),fun _=>[],fun x hx=>ZFS x.1,Tryz.call222⟩
def Zda (n:ZaO):Bool:=if n.1=1 then (btw n.2.1 0 300 && (btw n.2.2.1 0 999999998 && eqS n.2.2.2 (⟨#[]⟩:ByteArray))) else (btw n.1 2 4 && (eqI n.2.1 0 && (eqI n.2.2.1 0 && Zb9 n.2.2.2)))
theorem ZFT (n:ZaO):Zam Tryz.prog 177 [.ag (cellsOf Zal n)] (.c (.bool (Zda n))) []:=by
 refine bc0 [ZcE,Zko] [] [] [] L0 Tryz.func177 (fun hwf=>?_)
 exact Zy4
def ZFU:ZaC Tryz.prog:=⟨177,[.s Zal],fun x=>True,fun x=>.c (.bool (Zda x.1)),fun _=>[],fun x hx=>ZFT x.1,Tryz.call177⟩
theorem ZFV (n:ZaO):Zam Tryz.prog 154 [.ag (cellsOf Zal n)] (.c (.bool (Zda n))) []:=by
 refine bc0 [ZcF,Zkp] [] [] [] L0 Tryz.func154 (fun hwf=>?_)
 exact Zy4
def ZFW:ZaC Tryz.prog:=⟨154,[.s Zal],fun x=>True,fun x=>.c (.bool (Zda x.1)),fun _=>[],fun x hx=>ZFV x.1,Tryz.call154⟩
theorem ZNJ {a b:Int}:(if b > a then b else a)=max a b:=by omega
def ZgK (l:List ZaO):Nat→Int
 | 0=>-1
 | k + 1=>if (Zaf l k).1=1 then max (ZgK l k) (Zaf l k).2.1 else ZgK l k
def Zi2 (l:List ZaO) (n:Int):Bool:=!List.any l (fun z0:ZaO=>eqI z0.1 1 && geI z0.2.1 n)
def Zsj (l:List ZaO) (s:ByteArray):Bool:=List.any l (fun z0:ZaO=>eqI z0.1 2 && eqS z0.2.2.2 s)
theorem ZEI {l:List ZaO} {n:Int}:∀ {k:Nat},n≤ZgK l k↔n≤-1∨∃ j,j < k∧(Zaf l j).1=1∧n≤(Zaf l j).2.1
 | 0=>by
  unfold ZgK
  constructor
  ·exact .inl
  ·rintro (h | ⟨j,hj,_⟩)
   ·exact h
   ·omega
 | k + 1=>by
  have ih:=ZEI (l:=l) (n:=n) (k:=k)
  unfold ZgK
  constructor
  ·intro h
   split at h
   ·rename_i h1
    by_cases h2:n≤ZgK l k
    ·rcases ih.1 h2 with h3 | ⟨j,a,b⟩
     ·exact .inl h3
     ·exact .inr ⟨j,by omega,b⟩
    ·exact .inr ⟨k,by omega,h1,by omega⟩
   ·rcases ih.1 h with h3 | ⟨j,a,b⟩
    ·exact .inl h3
    ·exact .inr ⟨j,by omega,b⟩
  ·intro h
   have:n≤ZgK l k∨((Zaf l k).1=1∧n≤(Zaf l k).2.1):=by
    rcases h with h | ⟨j,a,b,c⟩
    ·exact .inl (ih.2 (.inl h))
    ·by_cases hj:j=k
     ·subst hj; exact .inr ⟨b,c⟩
     ·exact .inl (ih.2 (.inr ⟨j,by omega,b,c⟩))
   split
   ·rcases this with h | h <;> omega
   ·rename_i h1
    rcases this with h | h
    ·exact h
    ·exact absurd h.1 h1
theorem ZH8 {l:List ZaO} {j:Nat} {z:ZaO} (hj:j < List.length l) (e:l[j]=z):Zaf l j=z:=by
 have h:l[j]?=some z:=by rw [List.getElem?_eq_getElem hj,e]
 exact Zcj (t:=Zal) h
theorem ZFX {l:List ZaO} {n:Int} (h:0≤n):Zi2 l n=decide (ZgK l (List.length l) < n):=by
 rw [Bool.eq_iff_iff,decide_eq_true_eq]
 have h1:=ZEI (l:=l) (n:=n) (k:=List.length l)
 unfold Zi2
 rw [Bool.not_eq_true',← Bool.not_eq_true,List.any_eq_true]
 constructor
 ·intro q
  refine Int.not_le.1 fun hn=>?_
  rcases h1.1 hn with h2 | ⟨j,a,b,c⟩
  ·omega
  ·exact q ⟨Zaf l j,List.mem_of_getElem? (Zau (t:=Zal) a),by rw [Bool.and_eq_true,ZaJ,ZdZ]; exact ⟨b,c⟩⟩
 ·rintro q ⟨z,hz,hp⟩
  obtain ⟨j,hj,e⟩:=List.getElem_of_mem hz
  have e2:Zaf l j=z:=ZH8 hj e
  rw [Bool.and_eq_true,ZaJ,ZdZ] at hp
  exact absurd (h1.2 (.inr ⟨j,hj,by rw [e2]; exact hp.1,by rw [e2]; exact hp.2⟩)) (by omega)
theorem ZuD (n:ZaO):Zam Tryz.prog 108 [.ag (cellsOf Zal n)] (.c (.bool (eqI n.1 1))) []:=by
 refine bc0 [] [] [] [] L0 Tryz.func108 (fun hwf=>?_)
 refine Eq.mpr (β:=T6 (rB (eqI n.1 1) (eqI n.1 1))) (by kernel_rfl) ?_
 exact Zev
def Zgl:ZaC Tryz.prog:=⟨108,[.s Zal],fun x=>True,fun x=>.c (.bool (eqI x.1.1 1)),fun _=>[],fun x hx=>ZuD x.1,Tryz.call108⟩
theorem ZpE (n:ZaO):Zam Tryz.prog 179 [.ag (cellsOf Zal n)] (.c (.bool (neI n.1 1))) []:=by
 refine bc0 [] [] [] [] L0 Tryz.func179 (fun hwf=>?_)
 refine Eq.mpr (β:=T6 (rB (neI n.1 1) (neI n.1 1))) (by kernel_rfl) ?_
 exact Zev
def ZpF:ZaC Tryz.prog:=⟨179,[.s Zal],fun x=>True,fun x=>.c (.bool (neI x.1.1 1)),fun _=>[],fun x hx=>ZpE x.1,Tryz.call179⟩
def Zne (qu:ZbH):Nat→List AV→Mem→Zbj
 | 3,tm,M=>⟨Nat,fun y=>(Zcn (ZcC tm [(3, .c (.int .i64 (ZgK qu.1 y))),(5, .any),(9, .c (.int .i64 ((y:Nat):Int)))]) 10 10,M),fun y=>(y≤List.length qu.1),fun y=>(List.length qu.1 - y)⟩
 | _,_,_=>⟨Unit,fun _=>([],[]),fun _=>False,fun _=>0⟩
def ZB4 (qu:ZbH) (y0:Nat) (y0' : Nat):Prop:=True∧lxs [.c (.bp 0 0),hn Zal qu.1,ci qu.1.length] (vI (w64 ((y0:Int) + 1)) y0'∧TN 10 (lxs [.tp []] True))
def Zlw (qu:ZbH):List AC:=[.hs .no Zal qu.1, .bool qu.2.1, .bool qu.2.2]
theorem Znf (qu:ZbH):Zam Tryz.prog 178 [.ag [.hs .no Zal qu.1, .bool qu.2.1, .bool qu.2.2]] (.c (.int .i64 (ZgK qu.1 (List.length qu.1)))) []:=by
 refine bc0 [Zgl] [] [] [] (Zne qu) Tryz.func178 (fun hwf=>?_)
 refine Eq.mpr (β:=T7 ((∃ q:Nat,(q≤qu.1.length)∧lxs [.ag (Zlw qu), .c (.bp 0 0),ci 0] (vI (-1) (ZgK qu.1 q)∧lxs [.tp []] (True∧lxs [.c (.bp 0 0),hn Zal qu.1,ci qu.1.length] (vI 0 q∧TN 10 (lxs [.tp []] True))))∧pt (lb (.box (Zlw qu))∧True))∧∀ y0:Nat,(y0≤qu.1.length)→True∧bif ltI y0 qu.1.length then ix 4 y0 qu.1.length∧T4 (pt True∧bif eqI (Zaf qu.1 y0).1 1 then T3 (IntKind.i64=IntKind.i64∧T3 (∃ y0' : Nat,(y0'≤qu.1.length)∧(qu.1.length - y0') < (qu.1.length - y0)∧lxs [.ag (Zlw qu), .c (.bp 0 0),ci 0] (vI (if ((Zaf qu.1 y0).2.1:Int) > (ZgK qu.1 y0) then (Zaf qu.1 y0).2.1 else ZgK qu.1 y0) (ZgK qu.1 y0')∧lxs [.tp []] (ZB4 qu y0 y0'))∧pt (lb (.box (Zlw qu))∧True))) else T2 (∃ y0' : Nat,(y0'≤qu.1.length)∧(qu.1.length - y0') < (qu.1.length - y0)∧lxs [.ag (Zlw qu), .c (.bp 0 0),ci 0] (vI (ZgK qu.1 y0) (ZgK qu.1 y0')∧lxs [.tp []] (ZB4 qu y0 y0'))∧pt (lb (.box (Zlw qu))∧True))) else T2 (rI (ZgK qu.1 y0) (ZgK qu.1 qu.1.length)))) (by kernel_rfl) ?_
 unfold Zlw ZB4 T2 T3 T4 T7
 have hm:List.length qu.1≤maxLen:=hwf.1.1.1
 simp only [Zdq,eq_self]
 simp only [ZNJ]
 refine ⟨⟨0,Nat.zero_le _,rfl,rfl⟩,fun k hk=>⟨fun hlt=>?_,fun hge=>?_⟩⟩
 ·repeat' (first | apply And.intro | intro _)
  all_goals first
   | trivial
   | omega
   | exact ⟨k + 1,by omega,by omega,(if_pos (by assumption)).symm,ZbL (by omega)⟩
   | exact ⟨k + 1,by omega,by omega,(if_neg (by assumption)).symm,ZbL (by omega)⟩
 ·obtain rfl:k=List.length qu.1:=by omega
  first | rfl | exact ⟨trivial,rfl⟩
def Zng:ZaC Tryz.prog:=⟨178,[.s Zdz],fun x=>True,fun x=>.c (.int .i64 (ZgK x.1.1 (List.length x.1.1))),fun _=>[],fun x hx=>Znf x.1,Tryz.call178⟩
def Za0 (l:List ZaO) (b:Bool):Nat→List ZaO
 | 0=>[]
 | k + 1=>if eqI (Zaf l k).1 1=b then Za0 l b k ++ [Zaf l k] else Za0 l b k
theorem ZpG {l:List ZaO} {b:Bool}:∀ k,(Za0 l b k).length≤k
 | 0=>Nat.le_refl _
 | k + 1=>by have:=ZpG (l:=l) (b:=b) k; unfold Za0; split <;> simp <;> omega
def ZFY (l:List ZaO) (v:ZaO):Bool:=List.any l (fun z0:ZaO=>Zcx v z0)
def Zv6 (q:ZbH) (i:Nat):Bool:=!Zda (Zaf q.1 i) || ((eqI (Zaf q.1 i).1 1 && (q.2.1 || !Zi2 (List.take i q.1) (Zaf q.1 i).2.1)) || ((neI (Zaf q.1 i).1 1 && q.2.2) || (eqI (Zaf q.1 i).1 2 && Zsj (List.take i q.1) (Zaf q.1 i).2.2.2)))
def ZOw (q:ZbH) (i:Nat):Bool:=!Zda (Zaf q.1 i) || ((eqI (Zaf q.1 i).1 1 && (q.2.1 || leI (Zaf q.1 i).2.1 (ZgK (List.take i q.1) (List.length (List.take i q.1))))) || ((neI (Zaf q.1 i).1 1 && q.2.2) || (eqI (Zaf q.1 i).1 2 && ZFY (List.take i q.1) (Zaf q.1 i))))
def Zch (q:ZbH):Bool:=decide ((∀ i,i < List.length q.1→Zv6 q i=false)∧List.length q.1≤6)
theorem ZsM {q:ZbH} {i:Nat} (hi:i < List.length q.1) (h:Zv6 q i=true):Zch q=false:=decide_eq_false fun z=>by rw [z.1 i hi] at h; cases h
theorem ZpH {q:ZbH} (h:∀ i,i < List.length q.1→Zv6 q i=false):Zch q=leI (List.length q.1:Int) 6:=by
 unfold Zch
 rw [Bool.eq_iff_iff,decide_eq_true_eq,Zce]
 exact ⟨fun z=>by have:=z.2; omega,fun z=>⟨h,by omega⟩⟩
theorem ZFZ {n:ZaO} (h:Zda n=true) (h1:n.1=1):0≤n.2.1:=by
 unfold Zda at h
 rw [if_pos h1,Bool.and_eq_true,Zbe] at h
 omega
theorem ZnN {n:ZaO} (h:Zda n=true) (h1:n.1 ≠ 1):n.2.1=0∧n.2.2.1=0:=by
 unfold Zda at h
 rw [if_neg h1,Bool.and_eq_true,Bool.and_eq_true,Bool.and_eq_true,ZaJ,ZaJ] at h
 exact ⟨h.2.1,h.2.2.1⟩
theorem ZKv {l:List ZaO} {v:ZaO} (hl:∀ j,j < List.length l→Zda (Zaf l j)=true) (hv:Zda v=true) (h2:v.1=2):ZFY l v=Zsj l v.2.2.2:=by
 unfold ZFY Zsj
 rw [Bool.eq_iff_iff,List.any_eq_true,List.any_eq_true]
 constructor
 ·rintro ⟨z,hz,he⟩
  have e:=Zdi.1 he
  exact ⟨z,hz,by rw [← e,Bool.and_eq_true,ZaJ,Zbp]; exact ⟨h2,rfl⟩⟩
 ·rintro ⟨z,hz,he⟩
  rw [Bool.and_eq_true,ZaJ,Zbp] at he
  obtain ⟨j,hj,e⟩:=List.getElem_of_mem hz
  have e2:Zaf l j=z:=ZH8 hj e
  have hz':=hl j hj
  rw [e2] at hz'
  have p1:=ZnN hz' (by omega)
  have p2:=ZnN hv (by omega)
  exact ⟨z,hz,Zdi.2 (Prod.ext (by omega) (Prod.ext (by omega) (Prod.ext (by omega) he.2.symm)))⟩
theorem ZH9 {q:ZbH} {j:Nat} (h:Zv6 q j=false):Zda (Zaf q.1 j)=true:=by
 unfold Zv6 at h
 cases hn:Zda (Zaf q.1 j) with
 | true=>rfl
 | false=>rw [hn] at h; cases h
theorem ZKw {l:List ZaO} {i j:Nat} (h:j < i) (hi:i≤List.length l):Zaf (List.take i l) j=Zaf l j:=by
 have h0:l[j]?=some (Zaf l j):=Zau (t:=Zal) (by have:i≤List.length l:=hi; show j < List.length l; omega)
 have h1:(List.take i l)[j]?=some (Zaf l j):=by rw [List.getElem?_take,if_pos h]; exact h0
 exact Zcj (t:=Zal) h1
theorem ZIa {l:List ZaO} {n:Int} {k:Nat} (hk:k < List.length l) (h:(Zaf l k).1=1∧n≤(Zaf l k).2.1):Zi2 l n=false:=by
 have h' : List.any l (fun z0:ZaO=>eqI z0.1 1 && geI z0.2.1 n)=true:=Zkw (t:=Zal) (xs:=l) (p:=fun z0:ZaO=>eqI z0.1 1 && geI z0.2.1 n) hk (by show (eqI (Zaf l k).1 1 && geI (Zaf l k).2.1 n)=true; rw [Bool.and_eq_true,ZaJ,ZdZ]; exact h)
 unfold Zi2
 rw [h']
 rfl
theorem ZsN {l:List ZaO} {n:Int} (h:∀ j,j < List.length l→¬ ((Zaf l j).1=1∧n≤(Zaf l j).2.1)):Zi2 l n=true:=by
 have h' : List.any l (fun z0:ZaO=>eqI z0.1 1 && geI z0.2.1 n)=false:=Zib (t:=Zal) (xs:=l) (p:=fun z0:ZaO=>eqI z0.1 1 && geI z0.2.1 n) (fun j hj=>by show (eqI (Zaf l j).1 1 && geI (Zaf l j).2.1 n)=false; rw [← Bool.not_eq_true,Bool.and_eq_true,ZaJ,ZdZ]; exact h j hj)
 unfold Zi2
 rw [h']
 rfl
theorem ZIb {l:List ZaO} {n:ByteArray} {k:Nat} (hk:k < List.length l) (h:(Zaf l k).1=2∧(Zaf l k).2.2.2=n):Zsj l n=true :=
 Zkw (t:=Zal) (xs:=l) (p:=fun z0:ZaO=>eqI z0.1 2 && eqS z0.2.2.2 n) hk (by show (eqI (Zaf l k).1 2 && eqS (Zaf l k).2.2.2 n)=true; rw [Bool.and_eq_true,ZaJ,Zbp]; exact h)
theorem ZEJ {l:List ZaO} {n:ByteArray} (h:∀ j,j < List.length l→¬ ((Zaf l j).1=2∧(Zaf l j).2.2.2=n)):Zsj l n=false :=
 Zib (t:=Zal) (xs:=l) (p:=fun z0:ZaO=>eqI z0.1 2 && eqS z0.2.2.2 n) (fun j hj=>by show (eqI (Zaf l j).1 2 && eqS (Zaf l j).2.2.2 n)=false; rw [← Bool.not_eq_true,Bool.and_eq_true,ZaJ,Zbp]; exact h j hj)
theorem ZIc {q:ZbH} {i:Nat} (hi:i < List.length q.1) (h:∀ j,j < i→Zv6 q j=false):ZOw q i=Zv6 q i:=by
 unfold ZOw Zv6
 cases hn:Zda (Zaf q.1 i) with
 | false=>rfl
 | true =>
  have hlen:List.length (List.take i q.1)=i:=by rw [List.length_take]; omega
  by_cases h1:(Zaf q.1 i).1=1
  ·rw [ZFX (ZFZ hn h1),hlen,ZaJ.2 h1]
   have e:leI (Zaf q.1 i).2.1 (ZgK (List.take i q.1) i)=!decide (ZgK (List.take i q.1) i < (Zaf q.1 i).2.1):=by
    rw [Bool.eq_iff_iff,Zce,Bool.not_eq_true',decide_eq_false_iff_not]
    omega
   rw [e,ZaT.2 (show ¬ (Zaf q.1 i).1=2 by omega)]
   rfl
  ·rw [ZaT.2 h1]
   by_cases h2:(Zaf q.1 i).1=2
   ·rw [ZKv (fun j hj=>by rw [hlen] at hj; rw [ZKw hj (by omega)]; exact ZH9 (h j hj)) hn h2]
    rfl
   ·rw [ZaT.2 h2]
    rfl
def Zgm (s:List ZaO) (v:ZaO):Nat→List AV→Mem→Zbj
 | 2,tm,M=>⟨Nat,fun y=>(Zcn (ZcC tm [(4, .any),(5, .any),(8, .c (.int .i64 ((y:Nat):Int)))]) 9 10,M),fun y=>(y≤List.length s∧∀ j,j < y→Zcx v (Zaf s j)=false),fun y=>(List.length s - y)⟩
 | _,_,_=>⟨Unit,fun _=>([],[]),fun _=>False,fun _=>0⟩
def ZpI (v:ZaO):List AC:=[.int .i64 v.1, .int .i64 v.2.1, .int .i64 v.2.2.1, .str v.2.2.2]
theorem Zgn (s:List ZaO) (v:ZaO):Zam Tryz.prog 188 [.c (.hs .no Zal s), .ag (cellsOf Zal v)] (.c (.int .i64 (Zf2 (fun z0:ZaO=>Zcx v z0) s))) []:=by
 refine bc0 [] [] [] [] (Zgm s v) Tryz.func188 (fun hwf=>?_)
 refine Eq.mpr (β:=T5 ((∃ q:Nat,(q≤s.length∧∀ j,j < q→Zcx v (Zaf s j)=false)∧lxs [hn Zal s, .ag (ZpI v), .tp [], .c (.bp 0 0)] (True∧True∧lxs [hn Zal s,ci s.length] (vI 0 q∧TN 10 True))∧pt (lb (.box (ZpI v))∧True))∧∀ y0:Nat,(y0≤s.length∧∀ j,j < y0→Zcx v (Zaf s j)=false)→True∧bif ltI y0 s.length then T2 (pt (true=true)∧T3 (ix 4 y0 s.length∧True∧true=true∧bif Zcx v (Zaf s y0) then T2 (rI (y0:Int) (Zf2 (fun z0:ZaO=>Zcx v z0) s)) else T2 (∃ y0' : Nat,(y0'≤s.length∧∀ j,j < y0'→Zcx v (Zaf s j)=false)∧(s.length - y0') < (s.length - y0)∧lxs [hn Zal s, .ag (ZpI v), .tp [], .c (.bp 0 0)] (True∧True∧lxs [hn Zal s,ci s.length] (vI (w64 ((y0:Int) + 1)) y0'∧TN 10 True))∧pt (lb (.box (ZpI v))∧True)))) else True∧rI (-1) (Zf2 (fun z0:ZaO=>Zcx v z0) s))) (by kernel_rfl) ?_
 unfold ZpI T2 T3 T5
 simp only [Zdq,eq_self]
 have hm:List.length s≤maxLen:=hwf.1.1
 refine ⟨⟨0,⟨Nat.zero_le _,Za7⟩,rfl⟩,fun k hk=>⟨fun hlt=>⟨by omega,fun hp=>?_,fun hp=>?_⟩,fun hge=>?_⟩⟩
 ·have hk' : k < List.length s:=by omega
  exact (Zfs (t:=Zal) (p:=fun z0:ZaO=>Zcx v z0) (xs:=s) hk' hk.2 hp).symm
 ·exact ZdA
 ·obtain rfl:k=List.length s:=by omega
  exact (Zcw (t:=Zal) (p:=fun z0:ZaO=>Zcx v z0) hk.2).symm
def Zgo:ZaC Tryz.prog:=⟨188,[.v (.list Zal), .s Zal],fun x=>True,fun x=>.c (.int .i64 (Zf2 (fun z0:ZaO=>Zcx x.2.1 z0) x.1)),fun _=>[],fun x hx=>Zgn x.1 x.2.1,Tryz.call188⟩
theorem Zff (s:List ZaO) (v:ZaO):Zam Tryz.prog 111 [.c (.hs .no Zal s), .ag (cellsOf Zal v)] (.c (.bool (ZFY s v))) []:=by
 refine bc0 [Zgo] [] [] [] L0 Tryz.func111 (fun hwf=>?_)
 refine Eq.mpr (β:=T4 (pt True∧T2 (rB (geI (Zf2 (fun z0:ZaO=>Zcx v z0) s) 0) (ZFY s v)))) (by kernel_rfl) ?_
 exact ZzE
def Zdx:ZaC Tryz.prog:=⟨111,[.v (.list Zal), .s Zal],fun x=>True,fun x=>.c (.bool (ZFY x.1 x.2.1)),fun _=>[],fun x hx=>Zff x.1 x.2.1,Tryz.call111⟩
def ZwL (qu:ZbH) (n:Int):Nat→List AV→Mem→Zbj
 | 2,tm,M=>⟨Nat,fun y=>(Zcn (ZcC tm [(4, .any),(5, .c (.int .i64 ((y:Nat):Int)))]) 6 24,M),fun y=>(y≤List.length qu.1∧∀ j,j < y→¬ ((Zaf qu.1 j).1=1∧n≤(Zaf qu.1 j).2.1)),fun y=>(List.length qu.1 - y)⟩
 | _,_,_=>⟨Unit,fun _=>([],[]),fun _=>False,fun _=>0⟩
def ZB5 (qu:ZbH) (n:Int) (y0:Nat):Prop:=T3 (∃ y0' : Nat,(y0'≤qu.1.length∧∀ j,j < y0'→¬ ((Zaf qu.1 j).1=1∧n≤(Zaf qu.1 j).2.1))∧(qu.1.length - y0') < (qu.1.length - y0)∧lxs [.ag [.hs .no Zal qu.1, .bool qu.2.1, .bool qu.2.2],ci n, .c (.bp 0 0), .tp []] (True∧vI (w64 ((y0:Int) + 1)) y0'∧TN 24 True)∧pt (lb (.box [.hs .no Zal qu.1, .bool qu.2.1, .bool qu.2.2])∧True))
theorem ZwM (qu:ZbH) (n:Int):Zam Tryz.prog 155 [.ag [.hs .no Zal qu.1, .bool qu.2.1, .bool qu.2.2], .c (.int .i64 n)] (.c (.bool (Zi2 qu.1 n))) []:=by
 refine bc0 [] [] [] [] (ZwL qu n) Tryz.func155 (fun hwf=>?_)
 refine Eq.mpr (β:=T3 ((∃ q:Nat,(q≤qu.1.length∧∀ j,j < q→¬ ((Zaf qu.1 j).1=1∧n≤(Zaf qu.1 j).2.1))∧lxs [.ag [.hs .no Zal qu.1, .bool qu.2.1, .bool qu.2.2],ci n, .c (.bp 0 0), .tp []] (True∧vI 0 q∧TN 24 True)∧pt (lb (.box [.hs .no Zal qu.1, .bool qu.2.1, .bool qu.2.2])∧True))∧∀ y0:Nat,(y0≤qu.1.length∧∀ j,j < y0→¬ ((Zaf qu.1 j).1=1∧n≤(Zaf qu.1 j).2.1))→T5 (bif ltI y0 qu.1.length then T3 (ix 4 y0 qu.1.length∧T4 (bif eqI (Zaf qu.1 y0).1 1 then T3 (ix 4 y0 qu.1.length∧T5 (bif geI (Zaf qu.1 y0).2.1 n then True∧rB false (Zi2 qu.1 n) else ZB5 qu n y0)) else True∧ZB5 qu n y0)) else True∧rB true (Zi2 qu.1 n)))) (by kernel_rfl) ?_
 unfold ZB5 T3 T4 T5
 have hm:List.length qu.1≤maxLen:=hwf.1.1.1
 simp only [Zdq,eq_self]
 refine ⟨⟨0,⟨Nat.zero_le _,Za7⟩,rfl⟩,fun k hk=>⟨fun hlt=>?_,fun hge=>?_⟩⟩
 ·repeat' (first | apply And.intro | intro _)
  all_goals first
   | trivial
   | omega
   | exact (ZIa (k:=k) (by omega) ⟨by assumption,by assumption⟩).symm
   | exact ⟨k + 1,⟨by omega,ZaY hk.2 (fun h=>by first | omega | exact absurd h.1 (by assumption) | exact absurd h.2 (by assumption))⟩,by omega,ZbL (by omega)⟩
 ·obtain rfl:k=List.length qu.1:=by omega
  first | exact (ZsN hk.2).symm | exact ⟨trivial,(ZsN hk.2).symm⟩
def ZwN:ZaC Tryz.prog:=⟨155,[.s Zdz, .v Zaz],fun x=>True,fun x=>.c (.bool (Zi2 x.1.1 x.2.1)),fun _=>[],fun x hx=>ZwM x.1 x.2.1,Tryz.call155⟩
def ZuE (qu:ZbH) (n:ByteArray):Nat→List AV→Mem→Zbj
 | 2,tm,M=>⟨Nat,fun y=>(Zcn (ZcC tm [(4, .any),(5, .c (.int .i64 ((y:Nat):Int)))]) 6 24,M),fun y=>(y≤List.length qu.1∧∀ j,j < y→¬ ((Zaf qu.1 j).1=2∧(Zaf qu.1 j).2.2.2=n)),fun y=>(List.length qu.1 - y)⟩
 | _,_,_=>⟨Unit,fun _=>([],[]),fun _=>False,fun _=>0⟩
def ZB6 (qu:ZbH) (n:ByteArray) (y0:Nat):Prop:=T3 (∃ y0' : Nat,(y0'≤qu.1.length∧∀ j,j < y0'→¬ ((Zaf qu.1 j).1=2∧(Zaf qu.1 j).2.2.2=n))∧(qu.1.length - y0') < (qu.1.length - y0)∧lxs [.ag [.hs .no Zal qu.1, .bool qu.2.1, .bool qu.2.2], .c (.str n), .c (.bp 0 0), .tp []] (True∧vI (w64 ((y0:Int) + 1)) y0'∧TN 24 True)∧pt (lb (.box [.hs .no Zal qu.1, .bool qu.2.1, .bool qu.2.2])∧True))
theorem ZuF (qu:ZbH) (n:ByteArray):Zam Tryz.prog 156 [.ag [.hs .no Zal qu.1, .bool qu.2.1, .bool qu.2.2], .c (.str n)] (.c (.bool (Zsj qu.1 n))) []:=by
 refine bc0 [] [] [] [] (ZuE qu n) Tryz.func156 (fun hwf=>?_)
 refine Eq.mpr (β:=T3 ((∃ q:Nat,(q≤qu.1.length∧∀ j,j < q→¬ ((Zaf qu.1 j).1=2∧(Zaf qu.1 j).2.2.2=n))∧lxs [.ag [.hs .no Zal qu.1, .bool qu.2.1, .bool qu.2.2], .c (.str n), .c (.bp 0 0), .tp []] (True∧vI 0 q∧TN 24 True)∧pt (lb (.box [.hs .no Zal qu.1, .bool qu.2.1, .bool qu.2.2])∧True))∧∀ y0:Nat,(y0≤qu.1.length∧∀ j,j < y0→¬ ((Zaf qu.1 j).1=2∧(Zaf qu.1 j).2.2.2=n))→T5 (bif ltI y0 qu.1.length then T3 (ix 4 y0 qu.1.length∧T4 (bif eqI (Zaf qu.1 y0).1 2 then T3 (ix 4 y0 qu.1.length∧T5 (bif eqS (Zaf qu.1 y0).2.2.2 n then True∧rB true (Zsj qu.1 n) else ZB6 qu n y0)) else True∧ZB6 qu n y0)) else True∧rB false (Zsj qu.1 n)))) (by kernel_rfl) ?_
 unfold ZB6 T3 T4 T5
 have hm:List.length qu.1≤maxLen:=hwf.1.1.1
 simp only [Zdq,eq_self]
 refine ⟨⟨0,⟨Nat.zero_le _,Za7⟩,rfl⟩,fun k hk=>⟨fun hlt=>?_,fun hge=>?_⟩⟩
 ·repeat' (first | apply And.intro | intro _)
  all_goals first
   | trivial
   | omega
   | exact (ZIb (k:=k) (by omega) ⟨by assumption,by assumption⟩).symm
   | exact ⟨k + 1,⟨by omega,ZaY hk.2 (fun h=>by first | omega | exact absurd h.1 (by assumption) | exact absurd h.2 (by assumption))⟩,by omega,ZbL (by omega)⟩
 ·obtain rfl:k=List.length qu.1:=by omega
  first | exact (ZEJ hk.2).symm | exact ⟨trivial,(ZEJ hk.2).symm⟩
def ZuG:ZaC Tryz.prog:=⟨156,[.s Zdz, .v ZaW],fun x=>True,fun x=>.c (.bool (Zsj x.1.1 x.2.1)),fun _=>[],fun x hx=>ZuF x.1 x.2.1,Tryz.call156⟩
def ZB7 (qu:ZbH):Nat→List AV→Mem→Zbj
 | 2,tm,M=>⟨Nat,fun y=>(Zcn (Zcn (ZcC tm [(9, .c (.int .i64 ((y:Nat):Int)))]) 2 4) 10 47,M),fun y=>(y≤List.length qu.1∧∀ j,j < y→Zv6 qu j=false),fun y=>(List.length qu.1 - y)⟩
 | _,_,_=>⟨Unit,fun _=>([],[]),fun _=>False,fun _=>0⟩
def ZB8 (qu:ZbH) (y0:Nat):Prop:=T2 (∃ y0' : Nat,(y0'≤qu.1.length∧∀ j,j < y0'→Zv6 qu j=false)∧(qu.1.length - y0') < (qu.1.length - y0)∧lxs [.ag [.hs .no Zal qu.1, .bool qu.2.1, .bool qu.2.2], .c (.bp 0 0)] (TN 4 (lxs [.c (.bp 0 0),hn Zal qu.1,ci qu.1.length] (vI (w64 ((y0:Int) + 1)) y0'∧TN 47 (tpn 4 True))))∧pt (lb (.box [.hs .no Zal qu.1, .bool qu.2.1, .bool qu.2.2])∧True))
def ZB9 (qu:ZbH) (y0:Nat):Prop:=T4 (bif eqI (Zaf qu.1 y0).1 2 then T3 (pt True∧T2 (bif ZFY (List.drop (Int.toNat 0) (List.take y0 qu.1)) (Zaf qu.1 y0) then True∧rB false (Zch qu) else ZB8 qu y0)) else T2 (ZB8 qu y0))
def ZCa (qu:ZbH) (y0:Nat):Prop:=True∧pt True∧True∧bif neI (Zaf qu.1 y0).1 1 then T5 (bif qu.2.2 then T2 (rB false (Zch qu)) else ZB9 qu y0) else T3 (ZB9 qu y0)
theorem ZCb (qu:ZbH):Zam Tryz.prog 97 [.ag [.hs .no Zal qu.1, .bool qu.2.1, .bool qu.2.2]] (.c (.bool (Zch qu))) []:=by
 refine bc0 [ZFU,Zgl,Zng,ZpF,Zdx] [] [] [] (ZB7 qu) Tryz.func97 (fun hwf=>?_)
 refine Eq.mpr (β:=T6 ((∃ q:Nat,(q≤qu.1.length∧∀ j,j < q→Zv6 qu j=false)∧lxs [.ag [.hs .no Zal qu.1, .bool qu.2.1, .bool qu.2.2], .c (.bp 0 0)] (TN 4 (lxs [.c (.bp 0 0),hn Zal qu.1,ci qu.1.length] (vI 0 q∧TN 47 (tpn 4 True))))∧pt (lb (.box [.hs .no Zal qu.1, .bool qu.2.1, .bool qu.2.2])∧True))∧∀ y0:Nat,(y0≤qu.1.length∧∀ j,j < y0→Zv6 qu j=false)→True∧bif ltI y0 qu.1.length then True∧ix 4 y0 qu.1.length∧T7 (((4:Nat)=4∧(0:Int)≤0∧(0:Int)≤(y0:Int)∧(y0:Int)≤(qu.1.length:Int))∧T3 (pt (true=true)∧True∧pt True∧T2 (bif !(Zda (Zaf qu.1 y0)) then T6 (rB false (Zch qu)) else True∧pt True∧True∧bif eqI (Zaf qu.1 y0).1 1 then T3 (bif qu.2.1 then T8 (rB false (Zch qu)) else T3 (pt True∧T5 (bif leI (Zaf qu.1 y0).2.1 (ZgK ((List.drop (Int.toNat 0) (List.take y0 qu.1)),false,false).1 (List.length ((List.drop (Int.toNat 0) (List.take y0 qu.1)),false,false).1)) then T4 (rB false (Zch qu)) else ZCa qu y0))) else T3 (ZCa qu y0)))) else T5 (rB (leI qu.1.length 6) (Zch qu)))) (by kernel_rfl) ?_
 unfold ZCa ZB9 ZB8 T2 T3 T4 T5 T6 T7 T8
 have hm:List.length qu.1≤maxLen:=hwf.1.1.1
 simp only [Zdq,eq_self]
 simp only [show Int.toNat 0=0 from rfl,List.drop_zero]
 refine ⟨⟨0,⟨Nat.zero_le _,Za7⟩,rfl⟩,fun k hk=>⟨fun hlt=>?_,fun hge=>?_⟩⟩
 ·repeat' (first | apply And.intro | intro _)
  all_goals as_aux_lemma=>first
   | trivial
   | omega
   | exact (ZsM (i:=k) (by omega) (by rw [← ZIc (by omega) hk.2]; simp_all [ZOw,ZaJ,ZaT,ZbT,Zbs,Zce,ZcL])).symm
   | exact ⟨k + 1,⟨by omega,ZaY hk.2 (by rw [← ZIc (by omega) hk.2]; simp_all [ZOw,ZaJ,ZaT,ZbT,Zbs,Zce,ZcL])⟩,by omega,ZbL (by omega)⟩
 ·exact ZzY
def ZCc:ZaC Tryz.prog:=⟨97,[.s Zdz],fun x=>True,fun x=>.c (.bool (Zch x.1)),fun _=>[],fun x hx=>ZCb x.1,Tryz.call97⟩
def ZCd (qu:ZbH):Nat→List AV→Mem→Zbj
 | 2,tm,M=>⟨Nat,fun y=>(Zcn (ZcC tm [(2, .any),(3, .c (.int .i64 ((y:Nat):Int)))]) 4 59,M),fun y=>(y≤List.length qu.1∧∀ j,j < y→Zv6 qu j=false),fun y=>(List.length qu.1 - y)⟩
 | _,_,_=>⟨Unit,fun _=>([],[]),fun _=>False,fun _=>0⟩
def ZCe (qu:ZbH) (y0:Nat):Prop:=T3 (∃ y0' : Nat,(y0'≤qu.1.length∧∀ j,j < y0'→Zv6 qu j=false)∧(qu.1.length - y0') < (qu.1.length - y0)∧lxs [.ag [.hs .no Zal qu.1, .bool qu.2.1, .bool qu.2.2], .c (.bp 0 0)] (True∧vI (w64 ((y0:Int) + 1)) y0'∧TN 59 (tpn 4 True))∧pt (lb (.box [.hs .no Zal qu.1, .bool qu.2.1, .bool qu.2.2])∧True))
def ZCf (qu:ZbH) (y0:Nat):Prop:=T4 (bif eqI (Zaf qu.1 y0).1 2 then T3 (pt True∧T2 (bif Zsj ((List.drop (Int.toNat 0) (List.take y0 qu.1)),false,false).1 (Zaf qu.1 y0).2.2.2 then True∧rB false (Zch qu) else ZCe qu y0)) else T2 (ZCe qu y0))
def ZCg (qu:ZbH) (y0:Nat):Prop:=T3 (bif !(eqI (Zaf qu.1 y0).1 1) then T5 (bif qu.2.2 then T2 (rB false (Zch qu)) else ZCf qu y0) else T3 (ZCf qu y0))
theorem ZCh (qu:ZbH):Zam Tryz.prog 77 [.ag [.hs .no Zal qu.1, .bool qu.2.1, .bool qu.2.2]] (.c (.bool (Zch qu))) []:=by
 refine bc0 [ZFW,ZwN,ZuG] [] [] [] (ZCd qu) Tryz.func77 (fun hwf=>?_)
 refine Eq.mpr (β:=T3 ((∃ q:Nat,(q≤qu.1.length∧∀ j,j < q→Zv6 qu j=false)∧lxs [.ag [.hs .no Zal qu.1, .bool qu.2.1, .bool qu.2.2], .c (.bp 0 0)] (True∧vI 0 q∧TN 59 (tpn 4 True))∧pt (lb (.box [.hs .no Zal qu.1, .bool qu.2.1, .bool qu.2.2])∧True))∧∀ y0:Nat,(y0≤qu.1.length∧∀ j,j < y0→Zv6 qu j=false)→T5 (bif ltI y0 qu.1.length then T3 (ix 4 y0 qu.1.length∧T6 (((4:Nat)=4∧(0:Int)≤0∧(0:Int)≤(y0:Int)∧(y0:Int)≤(qu.1.length:Int))∧T8 (pt True∧T2 (bif !(Zda (Zaf qu.1 y0)) then T6 (rB false (Zch qu)) else T2 (bif eqI (Zaf qu.1 y0).1 1 then T3 (bif qu.2.1 then T8 (rB false (Zch qu)) else T3 (pt True∧T5 (bif !(Zi2 ((List.drop (Int.toNat 0) (List.take y0 qu.1)),false,false).1 (Zaf qu.1 y0).2.1) then T4 (rB false (Zch qu)) else ZCg qu y0))) else T3 (ZCg qu y0)))))) else T5 (rB (leI qu.1.length 6) (Zch qu))))) (by kernel_rfl) ?_
 unfold ZCg ZCf ZCe T2 T3 T4 T5 T6 T8
 have hm:List.length qu.1≤maxLen:=hwf.1.1.1
 simp only [Zdq,eq_self]
 simp only [show Int.toNat 0=0 from rfl,List.drop_zero]
 refine ⟨⟨0,⟨Nat.zero_le _,Za7⟩,rfl⟩,fun k hk=>⟨fun hlt=>?_,fun hge=>?_⟩⟩
 ·repeat' (first | apply And.intro | intro _)
  all_goals as_aux_lemma=>first
   | trivial
   | omega
   | exact (ZsM (i:=k) (by omega) (by simp_all [Zv6,ZaJ,ZaT,ZbT,Zbs])).symm
   | exact ⟨k + 1,⟨by omega,ZaY hk.2 (by simp_all [Zv6,ZaJ,ZaT,ZbT,Zbs])⟩,by omega,ZbL (by omega)⟩
 ·exact ZzY
def ZeB:ZaC Tryz.prog:=⟨77,[.s Zdz],fun x=>True,fun x=>.c (.bool (Zch x.1)),fun _=>[],fun x hx=>ZCh x.1,Tryz.call77⟩
end Go.Proofs.YtkompmgleojmlaaGreat
