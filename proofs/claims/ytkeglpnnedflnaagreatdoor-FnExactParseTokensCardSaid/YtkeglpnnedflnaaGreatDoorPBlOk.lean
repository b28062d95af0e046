import Derived.Test.YtkeglpnnedflnaaGreatDoorPBmTy
import Derived.Shelf.Strings.Search3
import Derived.Test.YtkeglpnnedflnaaGreatDoorPLawA
import Derived.Lib.IndexMore
import Derived.Test.YtkeglpnnedflnaaGreatDoorPBlLib
set_option linter.unusedSimpArgs false
set_option linter.unusedVariables false
namespace Go.Proofs.YtkeglpnnedflnaaGreatDoor
open Go.ChangeShapes Go.WideShapes Go.ChangeAt Go.RowKit Go.Joins Go.Deep
open GoRep (rep bulk)
def ZP0:Go.Shelf.Ren:=⟨fun | 143=>190 | 144=>143 | 217=>211 | 219=>196 | 224=>213 | 225=>212 | 266=>219 | 267=>214 | 314=>220 | n=>n,
 fun | 3=>3 | 4=>4 | 5=>5 | 9=>9 | 46=>148 | 51=>175 | 146=>176 | n=>n,
 fun | 1=>0 | n=>n⟩
open Go.Shelf in
theorem ZM2:Lays.n144 Tryz.prog ZP0 where
 mixed:=by kernel_rfl
 f143:=Tryz.func190.trans (congrArg some (by kernel_rfl))
 f144:=Tryz.func143.trans (congrArg some (by kernel_rfl))
 f217:=Tryz.func211.trans (congrArg some (by kernel_rfl))
 f219:=Tryz.func196.trans (congrArg some (by kernel_rfl))
 f224:=Tryz.func213.trans (congrArg some (by kernel_rfl))
 f225:=Tryz.func212.trans (congrArg some (by kernel_rfl))
 f266:=Tryz.func219.trans (congrArg some (by kernel_rfl))
 f267:=Tryz.func214.trans (congrArg some (by kernel_rfl))
 f314:=Tryz.func220.trans (congrArg some (by kernel_rfl))
 t3:=Tryz.underlying3
 a3:=Tryz.isAgg3
 z3:=Tryz.sizeOf3
 v3:=Tryz.zeroValue3
 t4:=Tryz.underlying4
 a4:=Tryz.isAgg4
 z4:=Tryz.sizeOf4
 v4:=Tryz.zeroValue4
 t5:=Tryz.underlying5
 a5:=Tryz.isAgg5
 z5:=Tryz.sizeOf5
 v5:=Tryz.zeroValue5
 t9:=Tryz.underlying9
 a9:=Tryz.isAgg9
 z9:=Tryz.sizeOf9
 v9:=Tryz.zeroValue9
 t46:=Tryz.underlying148
 a46:=Tryz.isAgg148
 z46:=Tryz.sizeOf148
 v46:=Tryz.zeroValue148
 t51:=Tryz.underlying175
 a51:=Tryz.isAgg175
 z51:=Tryz.sizeOf175
 v51:=Tryz.zeroValue175
 t146:=Tryz.underlying176
 a146:=Tryz.isAgg176
 z146:=Tryz.sizeOf176
 v146:=Tryz.zeroValue176
 g1:=by kernel_rfl
def ZIb (s t:ByteArray):Bool:=Lib.contains s.data.toList t.data.toList
theorem ZjH (s t:ByteArray) (h:s.size < 4294967281):Zaq Tryz.prog 143 [.c (.str s), .c (.str t)] (.c (.bool (ZIb s t))) []:=by
 intro X W vs hX hgl hr
 obtain ⟨v,r,rfl,⟨rfl,hw⟩,u,r2,rfl,⟨rfl,hu⟩,hn⟩:=hr
 obtain rfl:r2=[]:=hn
 obtain ⟨m,hm⟩:=hgl.int (g:=0) (by simp [globs])
 refine (Any.strings_Contains ZM2 s t m W h hm).mono fun e W' he=>?_
 obtain ⟨rfl,rfl⟩:=he
 exact ⟨_,[],rfl,Zbb.refl W' [],ZE8 hX,rfl⟩
def ZjI:ZaD Tryz.prog:=⟨143,[.v Zah, .v Zah],fun x=>ByteArray.size x.1 < 4294967281,fun x=>.c (.bool (ZIb x.1 x.2.1)),fun _=>[],fun x hx=>ZjH x.1 x.2.1 hx,Tryz.call143⟩
theorem ZG6:∀ (x y:List UInt8),(Op.bytesLess x y || decide (x=y))=!Op.bytesLess y x
 | [],[]=>by simp [Op.bytesLess]
 | _ :: _,[]=>by simp [Op.bytesLess]
 | [],_ :: _=>by simp [Op.bytesLess]
 | a :: x,b :: y=>by
  have ih:=ZG6 x y
  rw [Op.bytesLess,Op.bytesLess]
  rcases Nat.lt_trichotomy a.toNat b.toNat with h | h | h
  ·have h1:a < b:=h
   have h2:¬ b < a:=fun h'=>by have:b.toNat < a.toNat:=h'; omega
   exact Zv8
  ·have e:a=b:=UInt8.toNat_inj.1 h
   subst e
   have h2:¬ a < a:=fun h'=>by have:a.toNat < a.toNat:=h'; omega
   simpa [h2] using ih
  ·have h1:b < a:=h
   have h2:¬ a < b:=fun h'=>by have:a.toNat < b.toNat:=h'; omega
   exact Zv8
theorem ZKm (a b:ByteArray):(Op.bytesLess a.toList b.toList || decide (a=b))=!Op.bytesLess b.toList a.toList:=by
 rw [← ZG6]
 congr 1
 rw [decide_eq_decide,ByteArray.toList_eq,ByteArray.toList_eq]
 exact ⟨fun h=>by rw [h],fun h=>ByteArray.ext (Array.toList_inj.1 h)⟩
theorem Zf8 {s:ByteArray} {i:Nat} (h:i < s.size):∃ b,s.data.toList[i]?=some b∧Zap s i=(b.toNat:Nat):=by
 have hl:i < s.data.toList.length:=h
 refine ⟨s.data.toList[i],List.getElem?_eq_getElem hl,?_⟩
 unfold Zap
 rw [List.getD_eq_getElem?_getD,List.getElem?_eq_getElem hl]
 rfl
theorem ZjJ (s:ByteArray) (i:Nat):0≤Zap s i∧Zap s i≤255:=by
 unfold Zap
 have:=(s.data.toList.getD i 0).toNat_lt
 omega
theorem ZCs (l:List UInt8) (a b:UInt8) (i:Nat):Lib.occAt l [a,b] i=true↔l[i]?=some a∧l[i + 1]?=some b:=by
 unfold Lib.occAt
 have h0:(l.drop i)[0]?=l[i]?:=by rw [List.getElem?_drop]; rfl
 have h1:(l.drop i)[1]?=l[i + 1]?:=by rw [List.getElem?_drop]
 rw [← h0,← h1]
 cases l.drop i with
 | nil=>simp
 | cons x r =>
  cases r with
  | nil=>simp [List.isPrefixOf]
  | cons y r =>
   simp only [List.isPrefixOf,Bool.and_true,Bool.and_eq_true,beq_iff_eq,List.getElem?_cons_zero,List.getElem?_cons_succ,Option.some.injEq]
   exact ⟨fun h=>⟨h.1.symm,h.2.symm⟩,fun h=>⟨h.1.symm,h.2.symm⟩⟩
theorem Znb (s:ByteArray):ZIb s (⟨#[47,47]⟩:ByteArray)=true↔∃ i,i + 1 < s.size∧Zap s i=47∧Zap s (i + 1)=47:=by
 have hb:∀ i,i < s.size→(Zap s i=47↔s.data.toList[i]?=some 47):=fun i hi=>by
  obtain ⟨b,h1,h2⟩:=Zf8 hi
  rw [h1,h2]
  constructor
  ·intro h
   have:b.toNat=47:=by omega
   exact congrArg some (UInt8.toNat_inj.1 this)
  ·intro h
   obtain rfl:=Option.some.inj h
   rfl
 have hlen:s.data.toList.length=s.size:=rfl
 show Lib.contains s.data.toList [47,47]=true↔_
 unfold Lib.contains
 rw [decide_eq_true_eq]
 rcases Lib.index_spec s.data.toList [47,47] with ⟨h1,h2⟩ | ⟨i,h1,h2,h3,_⟩
 ·constructor
  ·intro h; omega
  ·rintro ⟨i,hi,ha,hc⟩
   have:=h2 i (by omega)
   rw [(ZCs _ _ _ _).2 ⟨(hb i (by omega)).1 ha,(hb (i + 1) hi).1 hc⟩] at this
   cases this
 ·constructor
  ·intro _
   obtain ⟨ha,hc⟩:=(ZCs _ _ _ _).1 h3
   have hi:i + 1 < s.size:=(List.getElem?_eq_some_iff.1 hc).1
   exact ⟨i,hi,(hb i (by omega)).2 ha,(hb (i + 1) hi).2 hc⟩
  ·intro _; omega
def ZiB (s:ByteArray) (i:Nat):Prop:=(Zap s i=47∧(i=0∨i + 1=s.size∨Zap s (i - 1)=47))∨(Zap s i ≠ 47∧(Zap s i < 97∨122 < Zap s i))
instance (s:ByteArray) (i:Nat):Decidable (ZiB s i):=by unfold ZiB; infer_instance
def Zbn (s:ByteArray):Bool:=decide ((∀ i,i < s.size→¬ ZiB s i)∧1≤s.size∧s.size≤12)
theorem Zhq {s:ByteArray} {i:Nat} (hi:i < s.size) (h:ZiB s i):Zbn s=false:=decide_eq_false fun q=>q.1 i hi h
theorem Zk6 {s:ByteArray} (h:∀ i,i < s.size→¬ ZiB s i):Zbn s=btw (s.size:Nat) 1 12:=by
 unfold Zbn
 exact ZvU
theorem ZwO {s:ByteArray} (h:btw (s.size:Nat) 1 12=false):Zbn s=false:=decide_eq_false fun q=>by rw [Zbi] at h; omega
def upI (x:Int):Int:=if 97≤x∧x≤122 then x - 32 else x
def upB (x:UInt8):UInt8:=if 97≤x.toNat∧x.toNat≤122 then x - 32 else x
def upT (s:ByteArray):ByteArray:=⟨s.data.map upB⟩
theorem ZmH (s:ByteArray):(upT s).size=s.size:=by show (s.data.map upB).size=s.data.size; simp
theorem ZIc (x:UInt8):((upB x).toNat:Int)=upI x.toNat:=by
 unfold upB upI
 split
 ·rw [if_pos (by omega),UInt8.toNat_sub]
  simp
  omega
 ·rw [if_neg (by omega)]
theorem ZG7 {s:ByteArray} {i:Nat} (h:i < s.size):Zap (upT s) i=upI (Zap s i):=by
 obtain ⟨b,h1,h2⟩:=Zf8 h
 obtain ⟨c,h3,h4⟩:=Zf8 (s:=upT s) (i:=i) (by rw [ZmH]; exact h)
 rw [h2,h4,← ZIc]
 have:(upT s).data.toList[i]?=some (upB b):=by
  show (s.data.map upB).toList[i]?=_
  rw [Array.toList_map,List.getElem?_map,h1]
  rfl
 rw [this] at h3
 obtain rfl:=Option.some.inj h3
 rfl
theorem ZId {s:ByteArray} {i:Nat} (h:i < s.size):(s.extract i (i + 1)).size=1∧Zap (s.extract i (i + 1)) 0=Zap s i:=by
 have hs:(s.extract i (i + 1)).size=1:=by rw [ByteArray.size_extract]; omega
 refine ⟨hs,?_⟩
 obtain ⟨b,h1,h2⟩:=Zf8 h
 obtain ⟨c,h3,h4⟩:=Zf8 (s:=s.extract i (i + 1)) (i:=0) (by omega)
 rw [h2,h4]
 have:(s.extract i (i + 1)).data.toList[0]?=some b:=by
  rw [ByteArray.data_extract,Array.toList_extract,List.extract_eq_take_drop,List.getElem?_take,if_pos (by omega),List.getElem?_drop]
  exact h1
 rw [this] at h3
 obtain rfl:=Option.some.inj h3
 rfl
theorem ZKn {s:ByteArray} {i:Nat} (h:i < s.size):(upT (s.extract i (i + 1))).size=1∧Zap (upT (s.extract i (i + 1))) 0=upI (Zap s i):=by
 have:=ZId h
 exact ⟨by rw [ZmH]; exact this.1,by rw [ZG7 (by omega),this.2]⟩
def Zhr (x:Int):Prop:=¬ ((97≤x∧x≤122)∨(65≤x∧x≤90)∨(48≤x∧x≤57))
instance (x:Int):Decidable (Zhr x):=by unfold Zhr; infer_instance
def ZgD (s:ByteArray):Bool:=decide ((∀ i,i < s.size→¬ Zhr (Zap s i))∧1≤s.size∧s.size≤8)
theorem Zza {s:ByteArray} {i:Nat} (hi:i < s.size) (h:Zhr (Zap s i)):ZgD s=false:=decide_eq_false fun q=>q.1 i hi h
theorem Zs1 {s:ByteArray} (h:∀ i,i < s.size→¬ Zhr (Zap s i)):ZgD s=btw (s.size:Nat) 1 8:=by
 unfold ZgD
 exact ZvU
set_option maxRecDepth 100000
set_option maxHeartbeats 4000000
theorem Zqd (n:Int) (lo:Int) (hi:Int):Zaq Tryz.prog 124 [.c (.int .i64 n), .c (.int .i64 lo), .c (.int .i64 hi)] (.c (.bool (btw n lo hi))) []:=by
 refine bc0 [] [] [] [] L0 Tryz.func124 (fun hwf=>?_)
 exact Zu2
def ZcW:ZaD Tryz.prog:=⟨124,[.v ZaF, .v ZaF, .v ZaF],fun x=>True,fun x=>.c (.bool (btw x.1 x.2.1 x.2.2.1)),fun _=>[],fun x hx=>Zqd x.1 x.2.1 x.2.2.1,Tryz.call124⟩
theorem ZFj (n:Int) (lo:Int) (hi:Int):Zaq Tryz.prog 52 [.c (.int .i64 n), .c (.int .i64 lo), .c (.int .i64 hi)] (.c (.bool (btw n lo hi))) []:=by
 refine bc0 [] [] [] [] L0 Tryz.func52 (fun hwf=>?_)
 exact Zu2
def ZeQ:ZaD Tryz.prog:=⟨52,[.v ZaF, .v ZaF, .v ZaF],fun x=>True,fun x=>.c (.bool (btw x.1 x.2.1 x.2.2.1)),fun _=>[],fun x hx=>ZFj x.1 x.2.1 x.2.2.1,Tryz.call52⟩
def ZE0 (x:Int):Prop:=x=47∨(97≤x∧x≤122)
theorem ZIe {s:ByteArray} {i:Nat} (hi:i < s.size) (h:¬ ZE0 (Zap s i)):Zbn s=false:=Zhq hi (by unfold ZE0 at h; unfold ZiB; right; omega)
theorem ZFk {s:ByteArray} (hi:1≤s.size) (h:Zap s 0=47):Zbn s=false:=Zhq (i:=0) (by omega) (by unfold ZiB; left; omega)
theorem ZIf {s:ByteArray} (hi:1≤s.size) (h:Zap s (s.size - 1)=47):Zbn s=false:=Zhq (i:=s.size - 1) (by omega) (by unfold ZiB; left; omega)
theorem ZKo {s:ByteArray} (hc:∀ j,j < s.size→ZE0 (Zap s j)) (hb:btw ((s.size:Nat):Int) 1 12=true) (h0:¬ Zap s 0=47) (h1:¬ Zap s (s.size - 1)=47):(!ZIb s (⟨#[47,47]⟩:ByteArray))=Zbn s:=by
 cases hs:ZIb s (⟨#[47,47]⟩:ByteArray) with
 | true =>
  obtain ⟨i,hi,ha,hb'⟩:=(Znb s).1 hs
  exact (Zhq (i:=i + 1) hi (by unfold ZiB; left; exact ⟨hb', .inr (.inr (by simpa using ha))⟩)).symm
 | false =>
  rw [Zk6,hb]
  ·rfl
  ·intro i hi hbad
   have hci:=hc i hi
   unfold ZiB at hbad
   unfold ZE0 at hci
   rcases hbad with ⟨q,rfl | q2 | q2⟩ | ⟨q,q2⟩
   ·exact h0 q
   ·exact h1 (by rw [show s.size - 1=i by omega]; exact q)
   ·have h2:ZIb s (⟨#[47,47]⟩:ByteArray)=true:=(Znb s).2 ⟨i - 1,by
     have:i ≠ 0:=fun e=>by subst e; exact h0 q
     omega,q2,by
     have:i ≠ 0:=fun e=>by subst e; exact h0 q
     rw [show i - 1 + 1=i by omega]; exact q⟩
    rw [hs] at h2
    cases h2
   ·omega
def ZAG (s:ByteArray):Nat→List AV→Mem→Zbe
 | 2,tm,M=>⟨Nat,fun y=>(Zcp (ZcG tm [(2, .any),(3, .any),(6, .c (.int .i64 ((y:Nat):Int)))]) 7 19,M),fun y=>(y≤ByteArray.size s∧∀ j,j < y→ZE0 (Zap s j)),fun y=>(ByteArray.size s - y)⟩
 | _,_,_=>⟨Unit,fun _=>([],[]),fun _=>False,fun _=>0⟩
def ZwP (s:ByteArray) (y0:Nat):Prop:=T2 (∃ y0' : Nat,(y0'≤s.size∧∀ j,j < y0'→ZE0 (Zap s j))∧(s.size - y0') < (s.size - y0)∧lxs [.c (.str s), .tp []] (True∧True∧lxs [.c (.str s),ci s.size] (vI (w64 ((y0:Int) + 1)) y0'∧TN 19 (tpn 21 True)))∧pt (True))
def Zrq (y0:Nat) (s:ByteArray):Prop:=(0:Int)≤(y0:Int)∧(y0:Int) < (s.size:Int)
theorem ZAH (s:ByteArray):Zaq Tryz.prog 84 [.c (.str s)] (.c (.bool (Zbn s))) []:=by
 refine bc0 [ZcW,ZjI] [] [] [] (ZAG s) Tryz.func84 (fun hwf=>?_)
 refine Eq.mpr (β:=T4 ((∃ q:Nat,(q≤s.size∧∀ j,j < q→ZE0 (Zap s j))∧lxs [.c (.str s), .tp []] (True∧True∧lxs [.c (.str s),ci s.size] (vI 0 q∧TN 19 (tpn 21 True)))∧pt (True))∧∀ y0:Nat,(y0≤s.size∧∀ j,j < y0→ZE0 (Zap s j))→True∧bif ltI y0 s.size then T4 (Zrq y0 s∧T2 (bif neI (Zap s y0) 47 then T2 (Zrq y0 s∧T2 (bif ltI (Zap s y0) 97 then T3 (rB false (Zbn s)) else T2 (Zrq y0 s∧T3 (bif gtI (Zap s y0) 122 then True∧rB false (Zbn s) else ZwP s y0)))) else True∧ZwP s y0)) else T2 (pt True∧True∧bif btw (s.size:Int) 1 12 then True∧((0:Int)≤0∧(0:Int) < (s.size:Int))∧T3 (bif neI (Zap s (Int.toNat 0)) 47 then T4 (((0:Int)≤(w64 ((s.size:Int) - 1))∧((w64 ((s.size:Int) - 1)):Int) < (s.size:Int))∧T3 (bif neI (Zap s (Int.toNat (w64 ((s.size:Int) - 1)))) 47 then True∧pt (s.size < 4294967281)∧T3 (rB (!(ZIb s (⟨#[47,47]⟩:ByteArray))) (Zbn s)) else T2 (rB false (Zbn s)))) else T4 (rB false (Zbn s))) else T6 (rB false (Zbn s))))) (by kernel_rfl) ?_
 unfold Zrq ZwP T2 T3 T4 T6
 have hm:s.size≤maxLen:=hwf.1
 unfold maxLen at hm
 have e1:1≤s.size→Int.toNat (IntKind.wrap .i64 ((ByteArray.size s:Int) - 1))=s.size - 1:=fun h=>by rw [Zb9 (by omega) (by omega)]; omega
 have e2:IntKind.wrap .i64 ((ByteArray.size s:Int) - 1)=(ByteArray.size s:Int) - 1:=Zb9 (by omega) (by omega)
 simp only [Zdj,eq_self]
 refine ⟨⟨0,⟨Nat.zero_le _,fun j hj=>absurd hj (Nat.not_lt_zero j)⟩,rfl⟩,fun k hk=>⟨fun hlt=>?_,fun hge=>?_⟩⟩
 ·have hb:=ZjJ s k
  repeat' (first | apply And.intro | intro _)
  all_goals first
   | trivial
   | omega
   | exact (ZIe (i:=k) (by omega) (by unfold ZE0; omega)).symm
   | exact ⟨k + 1,⟨by omega,fun j hj=>if h:j < k then hk.2 j h else by obtain rfl:j=k:=(by omega); unfold ZE0; omega⟩,by omega,Zbm (by unfold maxLen; omega)⟩
 ·obtain rfl:k=s.size:=by omega
  repeat' (first | apply And.intro | intro _)
  all_goals first
   | trivial
   | (rw [Zaz] at *; omega)
   | (have hb1:=Zaz.1 (by assumption:btw (ByteArray.size s:Int) 1 12=true); first | omega | (rw [e1 (by omega)] at *; first | exact ZKo hk.2 (by assumption) (by assumption) (by assumption) | exact (ZIf (by omega) (by assumption)).symm) | exact (ZFk (by omega) (by assumption)).symm)
   | exact (ZwO (by assumption)).symm
def Zqe:ZaD Tryz.prog:=⟨84,[.v Zah],fun x=>True,fun x=>.c (.bool (Zbn x.1)),fun _=>[],fun x hx=>ZAH x.1,Tryz.call84⟩
def ZAI (s:ByteArray):Nat→List AV→Mem→Zbe
 | 2,tm,M=>⟨Nat,fun y=>(Zcp (ZcG tm [(2, .any),(3, .c (.int .i64 ((y:Nat):Int)))]) 4 36,M),fun y=>(y≤ByteArray.size s∧∀ j,j < y→¬ ZiB s j),fun y=>(ByteArray.size s - y)⟩
 | _,_,_=>⟨Unit,fun _=>([],[]),fun _=>False,fun _=>0⟩
def ZwQ (s:ByteArray) (y0:Nat):Prop:=T3 (∃ y0' : Nat,(y0'≤s.size∧∀ j,j < y0'→¬ ZiB s j)∧(s.size - y0') < (s.size - y0)∧lxs [.c (.str s), .tp []] (True∧vI (w64 ((y0:Int) + 1)) y0'∧TN 36 (tpn 3 True))∧pt (True))
def Zrr (y0:Nat) (s:ByteArray):Prop:=(0:Int)≤(y0:Int)∧(y0:Int) < (s.size:Int)
theorem ZAJ (s:ByteArray):Zaq Tryz.prog 55 [.c (.str s)] (.c (.bool (Zbn s))) []:=by
 refine bc0 [ZeQ] [] [] [] (ZAI s) Tryz.func55 (fun hwf=>?_)
 refine Eq.mpr (β:=T2 ((∃ q:Nat,(q≤s.size∧∀ j,j < q→¬ ZiB s j)∧lxs [.c (.str s), .tp []] (True∧vI 0 q∧TN 36 (tpn 3 True))∧pt (True))∧∀ y0:Nat,(y0≤s.size∧∀ j,j < y0→¬ ZiB s j)→T4 (bif ltI y0 s.size then T2 (Zrr y0 s∧True∧bif eqI (Zap s y0) 47 then T3 (bif eqI y0 0 then T4 (rB false (Zbn s)) else T7 (bif eqI y0 (w64 ((s.size:Int) - 1)) then T2 (rB false (Zbn s)) else T3 (((0:Int)≤(w64 ((y0:Int) - 1))∧((w64 ((y0:Int) - 1)):Int) < (s.size:Int))∧T2 (bif eqI (Zap s (Int.toNat (w64 ((y0:Int) - 1)))) 47 then True∧rB false (Zbn s) else ZwQ s y0)))) else T2 (Zrr y0 s∧T2 (bif ltI (Zap s y0) 97 then T2 (rB false (Zbn s)) else T2 (Zrr y0 s∧T2 (bif gtI (Zap s y0) 122 then True∧rB false (Zbn s) else ZwQ s y0))))) else T2 (pt True∧True∧rB (btw (s.size:Int) 1 12) (Zbn s))))) (by kernel_rfl) ?_
 unfold Zrr ZwQ T2 T3 T4 T7
 have hm:s.size≤maxLen:=hwf.1
 unfold maxLen at hm
 have e2:IntKind.wrap .i64 ((ByteArray.size s:Int) - 1)=(ByteArray.size s:Int) - 1:=Zb9 (by omega) (by omega)
 simp only [Zdj,eq_self]
 refine ⟨⟨0,⟨Nat.zero_le _,fun j hj=>absurd hj (Nat.not_lt_zero j)⟩,rfl⟩,fun k hk=>⟨fun hlt=>?_,fun hge=>?_⟩⟩
 ·have hb:=ZjJ s k
  have e3:IntKind.wrap .i64 (((k:Nat):Int) - 1)=((k:Nat):Int) - 1:=Zb9 (by omega) (by omega)
  have e4:1≤k→Int.toNat (((k:Nat):Int) - 1)=k - 1:=fun h=>by omega
  try simp only [Zz6]
  simp only [e2,e3]
  repeat' (first | apply And.intro | intro _)
  all_goals first
   | trivial
   | omega
   | exact (Zhq (i:=k) (by omega) (by unfold ZiB; first | (right; omega) | (left; refine ⟨by assumption,?_⟩; first | (left; omega) | (right; left; omega) | (right; right; rw [← e4 (by omega)]; assumption)))).symm
   | exact ⟨k + 1,⟨by omega,fun j hj=>if h:j < k then hk.2 j h else by obtain rfl:j=k:=(by omega); unfold ZiB; first | (rintro (⟨q,q2⟩ | ⟨q,q2⟩) <;> omega) | (rw [e4 (by omega)] at *; rintro (⟨q,rfl | q2 | q2⟩ | ⟨q,q2⟩) <;> first | omega | contradiction)⟩,by omega,Zbm (by unfold maxLen; omega)⟩
 ·obtain rfl:k=s.size:=by omega
  first | exact (Zk6 hk.2).symm | exact ⟨trivial,(Zk6 hk.2).symm⟩
def Zqf:ZaD Tryz.prog:=⟨55,[.v Zah],fun x=>True,fun x=>.c (.bool (Zbn x.1)),fun _=>[],fun x hx=>ZAJ x.1,Tryz.call55⟩
end Go.Proofs.YtkeglpnnedflnaaGreatDoor
