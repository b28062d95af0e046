import Derived.Test.YtafhbjjcpncfnaaGreatIBmTy
import Derived.Shelf.Strings.Search3
import Derived.Test.YtafhbjjcpncfnaaGreatILawA
import Derived.Lib.IndexMore
import Derived.Test.YtafhbjjcpncfnaaGreatIBlLib
set_option linter.unusedSimpArgs false
set_option linter.unusedVariables false
namespace Go.Proofs.YtafhbjjcpncfnaaGreat
open Go.ChangeShapes Go.WideShapes Go.ChangeAt Go.RowKit Go.Joins Go.Deep
open GoRep (rep bulk)
def ZPi:Go.Shelf.Ren:=⟨fun | 143=>256 | 144=>242 | 217=>264 | 219=>262 | 224=>266 | 225=>265 | 266=>268 | 267=>267 | 314=>269 | n=>n,
 fun | 3=>3 | 4=>4 | 5=>5 | 9=>9 | 46=>246 | 51=>257 | 146=>271 | n=>n,
 fun | 1=>0 | n=>n⟩
open Go.Shelf in
theorem ZOH:Lays.n144 Tryz.prog ZPi where
 mixed:=by kernel_rfl
 f143:=Tryz.func256.trans (congrArg some (by kernel_rfl))
 f144:=Tryz.func242.trans (congrArg some (by kernel_rfl))
 f217:=Tryz.func264.trans (congrArg some (by kernel_rfl))
 f219:=Tryz.func262.trans (congrArg some (by kernel_rfl))
 f224:=Tryz.func266.trans (congrArg some (by kernel_rfl))
 f225:=Tryz.func265.trans (congrArg some (by kernel_rfl))
 f266:=Tryz.func268.trans (congrArg some (by kernel_rfl))
 f267:=Tryz.func267.trans (congrArg some (by kernel_rfl))
 f314:=Tryz.func269.trans (congrArg some (by kernel_rfl))
 t3:=Tryz.underlying3
 a3:=Tryz.isAgg3
 z3:=Tryz.sizeOf3
 v3:=Tryz.zeroValue3
 t4:=Tryz.underlying4
 a4:=Tryz.isAgg4
 z4:=Tryz.sizeOf4
 v4:=Tryz.zeroValue4
 t5:=Tryz.underlying5
 a5:=Tryz.isAgg5
 z5:=Tryz.sizeOf5
 v5:=Tryz.zeroValue5
 t9:=Tryz.underlying9
 a9:=Tryz.isAgg9
 z9:=Tryz.sizeOf9
 v9:=Tryz.zeroValue9
 t46:=Tryz.underlying246
 a46:=Tryz.isAgg246
 z46:=Tryz.sizeOf246
 v46:=Tryz.zeroValue246
 t51:=Tryz.underlying257
 a51:=Tryz.isAgg257
 z51:=Tryz.sizeOf257
 v51:=Tryz.zeroValue257
 t146:=Tryz.underlying271
 a146:=Tryz.isAgg271
 z146:=Tryz.sizeOf271
 v146:=Tryz.zeroValue271
 g1:=by kernel_rfl
def ZMb (s t:ByteArray):Bool:=Lib.contains s.data.toList t.data.toList
theorem Zl2 (s t:ByteArray) (h:s.size < 4294967281):Zao Tryz.prog 242 [.c (.str s), .c (.str t)] (.c (.bool (ZMb s t))) []:=by
 intro X W vs hX hgl hr
 obtain ⟨v,r,rfl,⟨rfl,hw⟩,u,r2,rfl,⟨rfl,hu⟩,hn⟩:=hr
 obtain rfl:r2=[]:=hn
 obtain ⟨m,hm⟩:=hgl.int (g:=0) (by simp [globs])
 refine (Any.strings_Contains ZOH s t m W h hm).mono fun e W' he=>?_
 obtain ⟨rfl,rfl⟩:=he
 exact ⟨_,[],rfl,ZbU.refl W' [],ZOg hX,rfl⟩
def Zl3:ZaE Tryz.prog:=⟨242,[.v Za1, .v Za1],fun x=>ByteArray.size x.1 < 4294967281,fun x=>.c (.bool (ZMb x.1 x.2.1)),fun _=>[],fun x hx=>Zl2 x.1 x.2.1 hx,Tryz.call242⟩
theorem ZLG:∀ (x y:List UInt8),(Op.bytesLess x y || decide (x=y))=!Op.bytesLess y x
 | [],[]=>by simp [Op.bytesLess]
 | _ :: _,[]=>by simp [Op.bytesLess]
 | [],_ :: _=>by simp [Op.bytesLess]
 | a :: x,b :: y=>by
  have ih:=ZLG x y
  rw [Op.bytesLess,Op.bytesLess]
  rcases Nat.lt_trichotomy a.toNat b.toNat with h | h | h
  ·have h1:a < b:=h
   have h2:¬ b < a:=fun h'=>by have:b.toNat < a.toNat:=h'; omega
   exact ZAy
  ·have e:a=b:=UInt8.toNat_inj.1 h
   subst e
   have h2:¬ a < a:=fun h'=>by have:a.toNat < a.toNat:=h'; omega
   simpa [h2] using ih
  ·have h1:b < a:=h
   have h2:¬ a < b:=fun h'=>by have:a.toNat < b.toNat:=h'; omega
   exact ZAy
theorem ZLH (a b:ByteArray):(Op.bytesLess a.toList b.toList || decide (a=b))=!Op.bytesLess b.toList a.toList:=by
 rw [← ZLG]
 congr 1
 rw [decide_eq_decide,ByteArray.toList_eq,ByteArray.toList_eq]
 exact ⟨fun h=>by rw [h],fun h=>ByteArray.ext (Array.toList_inj.1 h)⟩
theorem Zh5 {s:ByteArray} {i:Nat} (h:i < s.size):∃ b,s.data.toList[i]?=some b∧Zbc s i=(b.toNat:Nat):=by
 have hl:i < s.data.toList.length:=h
 refine ⟨s.data.toList[i],List.getElem?_eq_getElem hl,?_⟩
 unfold Zbc
 rw [List.getD_eq_getElem?_getD,List.getElem?_eq_getElem hl]
 rfl
theorem ZoG (s:ByteArray) (i:Nat):0≤Zbc s i∧Zbc s i≤255:=by
 unfold Zbc
 have:=(s.data.toList.getD i 0).toNat_lt
 omega
theorem ZHM (l:List UInt8) (a b:UInt8) (i:Nat):Lib.occAt l [a,b] i=true↔l[i]?=some a∧l[i + 1]?=some b:=by
 unfold Lib.occAt
 have h0:(l.drop i)[0]?=l[i]?:=by rw [List.getElem?_drop]; rfl
 have h1:(l.drop i)[1]?=l[i + 1]?:=by rw [List.getElem?_drop]
 rw [← h0,← h1]
 cases l.drop i with
 | nil=>simp
 | cons x r =>
  cases r with
  | nil=>simp [List.isPrefixOf]
  | cons y r =>
   simp only [List.isPrefixOf,Bool.and_true,Bool.and_eq_true,beq_iff_eq,List.getElem?_cons_zero,List.getElem?_cons_succ,Option.some.injEq]
   exact ⟨fun h=>⟨h.1.symm,h.2.symm⟩,fun h=>⟨h.1.symm,h.2.symm⟩⟩
theorem Zpt (s:ByteArray):ZMb s (⟨#[47,47]⟩:ByteArray)=true↔∃ i,i + 1 < s.size∧Zbc s i=47∧Zbc s (i + 1)=47:=by
 have hb:∀ i,i < s.size→(Zbc s i=47↔s.data.toList[i]?=some 47):=fun i hi=>by
  obtain ⟨b,h1,h2⟩:=Zh5 hi
  rw [h1,h2]
  constructor
  ·intro h
   have:b.toNat=47:=by omega
   exact congrArg some (UInt8.toNat_inj.1 this)
  ·intro h
   obtain rfl:=Option.some.inj h
   rfl
 have hlen:s.data.toList.length=s.size:=rfl
 show Lib.contains s.data.toList [47,47]=true↔_
 unfold Lib.contains
 rw [decide_eq_true_eq]
 rcases Lib.index_spec s.data.toList [47,47] with ⟨h1,h2⟩ | ⟨i,h1,h2,h3,_⟩
 ·constructor
  ·intro h; omega
  ·rintro ⟨i,hi,ha,hc⟩
   have:=h2 i (by omega)
   rw [(ZHM _ _ _ _).2 ⟨(hb i (by omega)).1 ha,(hb (i + 1) hi).1 hc⟩] at this
   cases this
 ·constructor
  ·intro _
   obtain ⟨ha,hc⟩:=(ZHM _ _ _ _).1 h3
   have hi:i + 1 < s.size:=(List.getElem?_eq_some_iff.1 hc).1
   exact ⟨i,hi,(hb i (by omega)).2 ha,(hb (i + 1) hi).2 hc⟩
  ·intro _; omega
def ZkK (s:ByteArray) (i:Nat):Prop:=(Zbc s i=47∧(i=0∨i + 1=s.size∨Zbc s (i - 1)=47))∨(Zbc s i ≠ 47∧(Zbc s i < 97∨122 < Zbc s i))
instance (s:ByteArray) (i:Nat):Decidable (ZkK s i):=by unfold ZkK; infer_instance
def Zb8 (s:ByteArray):Bool:=decide ((∀ i,i < s.size→¬ ZkK s i)∧1≤s.size∧s.size≤12)
theorem Zjy {s:ByteArray} {i:Nat} (hi:i < s.size) (h:ZkK s i):Zb8 s=false:=decide_eq_false fun q=>q.1 i hi h
theorem Zm7 {s:ByteArray} (h:∀ i,i < s.size→¬ ZkK s i):Zb8 s=btw (s.size:Nat) 1 12:=by
 unfold Zb8
 exact ZAg
theorem ZBR {s:ByteArray} (h:btw (s.size:Nat) 1 12=false):Zb8 s=false:=decide_eq_false fun q=>by rw [ZbS] at h; omega
def upI (x:Int):Int:=if 97≤x∧x≤122 then x - 32 else x
def upB (x:UInt8):UInt8:=if 97≤x.toNat∧x.toNat≤122 then x - 32 else x
def upT (s:ByteArray):ByteArray:=⟨s.data.map upB⟩
theorem ZoH (s:ByteArray):(upT s).size=s.size:=by show (s.data.map upB).size=s.data.size; simp
theorem ZMc (x:UInt8):((upB x).toNat:Int)=upI x.toNat:=by
 unfold upB upI
 split
 ·rw [if_pos (by omega),UInt8.toNat_sub]
  simp
  omega
 ·rw [if_neg (by omega)]
theorem ZLI {s:ByteArray} {i:Nat} (h:i < s.size):Zbc (upT s) i=upI (Zbc s i):=by
 obtain ⟨b,h1,h2⟩:=Zh5 h
 obtain ⟨c,h3,h4⟩:=Zh5 (s:=upT s) (i:=i) (by rw [ZoH]; exact h)
 rw [h2,h4,← ZMc]
 have:(upT s).data.toList[i]?=some (upB b):=by
  show (s.data.map upB).toList[i]?=_
  rw [Array.toList_map,List.getElem?_map,h1]
  rfl
 rw [this] at h3
 obtain rfl:=Option.some.inj h3
 rfl
theorem ZMd {s:ByteArray} {i:Nat} (h:i < s.size):(s.extract i (i + 1)).size=1∧Zbc (s.extract i (i + 1)) 0=Zbc s i:=by
 have hs:(s.extract i (i + 1)).size=1:=by rw [ByteArray.size_extract]; omega
 refine ⟨hs,?_⟩
 obtain ⟨b,h1,h2⟩:=Zh5 h
 obtain ⟨c,h3,h4⟩:=Zh5 (s:=s.extract i (i + 1)) (i:=0) (by omega)
 rw [h2,h4]
 have:(s.extract i (i + 1)).data.toList[0]?=some b:=by
  rw [ByteArray.data_extract,Array.toList_extract,List.extract_eq_take_drop,List.getElem?_take,if_pos (by omega),List.getElem?_drop]
  exact h1
 rw [this] at h3
 obtain rfl:=Option.some.inj h3
 rfl
theorem ZNe {s:ByteArray} {i:Nat} (h:i < s.size):(upT (s.extract i (i + 1))).size=1∧Zbc (upT (s.extract i (i + 1))) 0=upI (Zbc s i):=by
 have:=ZMd h
 exact ⟨by rw [ZoH]; exact this.1,by rw [ZLI (by omega),this.2]⟩
def Zjz (x:Int):Prop:=¬ ((97≤x∧x≤122)∨(65≤x∧x≤90)∨(48≤x∧x≤57))
instance (x:Int):Decidable (Zjz x):=by unfold Zjz; infer_instance
def Zl4 (s:ByteArray):Bool:=decide ((∀ i,i < s.size→¬ Zjz (Zbc s i))∧1≤s.size∧s.size≤8)
theorem ZEo {s:ByteArray} {i:Nat} (hi:i < s.size) (h:Zjz (Zbc s i)):Zl4 s=false:=decide_eq_false fun q=>q.1 i hi h
theorem ZwF {s:ByteArray} (h:∀ i,i < s.size→¬ Zjz (Zbc s i)):Zl4 s=btw (s.size:Nat) 1 8:=by
 unfold Zl4
 exact ZAg
set_option maxRecDepth 100000
set_option maxHeartbeats 4000000
theorem ZFt (n:Int) (lo:Int) (hi:Int):Zao Tryz.prog 109 [.c (.int .i64 n), .c (.int .i64 lo), .c (.int .i64 hi)] (.c (.bool (btw n lo hi))) []:=by
 refine bc0 [] [] [] [] L0 Tryz.func109 (fun hwf=>?_)
 exact Zzg
def ZcO:ZaE Tryz.prog:=⟨109,[.v Zax, .v Zax, .v Zax],fun x=>True,fun x=>.c (.bool (btw x.1 x.2.1 x.2.2.1)),fun _=>[],fun x hx=>ZFt x.1 x.2.1 x.2.2.1,Tryz.call109⟩
theorem ZJZ (n:Int) (lo:Int) (hi:Int):Zao Tryz.prog 76 [.c (.int .i64 n), .c (.int .i64 lo), .c (.int .i64 hi)] (.c (.bool (btw n lo hi))) []:=by
 refine bc0 [] [] [] [] L0 Tryz.func76 (fun hwf=>?_)
 exact Zzg
def ZcI:ZaE Tryz.prog:=⟨76,[.v Zax, .v Zax, .v Zax],fun x=>True,fun x=>.c (.bool (btw x.1 x.2.1 x.2.2.1)),fun _=>[],fun x hx=>ZJZ x.1 x.2.1 x.2.2.1,Tryz.call76⟩
theorem ZHN (a:Int) (b:Int):Zao Tryz.prog 201 [.c (.int .i64 a), .c (.int .i64 b)] (.c (.int .i64 (min a b))) []:=by
 refine bc0 [] [] [] [] L0 Tryz.func201 (fun hwf=>?_)
 refine Eq.mpr (β:=T4 (bif ltI a b then T2 (rI a (min a b)) else T2 (rI b (min a b)))) (by kernel_rfl) ?_
 exact Zz7
def ZHO:ZaE Tryz.prog:=⟨201,[.v Zax, .v Zax],fun x=>True,fun x=>.c (.int .i64 (min x.1 x.2.1)),fun _=>[],fun x hx=>ZHN x.1 x.2.1,Tryz.call201⟩
theorem ZHP (a:Int) (b:Int):Zao Tryz.prog 157 [.c (.int .i64 a), .c (.int .i64 b)] (.c (.int .i64 (max a b))) []:=by
 refine bc0 [] [] [] [] L0 Tryz.func157 (fun hwf=>?_)
 refine Eq.mpr (β:=T4 (bif gtI a b then T2 (rI a (max a b)) else T2 (rI b (max a b)))) (by kernel_rfl) ?_
 exact Zz7
def ZwG:ZaE Tryz.prog:=⟨157,[.v Zax, .v Zax],fun x=>True,fun x=>.c (.int .i64 (max x.1 x.2.1)),fun _=>[],fun x hx=>ZHP x.1 x.2.1,Tryz.call157⟩
def ZJK (x:Int):Prop:=x=47∨(97≤x∧x≤122)
theorem ZMe {s:ByteArray} {i:Nat} (hi:i < s.size) (h:¬ ZJK (Zbc s i)):Zb8 s=false:=Zjy hi (by unfold ZJK at h; unfold ZkK; right; omega)
theorem ZJ0 {s:ByteArray} (hi:1≤s.size) (h:Zbc s 0=47):Zb8 s=false:=Zjy (i:=0) (by omega) (by unfold ZkK; left; omega)
theorem ZMf {s:ByteArray} (hi:1≤s.size) (h:Zbc s (s.size - 1)=47):Zb8 s=false:=Zjy (i:=s.size - 1) (by omega) (by unfold ZkK; left; omega)
theorem ZNf {s:ByteArray} (hc:∀ j,j < s.size→ZJK (Zbc s j)) (hb:btw ((s.size:Nat):Int) 1 12=true) (h0:¬ Zbc s 0=47) (h1:¬ Zbc s (s.size - 1)=47):(!ZMb s (⟨#[47,47]⟩:ByteArray))=Zb8 s:=by
 cases hs:ZMb s (⟨#[47,47]⟩:ByteArray) with
 | true =>
  obtain ⟨i,hi,ha,hb'⟩:=(Zpt s).1 hs
  exact (Zjy (i:=i + 1) hi (by unfold ZkK; left; exact ⟨hb', .inr (.inr (by simpa using ha))⟩)).symm
 | false =>
  rw [Zm7,hb]
  ·rfl
  ·intro i hi hbad
   have hci:=hc i hi
   unfold ZkK at hbad
   unfold ZJK at hci
   rcases hbad with ⟨q,rfl | q2 | q2⟩ | ⟨q,q2⟩
   ·exact h0 q
   ·exact h1 (by rw [show s.size - 1=i by omega]; exact q)
   ·have h2:ZMb s (⟨#[47,47]⟩:ByteArray)=true:=(Zpt s).2 ⟨i - 1,by
     have:i ≠ 0:=fun e=>by subst e; exact h0 q
     omega,q2,by
     have:i ≠ 0:=fun e=>by subst e; exact h0 q
     rw [show i - 1 + 1=i by omega]; exact q⟩
    rw [hs] at h2
    cases h2
   ·omega
def ZFu (s:ByteArray):Nat→List AV→Mem→Zbd
 | 2,tm,M=>⟨Nat,fun y=>(Zcf (Zct tm [(2, .any),(3, .any),(6, .c (.int .i64 ((y:Nat):Int)))]) 7 19,M),fun y=>(y≤ByteArray.size s∧∀ j,j < y→ZJK (Zbc s j)),fun y=>(ByteArray.size s - y)⟩
 | _,_,_=>⟨Unit,fun _=>([],[]),fun _=>False,fun _=>0⟩
def ZBS (s:ByteArray) (y0:Nat):Prop:=T2 (∃ y0' : Nat,(y0'≤s.size∧∀ j,j < y0'→ZJK (Zbc s j))∧(s.size - y0') < (s.size - y0)∧lxs [.c (.str s), .tp []] (True∧True∧lxs [.c (.str s),ci s.size] (vI (w64 ((y0:Int) + 1)) y0'∧TN 19 (tpn 21 True)))∧pt (True))
def Zup (y0:Nat) (s:ByteArray):Prop:=(0:Int)≤(y0:Int)∧(y0:Int) < (s.size:Int)
theorem ZFv (s:ByteArray):Zao Tryz.prog 223 [.c (.str s)] (.c (.bool (Zb8 s))) []:=by
 refine bc0 [ZcO,Zl3] [] [] [] (ZFu s) Tryz.func223 (fun hwf=>?_)
 refine Eq.mpr (β:=T4 ((∃ q:Nat,(q≤s.size∧∀ j,j < q→ZJK (Zbc s j))∧lxs [.c (.str s), .tp []] (True∧True∧lxs [.c (.str s),ci s.size] (vI 0 q∧TN 19 (tpn 21 True)))∧pt (True))∧∀ y0:Nat,(y0≤s.size∧∀ j,j < y0→ZJK (Zbc s j))→True∧bif ltI y0 s.size then T4 (Zup y0 s∧T2 (bif neI (Zbc s y0) 47 then T2 (Zup y0 s∧T2 (bif ltI (Zbc s y0) 97 then T3 (rB false (Zb8 s)) else T2 (Zup y0 s∧T3 (bif gtI (Zbc s y0) 122 then True∧rB false (Zb8 s) else ZBS s y0)))) else True∧ZBS s y0)) else T2 (pt True∧True∧bif btw (s.size:Int) 1 12 then True∧((0:Int)≤0∧(0:Int) < (s.size:Int))∧T3 (bif neI (Zbc s (Int.toNat 0)) 47 then T4 (((0:Int)≤(w64 ((s.size:Int) - 1))∧((w64 ((s.size:Int) - 1)):Int) < (s.size:Int))∧T3 (bif neI (Zbc s (Int.toNat (w64 ((s.size:Int) - 1)))) 47 then True∧pt (s.size < 4294967281)∧T3 (rB (!(ZMb s (⟨#[47,47]⟩:ByteArray))) (Zb8 s)) else T2 (rB false (Zb8 s)))) else T4 (rB false (Zb8 s))) else T6 (rB false (Zb8 s))))) (by kernel_rfl) ?_
 unfold Zup ZBS T2 T3 T4 T6
 have hm:s.size≤maxLen:=hwf.1
 unfold maxLen at hm
 have e1:1≤s.size→Int.toNat (IntKind.wrap .i64 ((ByteArray.size s:Int) - 1))=s.size - 1:=fun h=>by rw [ZaX (by omega) (by omega)]; omega
 have e2:IntKind.wrap .i64 ((ByteArray.size s:Int) - 1)=(ByteArray.size s:Int) - 1:=ZaX (by omega) (by omega)
 simp only [Zeg,eq_self]
 refine ⟨⟨0,⟨Nat.zero_le _,fun j hj=>absurd hj (Nat.not_lt_zero j)⟩,rfl⟩,fun k hk=>⟨fun hlt=>?_,fun hge=>?_⟩⟩
 ·have hb:=ZoG s k
  repeat' (first | apply And.intro | intro _)
  all_goals first
   | trivial
   | omega
   | exact (ZMe (i:=k) (by omega) (by unfold ZJK; omega)).symm
   | exact ⟨k + 1,⟨by omega,fun j hj=>if h:j < k then hk.2 j h else by obtain rfl:j=k:=(by omega); unfold ZJK; omega⟩,by omega,Zbs (by unfold maxLen; omega)⟩
 ·obtain rfl:k=s.size:=by omega
  repeat' (first | apply And.intro | intro _)
  all_goals first
   | trivial
   | (rw [Zbu] at *; omega)
   | (have hb1:=Zbu.1 (by assumption:btw (ByteArray.size s:Int) 1 12=true); first | omega | (rw [e1 (by omega)] at *; first | exact ZNf hk.2 (by assumption) (by assumption) (by assumption) | exact (ZMf (by omega) (by assumption)).symm) | exact (ZJ0 (by omega) (by assumption)).symm)
   | exact (ZBR (by assumption)).symm
def Zkk:ZaE Tryz.prog:=⟨223,[.v Za1],fun x=>True,fun x=>.c (.bool (Zb8 x.1)),fun _=>[],fun x hx=>ZFv x.1,Tryz.call223⟩
def ZFw (s:ByteArray):Nat→List AV→Mem→Zbd
 | 2,tm,M=>⟨Nat,fun y=>(Zcf (Zct tm [(2, .any),(3, .c (.int .i64 ((y:Nat):Int)))]) 4 36,M),fun y=>(y≤ByteArray.size s∧∀ j,j < y→¬ ZkK s j),fun y=>(ByteArray.size s - y)⟩
 | _,_,_=>⟨Unit,fun _=>([],[]),fun _=>False,fun _=>0⟩
def ZBT (s:ByteArray) (y0:Nat):Prop:=T3 (∃ y0' : Nat,(y0'≤s.size∧∀ j,j < y0'→¬ ZkK s j)∧(s.size - y0') < (s.size - y0)∧lxs [.c (.str s), .tp []] (True∧vI (w64 ((y0:Int) + 1)) y0'∧TN 36 (tpn 3 True))∧pt (True))
def Zuq (y0:Nat) (s:ByteArray):Prop:=(0:Int)≤(y0:Int)∧(y0:Int) < (s.size:Int)
theorem ZFx (s:ByteArray):Zao Tryz.prog 200 [.c (.str s)] (.c (.bool (Zb8 s))) []:=by
 refine bc0 [ZcI] [] [] [] (ZFw s) Tryz.func200 (fun hwf=>?_)
 refine Eq.mpr (β:=T2 ((∃ q:Nat,(q≤s.size∧∀ j,j < q→¬ ZkK s j)∧lxs [.c (.str s), .tp []] (True∧vI 0 q∧TN 36 (tpn 3 True))∧pt (True))∧∀ y0:Nat,(y0≤s.size∧∀ j,j < y0→¬ ZkK s j)→T4 (bif ltI y0 s.size then T2 (Zuq y0 s∧True∧bif eqI (Zbc s y0) 47 then T3 (bif eqI y0 0 then T4 (rB false (Zb8 s)) else T7 (bif eqI y0 (w64 ((s.size:Int) - 1)) then T2 (rB false (Zb8 s)) else T3 (((0:Int)≤(w64 ((y0:Int) - 1))∧((w64 ((y0:Int) - 1)):Int) < (s.size:Int))∧T2 (bif eqI (Zbc s (Int.toNat (w64 ((y0:Int) - 1)))) 47 then True∧rB false (Zb8 s) else ZBT s y0)))) else T2 (Zuq y0 s∧T2 (bif ltI (Zbc s y0) 97 then T2 (rB false (Zb8 s)) else T2 (Zuq y0 s∧T2 (bif gtI (Zbc s y0) 122 then True∧rB false (Zb8 s) else ZBT s y0))))) else T2 (pt True∧True∧rB (btw (s.size:Int) 1 12) (Zb8 s))))) (by kernel_rfl) ?_
 unfold Zuq ZBT T2 T3 T4 T7
 have hm:s.size≤maxLen:=hwf.1
 unfold maxLen at hm
 have e2:IntKind.wrap .i64 ((ByteArray.size s:Int) - 1)=(ByteArray.size s:Int) - 1:=ZaX (by omega) (by omega)
 simp only [Zeg,eq_self]
 refine ⟨⟨0,⟨Nat.zero_le _,fun j hj=>absurd hj (Nat.not_lt_zero j)⟩,rfl⟩,fun k hk=>⟨fun hlt=>?_,fun hge=>?_⟩⟩
 ·have hb:=ZoG s k
  have e3:IntKind.wrap .i64 (((k:Nat):Int) - 1)=((k:Nat):Int) - 1:=ZaX (by omega) (by omega)
  have e4:1≤k→Int.toNat (((k:Nat):Int) - 1)=k - 1:=fun h=>by omega
  simp only [e2,e3]
  repeat' (first | apply And.intro | intro _)
  all_goals first
   | trivial
   | omega
   | exact (Zjy (i:=k) (by omega) (by unfold ZkK; first | (right; omega) | (left; refine ⟨by assumption,?_⟩; first | (left; omega) | (right; left; omega) | (right; right; rw [← e4 (by omega)]; assumption)))).symm
   | exact ⟨k + 1,⟨by omega,fun j hj=>if h:j < k then hk.2 j h else by obtain rfl:j=k:=(by omega); unfold ZkK; first | (rintro (⟨q,q2⟩ | ⟨q,q2⟩) <;> omega) | (rw [e4 (by omega)] at *; rintro (⟨q,rfl | q2 | q2⟩ | ⟨q,q2⟩) <;> first | omega | contradiction)⟩,by omega,Zbs (by unfold maxLen; omega)⟩
 ·obtain rfl:k=s.size:=by omega
  first | exact (Zm7 hk.2).symm | exact ⟨trivial,(Zm7 hk.2).symm⟩
def Zkl:ZaE Tryz.prog:=⟨200,[.v Za1],fun x=>True,fun x=>.c (.bool (Zb8 x.1)),fun _=>[],fun x hx=>ZFx x.1,Tryz.call200⟩
def Zc9 (n:ZaM):Bool:=if n.1=1 then (btw n.2.1 0 300 && (btw n.2.2.1 0 999999998 && eqS n.2.2.2 (⟨#[]⟩:ByteArray))) else (btw n.1 2 4 && (eqI n.2.1 0 && (eqI n.2.2.1 0 && Zb8 n.2.2.2)))
theorem ZFy (n:ZaM):Zao Tryz.prog 176 [.ag (cellsOf Zal n)] (.c (.bool (Zc9 n))) []:=by
 refine bc0 [ZcO,Zkk] [] [] [] L0 Tryz.func176 (fun hwf=>?_)
 exact Zy3
def ZFz:ZaE Tryz.prog:=⟨176,[.s Zal],fun x=>True,fun x=>.c (.bool (Zc9 x.1)),fun _=>[],fun x hx=>ZFy x.1,Tryz.call176⟩
theorem ZFA (n:ZaM):Zao Tryz.prog 152 [.ag (cellsOf Zal n)] (.c (.bool (Zc9 n))) []:=by
 refine bc0 [ZcI,Zkl] [] [] [] L0 Tryz.func152 (fun hwf=>?_)
 exact Zy3
def ZFB:ZaE Tryz.prog:=⟨152,[.s Zal],fun x=>True,fun x=>.c (.bool (Zc9 x.1)),fun _=>[],fun x hx=>ZFA x.1,Tryz.call152⟩
theorem ZNg {a b:Int}:(if b > a then b else a)=max a b:=by omega
def ZgL (l:List ZaM):Nat→Int
 | 0=>-1
 | k + 1=>if (Zaf l k).1=1 then max (ZgL l k) (Zaf l k).2.1 else ZgL l k
def Zi4 (l:List ZaM) (n:Int):Bool:=!List.any l (fun z0:ZaM=>eqI z0.1 1 && geI z0.2.1 n)
def Zsb (l:List ZaM) (s:ByteArray):Bool:=List.any l (fun z0:ZaM=>eqI z0.1 2 && eqS z0.2.2.2 s)
theorem ZEp {l:List ZaM} {n:Int}:∀ {k:Nat},n≤ZgL l k↔n≤-1∨∃ j,j < k∧(Zaf l j).1=1∧n≤(Zaf l j).2.1
 | 0=>by
  unfold ZgL
  constructor
  ·exact .inl
  ·rintro (h | ⟨j,hj,_⟩)
   ·exact h
   ·omega
 | k + 1=>by
  have ih:=ZEp (l:=l) (n:=n) (k:=k)
  unfold ZgL
  constructor
  ·intro h
   split at h
   ·rename_i h1
    by_cases h2:n≤ZgL l k
    ·rcases ih.1 h2 with h3 | ⟨j,a,b⟩
     ·exact .inl h3
     ·exact .inr ⟨j,by omega,b⟩
    ·exact .inr ⟨k,by omega,h1,by omega⟩
   ·rcases ih.1 h with h3 | ⟨j,a,b⟩
    ·exact .inl h3
    ·exact .inr ⟨j,by omega,b⟩
  ·intro h
   have:n≤ZgL l k∨((Zaf l k).1=1∧n≤(Zaf l k).2.1):=by
    rcases h with h | ⟨j,a,b,c⟩
    ·exact .inl (ih.2 (.inl h))
    ·by_cases hj:j=k
     ·subst hj; exact .inr ⟨b,c⟩
     ·exact .inl (ih.2 (.inr ⟨j,by omega,b,c⟩))
   split
   ·rcases this with h | h <;> omega
   ·rename_i h1
    rcases this with h | h
    ·exact h
    ·exact absurd h.1 h1
theorem ZHQ {l:List ZaM} {j:Nat} {z:ZaM} (hj:j < List.length l) (e:l[j]=z):Zaf l j=z:=by
 have h:l[j]?=some z:=by rw [List.getElem?_eq_getElem hj,e]
 exact Zcb (t:=Zal) h
theorem ZFC {l:List ZaM} {n:Int} (h:0≤n):Zi4 l n=decide (ZgL l (List.length l) < n):=by
 rw [Bool.eq_iff_iff,decide_eq_true_eq]
 have h1:=ZEp (l:=l) (n:=n) (k:=List.length l)
 unfold Zi4
 rw [Bool.not_eq_true',← Bool.not_eq_true,List.any_eq_true]
 constructor
 ·intro q
  refine Int.not_le.1 fun hn=>?_
  rcases h1.1 hn with h2 | ⟨j,a,b,c⟩
  ·omega
  ·exact q ⟨Zaf l j,List.mem_of_getElem? (Zat (t:=Zal) a),by rw [Bool.and_eq_true,ZaJ,ZdZ]; exact ⟨b,c⟩⟩
 ·rintro q ⟨z,hz,hp⟩
  obtain ⟨j,hj,e⟩:=List.getElem_of_mem hz
  have e2:Zaf l j=z:=ZHQ hj e
  rw [Bool.and_eq_true,ZaJ,ZdZ] at hp
  exact absurd (h1.2 (.inr ⟨j,hj,by rw [e2]; exact hp.1,by rw [e2]; exact hp.2⟩)) (by omega)
theorem Zur (n:ZaM):Zao Tryz.prog 126 [.ag (cellsOf Zal n)] (.c (.bool (eqI n.1 1))) []:=by
 refine bc0 [] [] [] [] L0 Tryz.func126 (fun hwf=>?_)
 refine Eq.mpr (β:=T6 (rB (eqI n.1 1) (eqI n.1 1))) (by kernel_rfl) ?_
 exact Zet
def Zgj:ZaE Tryz.prog:=⟨126,[.s Zal],fun x=>True,fun x=>.c (.bool (eqI x.1.1 1)),fun _=>[],fun x hx=>Zur x.1,Tryz.call126⟩
theorem Zpu (n:ZaM):Zao Tryz.prog 178 [.ag (cellsOf Zal n)] (.c (.bool (neI n.1 1))) []:=by
 refine bc0 [] [] [] [] L0 Tryz.func178 (fun hwf=>?_)
 refine Eq.mpr (β:=T6 (rB (neI n.1 1) (neI n.1 1))) (by kernel_rfl) ?_
 exact Zet
def Zpv:ZaE Tryz.prog:=⟨178,[.s Zal],fun x=>True,fun x=>.c (.bool (neI x.1.1 1)),fun _=>[],fun x hx=>Zpu x.1,Tryz.call178⟩
def Zm8 (qu:ZbH):Nat→List AV→Mem→Zbd
 | 3,tm,M=>⟨Nat,fun y=>(Zcf (Zct tm [(3, .c (.int .i64 (ZgL qu.1 y))),(5, .any),(9, .c (.int .i64 ((y:Nat):Int)))]) 10 10,M),fun y=>(y≤List.length qu.1),fun y=>(List.length qu.1 - y)⟩
 | _,_,_=>⟨Unit,fun _=>([],[]),fun _=>False,fun _=>0⟩
def ZBU (qu:ZbH) (y0:Nat) (y0' : Nat):Prop:=True∧lxs [.c (.bp 0 0),hn Zal qu.1,ci qu.1.length] (vI (w64 ((y0:Int) + 1)) y0'∧TN 10 (lxs [.tp []] True))
def Zlv (qu:ZbH):List AC:=[.hs .no Zal qu.1, .bool qu.2.1, .bool qu.2.2]
theorem Zm9 (qu:ZbH):Zao Tryz.prog 177 [.ag [.hs .no Zal qu.1, .bool qu.2.1, .bool qu.2.2]] (.c (.int .i64 (ZgL qu.1 (List.length qu.1)))) []:=by
 refine bc0 [Zgj] [] [] [] (Zm8 qu) Tryz.func177 (fun hwf=>?_)
 refine Eq.mpr (β:=T7 ((∃ q:Nat,(q≤qu.1.length)∧lxs [.ag (Zlv qu), .c (.bp 0 0),ci 0] (vI (-1) (ZgL qu.1 q)∧lxs [.tp []] (True∧lxs [.c (.bp 0 0),hn Zal qu.1,ci qu.1.length] (vI 0 q∧TN 10 (lxs [.tp []] True))))∧pt (lb (.box (Zlv qu))∧True))∧∀ y0:Nat,(y0≤qu.1.length)→True∧bif ltI y0 qu.1.length then ix 4 y0 qu.1.length∧T4 (pt True∧bif eqI (Zaf qu.1 y0).1 1 then T3 (IntKind.i64=IntKind.i64∧T3 (∃ y0' : Nat,(y0'≤qu.1.length)∧(qu.1.length - y0') < (qu.1.length - y0)∧lxs [.ag (Zlv qu), .c (.bp 0 0),ci 0] (vI (if ((Zaf qu.1 y0).2.1:Int) > (ZgL qu.1 y0) then (Zaf qu.1 y0).2.1 else ZgL qu.1 y0) (ZgL qu.1 y0')∧lxs [.tp []] (ZBU qu y0 y0'))∧pt (lb (.box (Zlv qu))∧True))) else T2 (∃ y0' : Nat,(y0'≤qu.1.length)∧(qu.1.length - y0') < (qu.1.length - y0)∧lxs [.ag (Zlv qu), .c (.bp 0 0),ci 0] (vI (ZgL qu.1 y0) (ZgL qu.1 y0')∧lxs [.tp []] (ZBU qu y0 y0'))∧pt (lb (.box (Zlv qu))∧True))) else T2 (rI (ZgL qu.1 y0) (ZgL qu.1 qu.1.length)))) (by kernel_rfl) ?_
 unfold Zlv ZBU T2 T3 T4 T7
 have hm:List.length qu.1≤maxLen:=hwf.1.1.1
 simp only [Zeg,eq_self]
 simp only [ZNg]
 refine ⟨⟨0,Nat.zero_le _,rfl,rfl⟩,fun k hk=>⟨fun hlt=>?_,fun hge=>?_⟩⟩
 ·repeat' (first | apply And.intro | intro _)
  all_goals first
   | trivial
   | omega
   | exact ⟨k + 1,by omega,by omega,(if_pos (by assumption)).symm,Zbs (by omega)⟩
   | exact ⟨k + 1,by omega,by omega,(if_neg (by assumption)).symm,Zbs (by omega)⟩
 ·obtain rfl:k=List.length qu.1:=by omega
  first | rfl | exact ⟨trivial,rfl⟩
def Zna:ZaE Tryz.prog:=⟨177,[.s Zdv],fun x=>True,fun x=>.c (.int .i64 (ZgL x.1.1 (List.length x.1.1))),fun _=>[],fun x hx=>Zm9 x.1,Tryz.call177⟩
def ZaY (l:List ZaM) (b:Bool):Nat→List ZaM
 | 0=>[]
 | k + 1=>if eqI (Zaf l k).1 1=b then ZaY l b k ++ [Zaf l k] else ZaY l b k
theorem Zpw {l:List ZaM} {b:Bool}:∀ k,(ZaY l b k).length≤k
 | 0=>Nat.le_refl _
 | k + 1=>by have:=Zpw (l:=l) (b:=b) k; unfold ZaY; split <;> simp <;> omega
def ZFD (l:List ZaM) (v:ZaM):Bool:=List.any l (fun z0:ZaM=>Zcw v z0)
def Zv0 (q:ZbH) (i:Nat):Bool:=!Zc9 (Zaf q.1 i) || ((eqI (Zaf q.1 i).1 1 && (q.2.1 || !Zi4 (List.take i q.1) (Zaf q.1 i).2.1)) || ((neI (Zaf q.1 i).1 1 && q.2.2) || (eqI (Zaf q.1 i).1 2 && Zsb (List.take i q.1) (Zaf q.1 i).2.2.2)))
def ZN1 (q:ZbH) (i:Nat):Bool:=!Zc9 (Zaf q.1 i) || ((eqI (Zaf q.1 i).1 1 && (q.2.1 || leI (Zaf q.1 i).2.1 (ZgL (List.take i q.1) (List.length (List.take i q.1))))) || ((neI (Zaf q.1 i).1 1 && q.2.2) || (eqI (Zaf q.1 i).1 2 && ZFD (List.take i q.1) (Zaf q.1 i))))
def Zcg (q:ZbH):Bool:=decide ((∀ i,i < List.length q.1→Zv0 q i=false)∧List.length q.1≤6)
theorem ZsD {q:ZbH} {i:Nat} (hi:i < List.length q.1) (h:Zv0 q i=true):Zcg q=false:=decide_eq_false fun z=>by rw [z.1 i hi] at h; cases h
theorem Zpx {q:ZbH} (h:∀ i,i < List.length q.1→Zv0 q i=false):Zcg q=leI (List.length q.1:Int) 6:=by
 unfold Zcg
 rw [Bool.eq_iff_iff,decide_eq_true_eq,Zcn]
 exact ⟨fun z=>by have:=z.2; omega,fun z=>⟨h,by omega⟩⟩
theorem ZFE {n:ZaM} (h:Zc9 n=true) (h1:n.1=1):0≤n.2.1:=by
 unfold Zc9 at h
 rw [if_pos h1,Bool.and_eq_true,Zbu] at h
 omega
theorem ZnK {n:ZaM} (h:Zc9 n=true) (h1:n.1 ≠ 1):n.2.1=0∧n.2.2.1=0:=by
 unfold Zc9 at h
 rw [if_neg h1,Bool.and_eq_true,Bool.and_eq_true,Bool.and_eq_true,ZaJ,ZaJ] at h
 exact ⟨h.2.1,h.2.2.1⟩
theorem ZJ1 {l:List ZaM} {v:ZaM} (hl:∀ j,j < List.length l→Zc9 (Zaf l j)=true) (hv:Zc9 v=true) (h2:v.1=2):ZFD l v=Zsb l v.2.2.2:=by
 unfold ZFD Zsb
 rw [Bool.eq_iff_iff,List.any_eq_true,List.any_eq_true]
 constructor
 ·rintro ⟨z,hz,he⟩
  have e:=Zdi.1 he
  exact ⟨z,hz,by rw [← e,Bool.and_eq_true,ZaJ,Zbp]; exact ⟨h2,rfl⟩⟩
 ·rintro ⟨z,hz,he⟩
  rw [Bool.and_eq_true,ZaJ,Zbp] at he
  obtain ⟨j,hj,e⟩:=List.getElem_of_mem hz
  have e2:Zaf l j=z:=ZHQ hj e
  have hz':=hl j hj
  rw [e2] at hz'
  have p1:=ZnK hz' (by omega)
  have p2:=ZnK hv (by omega)
  exact ⟨z,hz,Zdi.2 (Prod.ext (by omega) (Prod.ext (by omega) (Prod.ext (by omega) he.2.symm)))⟩
theorem ZHR {q:ZbH} {j:Nat} (h:Zv0 q j=false):Zc9 (Zaf q.1 j)=true:=by
 unfold Zv0 at h
 cases hn:Zc9 (Zaf q.1 j) with
 | true=>rfl
 | false=>rw [hn] at h; cases h
theorem ZJ2 {l:List ZaM} {i j:Nat} (h:j < i) (hi:i≤List.length l):Zaf (List.take i l) j=Zaf l j:=by
 have h0:l[j]?=some (Zaf l j):=Zat (t:=Zal) (by have:i≤List.length l:=hi; show j < List.length l; omega)
 have h1:(List.take i l)[j]?=some (Zaf l j):=by rw [List.getElem?_take,if_pos h]; exact h0
 exact Zcb (t:=Zal) h1
theorem ZHS {l:List ZaM} {n:Int} {k:Nat} (hk:k < List.length l) (h:(Zaf l k).1=1∧n≤(Zaf l k).2.1):Zi4 l n=false:=by
 have h' : List.any l (fun z0:ZaM=>eqI z0.1 1 && geI z0.2.1 n)=true:=ZkA (t:=Zal) (xs:=l) (p:=fun z0:ZaM=>eqI z0.1 1 && geI z0.2.1 n) hk (by show (eqI (Zaf l k).1 1 && geI (Zaf l k).2.1 n)=true; rw [Bool.and_eq_true,ZaJ,ZdZ]; exact h)
 unfold Zi4
 rw [h']
 rfl
theorem ZsE {l:List ZaM} {n:Int} (h:∀ j,j < List.length l→¬ ((Zaf l j).1=1∧n≤(Zaf l j).2.1)):Zi4 l n=true:=by
 have h' : List.any l (fun z0:ZaM=>eqI z0.1 1 && geI z0.2.1 n)=false:=Zie (t:=Zal) (xs:=l) (p:=fun z0:ZaM=>eqI z0.1 1 && geI z0.2.1 n) (fun j hj=>by show (eqI (Zaf l j).1 1 && geI (Zaf l j).2.1 n)=false; rw [← Bool.not_eq_true,Bool.and_eq_true,ZaJ,ZdZ]; exact h j hj)
 unfold Zi4
 rw [h']
 rfl
theorem ZHT {l:List ZaM} {n:ByteArray} {k:Nat} (hk:k < List.length l) (h:(Zaf l k).1=2∧(Zaf l k).2.2.2=n):Zsb l n=true :=
 ZkA (t:=Zal) (xs:=l) (p:=fun z0:ZaM=>eqI z0.1 2 && eqS z0.2.2.2 n) hk (by show (eqI (Zaf l k).1 2 && eqS (Zaf l k).2.2.2 n)=true; rw [Bool.and_eq_true,ZaJ,Zbp]; exact h)
theorem ZEq {l:List ZaM} {n:ByteArray} (h:∀ j,j < List.length l→¬ ((Zaf l j).1=2∧(Zaf l j).2.2.2=n)):Zsb l n=false :=
 Zie (t:=Zal) (xs:=l) (p:=fun z0:ZaM=>eqI z0.1 2 && eqS z0.2.2.2 n) (fun j hj=>by show (eqI (Zaf l j).1 2 && eqS (Zaf l j).2.2.2 n)=false; rw [← Bool.not_eq_true,Bool.and_eq_true,ZaJ,Zbp]; exact h j hj)
theorem ZHU {q:ZbH} {i:Nat} (hi:i < List.length q.1) (h:∀ j,j < i→Zv0 q j=false):ZN1 q i=Zv0 q i:=by
 unfold ZN1 Zv0
 cases hn:Zc9 (Zaf q.1 i) with
 | false=>rfl
 | true =>
  have hlen:List.length (List.take i q.1)=i:=by rw [List.length_take]; omega
  by_cases h1:(Zaf q.1 i).1=1
  ·rw [ZFC (ZFE hn h1),hlen,ZaJ.2 h1]
   have e:leI (Zaf q.1 i).2.1 (ZgL (List.take i q.1) i)=!decide (ZgL (List.take i q.1) i < (Zaf q.1 i).2.1):=by
    rw [Bool.eq_iff_iff,Zcn,Bool.not_eq_true',decide_eq_false_iff_not]
    omega
   rw [e,ZaS.2 (show ¬ (Zaf q.1 i).1=2 by omega)]
   rfl
  ·rw [ZaS.2 h1]
   by_cases h2:(Zaf q.1 i).1=2
   ·rw [ZJ1 (fun j hj=>by rw [hlen] at hj; rw [ZJ2 hj (by omega)]; exact ZHR (h j hj)) hn h2]
    rfl
   ·rw [ZaS.2 h2]
    rfl
def Zgk (s:List ZaM) (v:ZaM):Nat→List AV→Mem→Zbd
 | 2,tm,M=>⟨Nat,fun y=>(Zcf (Zct tm [(4, .any),(5, .any),(8, .c (.int .i64 ((y:Nat):Int)))]) 9 10,M),fun y=>(y≤List.length s∧∀ j,j < y→Zcw v (Zaf s j)=false),fun y=>(List.length s - y)⟩
 | _,_,_=>⟨Unit,fun _=>([],[]),fun _=>False,fun _=>0⟩
def Zpy (v:ZaM):List AC:=[.int .i64 v.1, .int .i64 v.2.1, .int .i64 v.2.2.1, .str v.2.2.2]
theorem Zgl (s:List ZaM) (v:ZaM):Zao Tryz.prog 187 [.c (.hs .no Zal s), .ag (cellsOf Zal v)] (.c (.int .i64 (Zf0 (fun z0:ZaM=>Zcw v z0) s))) []:=by
 refine bc0 [] [] [] [] (Zgk s v) Tryz.func187 (fun hwf=>?_)
 refine Eq.mpr (β:=T5 ((∃ q:Nat,(q≤s.length∧∀ j,j < q→Zcw v (Zaf s j)=false)∧lxs [hn Zal s, .ag (Zpy v), .tp [], .c (.bp 0 0)] (True∧True∧lxs [hn Zal s,ci s.length] (vI 0 q∧TN 10 True))∧pt (lb (.box (Zpy v))∧True))∧∀ y0:Nat,(y0≤s.length∧∀ j,j < y0→Zcw v (Zaf s j)=false)→True∧bif ltI y0 s.length then T2 (pt (true=true)∧T3 (ix 4 y0 s.length∧True∧true=true∧bif Zcw v (Zaf s y0) then T2 (rI (y0:Int) (Zf0 (fun z0:ZaM=>Zcw v z0) s)) else T2 (∃ y0' : Nat,(y0'≤s.length∧∀ j,j < y0'→Zcw v (Zaf s j)=false)∧(s.length - y0') < (s.length - y0)∧lxs [hn Zal s, .ag (Zpy v), .tp [], .c (.bp 0 0)] (True∧True∧lxs [hn Zal s,ci s.length] (vI (w64 ((y0:Int) + 1)) y0'∧TN 10 True))∧pt (lb (.box (Zpy v))∧True)))) else True∧rI (-1) (Zf0 (fun z0:ZaM=>Zcw v z0) s))) (by kernel_rfl) ?_
 unfold Zpy T2 T3 T5
 simp only [Zeg,eq_self]
 have hm:List.length s≤maxLen:=hwf.1.1
 refine ⟨⟨0,⟨Nat.zero_le _,Za3⟩,rfl⟩,fun k hk=>⟨fun hlt=>⟨by omega,fun hp=>?_,fun hp=>?_⟩,fun hge=>?_⟩⟩
 ·have hk' : k < List.length s:=by omega
  exact (Zfu (t:=Zal) (p:=fun z0:ZaM=>Zcw v z0) (xs:=s) hk' hk.2 hp).symm
 ·exact Zdw
 ·obtain rfl:k=List.length s:=by omega
  exact (Zcv (t:=Zal) (p:=fun z0:ZaM=>Zcw v z0) hk.2).symm
def Zgm:ZaE Tryz.prog:=⟨187,[.v (.list Zal), .s Zal],fun x=>True,fun x=>.c (.int .i64 (Zf0 (fun z0:ZaM=>Zcw x.2.1 z0) x.1)),fun _=>[],fun x hx=>Zgl x.1 x.2.1,Tryz.call187⟩
theorem Zfg (s:List ZaM) (v:ZaM):Zao Tryz.prog 129 [.c (.hs .no Zal s), .ag (cellsOf Zal v)] (.c (.bool (ZFD s v))) []:=by
 refine bc0 [Zgm] [] [] [] L0 Tryz.func129 (fun hwf=>?_)
 refine Eq.mpr (β:=T4 (pt True∧T2 (rB (geI (Zf0 (fun z0:ZaM=>Zcw v z0) s) 0) (ZFD s v)))) (by kernel_rfl) ?_
 exact ZzF
def Zdt:ZaE Tryz.prog:=⟨129,[.v (.list Zal), .s Zal],fun x=>True,fun x=>.c (.bool (ZFD x.1 x.2.1)),fun _=>[],fun x hx=>Zfg x.1 x.2.1,Tryz.call129⟩
def ZwH (qu:ZbH) (n:Int):Nat→List AV→Mem→Zbd
 | 2,tm,M=>⟨Nat,fun y=>(Zcf (Zct tm [(4, .any),(5, .c (.int .i64 ((y:Nat):Int)))]) 6 24,M),fun y=>(y≤List.length qu.1∧∀ j,j < y→¬ ((Zaf qu.1 j).1=1∧n≤(Zaf qu.1 j).2.1)),fun y=>(List.length qu.1 - y)⟩
 | _,_,_=>⟨Unit,fun _=>([],[]),fun _=>False,fun _=>0⟩
def ZBV (qu:ZbH) (n:Int) (y0:Nat):Prop:=T3 (∃ y0' : Nat,(y0'≤qu.1.length∧∀ j,j < y0'→¬ ((Zaf qu.1 j).1=1∧n≤(Zaf qu.1 j).2.1))∧(qu.1.length - y0') < (qu.1.length - y0)∧lxs [.ag [.hs .no Zal qu.1, .bool qu.2.1, .bool qu.2.2],ci n, .c (.bp 0 0), .tp []] (True∧vI (w64 ((y0:Int) + 1)) y0'∧TN 24 True)∧pt (lb (.box [.hs .no Zal qu.1, .bool qu.2.1, .bool qu.2.2])∧True))
theorem ZwI (qu:ZbH) (n:Int):Zao Tryz.prog 153 [.ag [.hs .no Zal qu.1, .bool qu.2.1, .bool qu.2.2], .c (.int .i64 n)] (.c (.bool (Zi4 qu.1 n))) []:=by
 refine bc0 [] [] [] [] (ZwH qu n) Tryz.func153 (fun hwf=>?_)
 refine Eq.mpr (β:=T3 ((∃ q:Nat,(q≤qu.1.length∧∀ j,j < q→¬ ((Zaf qu.1 j).1=1∧n≤(Zaf qu.1 j).2.1))∧lxs [.ag [.hs .no Zal qu.1, .bool qu.2.1, .bool qu.2.2],ci n, .c (.bp 0 0), .tp []] (True∧vI 0 q∧TN 24 True)∧pt (lb (.box [.hs .no Zal qu.1, .bool qu.2.1, .bool qu.2.2])∧True))∧∀ y0:Nat,(y0≤qu.1.length∧∀ j,j < y0→¬ ((Zaf qu.1 j).1=1∧n≤(Zaf qu.1 j).2.1))→T5 (bif ltI y0 qu.1.length then T3 (ix 4 y0 qu.1.length∧T4 (bif eqI (Zaf qu.1 y0).1 1 then T3 (ix 4 y0 qu.1.length∧T5 (bif geI (Zaf qu.1 y0).2.1 n then True∧rB false (Zi4 qu.1 n) else ZBV qu n y0)) else True∧ZBV qu n y0)) else True∧rB true (Zi4 qu.1 n)))) (by kernel_rfl) ?_
 unfold ZBV T3 T4 T5
 have hm:List.length qu.1≤maxLen:=hwf.1.1.1
 simp only [Zeg,eq_self]
 refine ⟨⟨0,⟨Nat.zero_le _,Za3⟩,rfl⟩,fun k hk=>⟨fun hlt=>?_,fun hge=>?_⟩⟩
 ·repeat' (first | apply And.intro | intro _)
  all_goals first
   | trivial
   | omega
   | exact (ZHS (k:=k) (by omega) ⟨by assumption,by assumption⟩).symm
   | exact ⟨k + 1,⟨by omega,ZaU hk.2 (fun h=>by first | omega | exact absurd h.1 (by assumption) | exact absurd h.2 (by assumption))⟩,by omega,Zbs (by omega)⟩
 ·obtain rfl:k=List.length qu.1:=by omega
  first | exact (ZsE hk.2).symm | exact ⟨trivial,(ZsE hk.2).symm⟩
def ZwJ:ZaE Tryz.prog:=⟨153,[.s Zdv, .v Zax],fun x=>True,fun x=>.c (.bool (Zi4 x.1.1 x.2.1)),fun _=>[],fun x hx=>ZwI x.1 x.2.1,Tryz.call153⟩
def Zus (qu:ZbH) (n:ByteArray):Nat→List AV→Mem→Zbd
 | 2,tm,M=>⟨Nat,fun y=>(Zcf (Zct tm [(4, .any),(5, .c (.int .i64 ((y:Nat):Int)))]) 6 24,M),fun y=>(y≤List.length qu.1∧∀ j,j < y→¬ ((Zaf qu.1 j).1=2∧(Zaf qu.1 j).2.2.2=n)),fun y=>(List.length qu.1 - y)⟩
 | _,_,_=>⟨Unit,fun _=>([],[]),fun _=>False,fun _=>0⟩
def ZBW (qu:ZbH) (n:ByteArray) (y0:Nat):Prop:=T3 (∃ y0' : Nat,(y0'≤qu.1.length∧∀ j,j < y0'→¬ ((Zaf qu.1 j).1=2∧(Zaf qu.1 j).2.2.2=n))∧(qu.1.length - y0') < (qu.1.length - y0)∧lxs [.ag [.hs .no Zal qu.1, .bool qu.2.1, .bool qu.2.2], .c (.str n), .c (.bp 0 0), .tp []] (True∧vI (w64 ((y0:Int) + 1)) y0'∧TN 24 True)∧pt (lb (.box [.hs .no Zal qu.1, .bool qu.2.1, .bool qu.2.2])∧True))
theorem Zut (qu:ZbH) (n:ByteArray):Zao Tryz.prog 154 [.ag [.hs .no Zal qu.1, .bool qu.2.1, .bool qu.2.2], .c (.str n)] (.c (.bool (Zsb qu.1 n))) []:=by
 refine bc0 [] [] [] [] (Zus qu n) Tryz.func154 (fun hwf=>?_)
 refine Eq.mpr (β:=T3 ((∃ q:Nat,(q≤qu.1.length∧∀ j,j < q→¬ ((Zaf qu.1 j).1=2∧(Zaf qu.1 j).2.2.2=n))∧lxs [.ag [.hs .no Zal qu.1, .bool qu.2.1, .bool qu.2.2], .c (.str n), .c (.bp 0 0), .tp []] (True∧vI 0 q∧TN 24 True)∧pt (lb (.box [.hs .no Zal qu.1, .bool qu.2.1, .bool qu.2.2])∧True))∧∀ y0:Nat,(y0≤qu.1.length∧∀ j,j < y0→¬ ((Zaf qu.1 j).1=2∧(Zaf qu.1 j).2.2.2=n))→T5 (bif ltI y0 qu.1.length then T3 (ix 4 y0 qu.1.length∧T4 (bif eqI (Zaf qu.1 y0).1 2 then T3 (ix 4 y0 qu.1.length∧T5 (bif eqS (Zaf qu.1 y0).2.2.2 n then True∧rB true (Zsb qu.1 n) else ZBW qu n y0)) else True∧ZBW qu n y0)) else True∧rB false (Zsb qu.1 n)))) (by kernel_rfl) ?_
 unfold ZBW T3 T4 T5
 have hm:List.length qu.1≤maxLen:=hwf.1.1.1
 simp only [Zeg,eq_self]
 refine ⟨⟨0,⟨Nat.zero_le _,Za3⟩,rfl⟩,fun k hk=>⟨fun hlt=>?_,fun hge=>?_⟩⟩
 ·repeat' (first | apply And.intro | intro _)
  all_goals first
   | trivial
   | omega
   | exact (ZHT (k:=k) (by omega) ⟨by assumption,by assumption⟩).symm
   | exact ⟨k + 1,⟨by omega,ZaU hk.2 (fun h=>by first | omega | exact absurd h.1 (by assumption) | exact absurd h.2 (by assumption))⟩,by omega,Zbs (by omega)⟩
 ·obtain rfl:k=List.length qu.1:=by omega
  first | exact (ZEq hk.2).symm | exact ⟨trivial,(ZEq hk.2).symm⟩
def Zuu:ZaE Tryz.prog:=⟨154,[.s Zdv, .v Za1],fun x=>True,fun x=>.c (.bool (Zsb x.1.1 x.2.1)),fun _=>[],fun x hx=>Zut x.1 x.2.1,Tryz.call154⟩
def ZBX (qu:ZbH):Nat→List AV→Mem→Zbd
 | 2,tm,M=>⟨Nat,fun y=>(Zcf (Zcf (Zct tm [(9, .c (.int .i64 ((y:Nat):Int)))]) 2 4) 10 47,M),fun y=>(y≤List.length qu.1∧∀ j,j < y→Zv0 qu j=false),fun y=>(List.length qu.1 - y)⟩
 | _,_,_=>⟨Unit,fun _=>([],[]),fun _=>False,fun _=>0⟩
def ZBY (qu:ZbH) (y0:Nat):Prop:=T2 (∃ y0' : Nat,(y0'≤qu.1.length∧∀ j,j < y0'→Zv0 qu j=false)∧(qu.1.length - y0') < (qu.1.length - y0)∧lxs [.ag [.hs .no Zal qu.1, .bool qu.2.1, .bool qu.2.2], .c (.bp 0 0)] (TN 4 (lxs [.c (.bp 0 0),hn Zal qu.1,ci qu.1.length] (vI (w64 ((y0:Int) + 1)) y0'∧TN 47 (tpn 4 True))))∧pt (lb (.box [.hs .no Zal qu.1, .bool qu.2.1, .bool qu.2.2])∧True))
def ZBZ (qu:ZbH) (y0:Nat):Prop:=T4 (bif eqI (Zaf qu.1 y0).1 2 then T3 (pt True∧T2 (bif ZFD (List.drop (Int.toNat 0) (List.take y0 qu.1)) (Zaf qu.1 y0) then True∧rB false (Zcg qu) else ZBY qu y0)) else T2 (ZBY qu y0))
def ZB0 (qu:ZbH) (y0:Nat):Prop:=True∧pt True∧True∧bif neI (Zaf qu.1 y0).1 1 then T5 (bif qu.2.2 then T2 (rB false (Zcg qu)) else ZBZ qu y0) else T3 (ZBZ qu y0)
theorem ZB1 (qu:ZbH):Zao Tryz.prog 115 [.ag [.hs .no Zal qu.1, .bool qu.2.1, .bool qu.2.2]] (.c (.bool (Zcg qu))) []:=by
 refine bc0 [ZFz,Zgj,Zna,Zpv,Zdt] [] [] [] (ZBX qu) Tryz.func115 (fun hwf=>?_)
 refine Eq.mpr (β:=T6 ((∃ q:Nat,(q≤qu.1.length∧∀ j,j < q→Zv0 qu j=false)∧lxs [.ag [.hs .no Zal qu.1, .bool qu.2.1, .bool qu.2.2], .c (.bp 0 0)] (TN 4 (lxs [.c (.bp 0 0),hn Zal qu.1,ci qu.1.length] (vI 0 q∧TN 47 (tpn 4 True))))∧pt (lb (.box [.hs .no Zal qu.1, .bool qu.2.1, .bool qu.2.2])∧True))∧∀ y0:Nat,(y0≤qu.1.length∧∀ j,j < y0→Zv0 qu j=false)→True∧bif ltI y0 qu.1.length then True∧ix 4 y0 qu.1.length∧T7 (((4:Nat)=4∧(0:Int)≤0∧(0:Int)≤(y0:Int)∧(y0:Int)≤(qu.1.length:Int))∧T3 (pt (true=true)∧True∧pt True∧T2 (bif !(Zc9 (Zaf qu.1 y0)) then T6 (rB false (Zcg qu)) else True∧pt True∧True∧bif eqI (Zaf qu.1 y0).1 1 then T3 (bif qu.2.1 then T8 (rB false (Zcg qu)) else T3 (pt True∧T5 (bif leI (Zaf qu.1 y0).2.1 (ZgL ((List.drop (Int.toNat 0) (List.take y0 qu.1)),false,false).1 (List.length ((List.drop (Int.toNat 0) (List.take y0 qu.1)),false,false).1)) then T4 (rB false (Zcg qu)) else ZB0 qu y0))) else T3 (ZB0 qu y0)))) else T5 (rB (leI qu.1.length 6) (Zcg qu)))) (by kernel_rfl) ?_
 unfold ZB0 ZBZ ZBY T2 T3 T4 T5 T6 T7 T8
 have hm:List.length qu.1≤maxLen:=hwf.1.1.1
 simp only [Zeg,eq_self]
 simp only [show Int.toNat 0=0 from rfl,List.drop_zero]
 refine ⟨⟨0,⟨Nat.zero_le _,Za3⟩,rfl⟩,fun k hk=>⟨fun hlt=>?_,fun hge=>?_⟩⟩
 ·repeat' (first | apply And.intro | intro _)
  all_goals as_aux_lemma=>first
   | trivial
   | omega
   | exact (ZsD (i:=k) (by omega) (by rw [← ZHU (by omega) hk.2]; simp_all [ZN1,ZaJ,ZaS,ZbW,Zby,Zcn,ZcT])).symm
   | exact ⟨k + 1,⟨by omega,ZaU hk.2 (by rw [← ZHU (by omega) hk.2]; simp_all [ZN1,ZaJ,ZaS,ZbW,Zby,Zcn,ZcT])⟩,by omega,Zbs (by omega)⟩
 ·exact ZzZ
def ZB2:ZaE Tryz.prog:=⟨115,[.s Zdv],fun x=>True,fun x=>.c (.bool (Zcg x.1)),fun _=>[],fun x hx=>ZB1 x.1,Tryz.call115⟩
def ZB3 (qu:ZbH):Nat→List AV→Mem→Zbd
 | 2,tm,M=>⟨Nat,fun y=>(Zcf (Zct tm [(2, .any),(3, .c (.int .i64 ((y:Nat):Int)))]) 4 59,M),fun y=>(y≤List.length qu.1∧∀ j,j < y→Zv0 qu j=false),fun y=>(List.length qu.1 - y)⟩
 | _,_,_=>⟨Unit,fun _=>([],[]),fun _=>False,fun _=>0⟩
def ZB4 (qu:ZbH) (y0:Nat):Prop:=T3 (∃ y0' : Nat,(y0'≤qu.1.length∧∀ j,j < y0'→Zv0 qu j=false)∧(qu.1.length - y0') < (qu.1.length - y0)∧lxs [.ag [.hs .no Zal qu.1, .bool qu.2.1, .bool qu.2.2], .c (.bp 0 0)] (True∧vI (w64 ((y0:Int) + 1)) y0'∧TN 59 (tpn 4 True))∧pt (lb (.box [.hs .no Zal qu.1, .bool qu.2.1, .bool qu.2.2])∧True))
def ZB5 (qu:ZbH) (y0:Nat):Prop:=T4 (bif eqI (Zaf qu.1 y0).1 2 then T3 (pt True∧T2 (bif Zsb ((List.drop (Int.toNat 0) (List.take y0 qu.1)),false,false).1 (Zaf qu.1 y0).2.2.2 then True∧rB false (Zcg qu) else ZB4 qu y0)) else T2 (ZB4 qu y0))
def ZB6 (qu:ZbH) (y0:Nat):Prop:=T3 (bif !(eqI (Zaf qu.1 y0).1 1) then T5 (bif qu.2.2 then T2 (rB false (Zcg qu)) else ZB5 qu y0) else T3 (ZB5 qu y0))
theorem ZB7 (qu:ZbH):Zao Tryz.prog 86 [.ag [.hs .no Zal qu.1, .bool qu.2.1, .bool qu.2.2]] (.c (.bool (Zcg qu))) []:=by
 refine bc0 [ZFB,ZwJ,Zuu] [] [] [] (ZB3 qu) Tryz.func86 (fun hwf=>?_)
 refine Eq.mpr (β:=T3 ((∃ q:Nat,(q≤qu.1.length∧∀ j,j < q→Zv0 qu j=false)∧lxs [.ag [.hs .no Zal qu.1, .bool qu.2.1, .bool qu.2.2], .c (.bp 0 0)] (True∧vI 0 q∧TN 59 (tpn 4 True))∧pt (lb (.box [.hs .no Zal qu.1, .bool qu.2.1, .bool qu.2.2])∧True))∧∀ y0:Nat,(y0≤qu.1.length∧∀ j,j < y0→Zv0 qu j=false)→T5 (bif ltI y0 qu.1.length then T3 (ix 4 y0 qu.1.length∧T6 (((4:Nat)=4∧(0:Int)≤0∧(0:Int)≤(y0:Int)∧(y0:Int)≤(qu.1.length:Int))∧T8 (pt True∧T2 (bif !(Zc9 (Zaf qu.1 y0)) then T6 (rB false (Zcg qu)) else T2 (bif eqI (Zaf qu.1 y0).1 1 then T3 (bif qu.2.1 then T8 (rB false (Zcg qu)) else T3 (pt True∧T5 (bif !(Zi4 ((List.drop (Int.toNat 0) (List.take y0 qu.1)),false,false).1 (Zaf qu.1 y0).2.1) then T4 (rB false (Zcg qu)) else ZB6 qu y0))) else T3 (ZB6 qu y0)))))) else T5 (rB (leI qu.1.length 6) (Zcg qu))))) (by kernel_rfl) ?_
 unfold ZB6 ZB5 ZB4 T2 T3 T4 T5 T6 T8
 have hm:List.length qu.1≤maxLen:=hwf.1.1.1
 simp only [Zeg,eq_self]
 simp only [show Int.toNat 0=0 from rfl,List.drop_zero]
 refine ⟨⟨0,⟨Nat.zero_le _,Za3⟩,rfl⟩,fun k hk=>⟨fun hlt=>?_,fun hge=>?_⟩⟩
 ·repeat' (first | apply And.intro | intro _)
  all_goals as_aux_lemma=>first
   | trivial
   | omega
   | exact (ZsD (i:=k) (by omega) (by simp_all [Zv0,ZaJ,ZaS,ZbW,Zby])).symm
   | exact ⟨k + 1,⟨by omega,ZaU hk.2 (by simp_all [Zv0,ZaJ,ZaS,ZbW,Zby])⟩,by omega,Zbs (by omega)⟩
 ·exact ZzZ
def ZeB:ZaE Tryz.prog:=⟨86,[.s Zdv],fun x=>True,fun x=>.c (.bool (Zcg x.1)),fun _=>[],fun x hx=>ZB7 x.1,Tryz.call86⟩
end Go.Proofs.YtafhbjjcpncfnaaGreat
