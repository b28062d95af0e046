import Derived.Test.YtkompmgleojmlaaGreatDBmTy
import Derived.Shelf.Strings.Search3
import Derived.Test.YtkompmgleojmlaaGreatDLawA
import Derived.Lib.IndexMore
import Derived.Test.YtkompmgleojmlaaGreatDBlLib
set_option linter.unusedSimpArgs false
set_option linter.unusedVariables false
namespace Go.Proofs.YtkompmgleojmlaaGreat
open Go.ChangeShapes Go.WideShapes Go.ChangeAt Go.RowKit Go.Joins Go.Deep
open GoRep (rep bulk)
def ZKp:Go.Shelf.Ren:=⟨fun | 143=>302 | 144=>276 | 217=>316 | 219=>313 | 224=>318 | 225=>317 | 266=>320 | 267=>319 | 314=>321 | n=>n,
  fun | 3=>3 | 4=>4 | 5=>5 | 9=>9 | 46=>267 | 51=>285 | 146=>302 | n=>n,
  fun | 1=>0 | n=>n⟩
open Go.Shelf in
theorem ZJO:Lays.n144 Tryz.prog ZKp where
  mixed:=by kernel_rfl
  f143:=Tryz.func302.trans (congrArg some (by kernel_rfl))
  f144:=Tryz.func276.trans (congrArg some (by kernel_rfl))
  f217:=Tryz.func316.trans (congrArg some (by kernel_rfl))
  f219:=Tryz.func313.trans (congrArg some (by kernel_rfl))
  f224:=Tryz.func318.trans (congrArg some (by kernel_rfl))
  f225:=Tryz.func317.trans (congrArg some (by kernel_rfl))
  f266:=Tryz.func320.trans (congrArg some (by kernel_rfl))
  f267:=Tryz.func319.trans (congrArg some (by kernel_rfl))
  f314:=Tryz.func321.trans (congrArg some (by kernel_rfl))
  t3:=Tryz.underlying3
  a3:=Tryz.isAgg3
  z3:=Tryz.sizeOf3
  v3:=Tryz.zeroValue3
  t4:=Tryz.underlying4
  a4:=Tryz.isAgg4
  z4:=Tryz.sizeOf4
  v4:=Tryz.zeroValue4
  t5:=Tryz.underlying5
  a5:=Tryz.isAgg5
  z5:=Tryz.sizeOf5
  v5:=Tryz.zeroValue5
  t9:=Tryz.underlying9
  a9:=Tryz.isAgg9
  z9:=Tryz.sizeOf9
  v9:=Tryz.zeroValue9
  t46:=Tryz.underlying267
  a46:=Tryz.isAgg267
  z46:=Tryz.sizeOf267
  v46:=Tryz.zeroValue267
  t51:=Tryz.underlying285
  a51:=Tryz.isAgg285
  z51:=Tryz.sizeOf285
  v51:=Tryz.zeroValue285
  t146:=Tryz.underlying302
  a146:=Tryz.isAgg302
  z146:=Tryz.sizeOf302
  v146:=Tryz.zeroValue302
  g1:=by kernel_rfl
def ZHj (s t:ByteArray):Bool:=Lib.contains s.data.toList t.data.toList
theorem Zj2 (s t:ByteArray) (h:s.size < 4294967281):Zai Tryz.prog 276 [.c (.str s), .c (.str t)] (.c (.bool (ZHj s t))) []:=by
  intro X W vs hX hgl hr
  obtain ⟨v,r,rfl,⟨rfl,hw⟩,u,r2,rfl,⟨rfl,hu⟩,hn⟩:=hr
  obtain rfl:r2=[]:=hn
  obtain ⟨⟨m,hm⟩,_⟩:=hgl 0 (List.mem_cons_self)
  refine (Any.strings_Contains ZJO s t m W h hm).mono fun e W' he=>?_
  obtain ⟨rfl,rfl⟩:=he
  exact ⟨_,[],rfl,Zbe.refl W' [],ZJd hX,rfl⟩
def Zj3:Zat Tryz.prog:=⟨276,[.v ZaL, .v ZaL],fun x=>ByteArray.size x.1 < 4294967281,fun x=>.c (.bool (ZHj x.1 x.2.1)),fun _=>[],fun x hx=>Zj2 x.1 x.2.1 hx,Tryz.call276⟩
theorem ZGN:∀ (x y:List UInt8),(Op.bytesLess x y || decide (x=y))=!Op.bytesLess y x
  | [],[]=>by simp [Op.bytesLess]
  | _ :: _,[]=>by simp [Op.bytesLess]
  | [],_ :: _=>by simp [Op.bytesLess]
  | a :: x,b :: y=>by
    have ih:=ZGN x y
    rw [Op.bytesLess,Op.bytesLess]
    rcases Nat.lt_trichotomy a.toNat b.toNat with h | h | h
    · have h1:a < b:=h
      have h2:¬ b < a:=fun h'=>by have:b.toNat < a.toNat:=h'; omega
      exact Zwq
    · have e:a=b:=UInt8.toNat_inj.1 h
      subst e
      have h2:¬ a < a:=fun h'=>by have:a.toNat < a.toNat:=h'; omega
      simpa [h2] using ih
    · have h1:b < a:=h
      have h2:¬ a < b:=fun h'=>by have:a.toNat < b.toNat:=h'; omega
      exact Zwq
theorem ZGO (a b:ByteArray):(Op.bytesLess a.toList b.toList || decide (a=b))=!Op.bytesLess b.toList a.toList:=by
  rw [← ZGN]
  congr 1
  rw [decide_eq_decide,ByteArray.toList_eq,ByteArray.toList_eq]
  exact ⟨fun h=>by rw [h],fun h=>ByteArray.ext (Array.toList_inj.1 h)⟩
theorem Zgh {s:ByteArray} {i:Nat} (h:i < s.size):∃ b,s.data.toList[i]?=some b∧ZaN s i=(b.toNat:Nat):=by
  have hl:i < s.data.toList.length:=h
  refine ⟨s.data.toList[i],List.getElem?_eq_getElem hl,?_⟩
  unfold ZaN
  rw [List.getD_eq_getElem?_getD,List.getElem?_eq_getElem hl]
  rfl
theorem Zmn (s:ByteArray) (i:Nat):0≤ZaN s i∧ZaN s i≤255:=by
  unfold ZaN
  have:=(s.data.toList.getD i 0).toNat_lt
  omega
theorem ZCZ (l:List UInt8) (a b:UInt8) (i:Nat):Lib.occAt l [a,b] i=true↔l[i]?=some a∧l[i + 1]?=some b:=by
  unfold Lib.occAt
  have h0:(l.drop i)[0]?=l[i]?:=by rw [List.getElem?_drop]; rfl
  have h1:(l.drop i)[1]?=l[i + 1]?:=by rw [List.getElem?_drop]
  rw [← h0,← h1]
  cases l.drop i with
  | nil=>simp
  | cons x r =>
    cases r with
    | nil=>simp [List.isPrefixOf]
    | cons y r =>
      simp only [List.isPrefixOf,Bool.and_true,Bool.and_eq_true,beq_iff_eq,List.getElem?_cons_zero,List.getElem?_cons_succ,Option.some.injEq]
      exact ⟨fun h=>⟨h.1.symm,h.2.symm⟩,fun h=>⟨h.1.symm,h.2.symm⟩⟩
theorem ZmQ (s:ByteArray):ZHj s (⟨#[47,47]⟩:ByteArray)=true↔∃ i,i + 1 < s.size∧ZaN s i=47∧ZaN s (i + 1)=47:=by
  have hb:∀ i,i < s.size→(ZaN s i=47↔s.data.toList[i]?=some 47):=fun i hi=>by
    obtain ⟨b,h1,h2⟩:=Zgh hi
    rw [h1,h2]
    constructor
    · intro h
      have:b.toNat=47:=by omega
      exact congrArg some (UInt8.toNat_inj.1 this)
    · intro h
      obtain rfl:=Option.some.inj h
      rfl
  have hlen:s.data.toList.length=s.size:=rfl
  show Lib.contains s.data.toList [47,47]=true↔_
  unfold Lib.contains
  rw [decide_eq_true_eq]
  rcases Lib.index_spec s.data.toList [47,47] with ⟨h1,h2⟩ | ⟨i,h1,h2,h3,_⟩
  · constructor
    · intro h; omega
    · rintro ⟨i,hi,ha,hc⟩
      have:=h2 i (by omega)
      rw [(ZCZ _ _ _ _).2 ⟨(hb i (by omega)).1 ha,(hb (i + 1) hi).1 hc⟩] at this
      cases this
  · constructor
    · intro _
      obtain ⟨ha,hc⟩:=(ZCZ _ _ _ _).1 h3
      have hi:i + 1 < s.size:=(List.getElem?_eq_some_iff.1 hc).1
      exact ⟨i,hi,(hb i (by omega)).2 ha,(hb (i + 1) hi).2 hc⟩
    · intro _; omega
def ZiR (s:ByteArray) (i:Nat):Prop:=(ZaN s i=47∧(i=0∨i + 1=s.size∨ZaN s (i - 1)=47))∨(ZaN s i ≠ 47∧(ZaN s i < 97∨122 < ZaN s i))
instance (s:ByteArray) (i:Nat):Decidable (ZiR s i):=by unfold ZiR; infer_instance
def Zbo (s:ByteArray):Bool:=decide ((∀ i,i < s.size→¬ ZiR s i)∧1≤s.size∧s.size≤12)
theorem ZhH {s:ByteArray} {i:Nat} (hi:i < s.size) (h:ZiR s i):Zbo s=false:=decide_eq_false fun q=>q.1 i hi h
theorem Zk1 {s:ByteArray} (h:∀ i,i < s.size→¬ ZiR s i):Zbo s=btw (s.size:Nat) 1 12:=by
  unfold Zbo
  exact Zv8
theorem Zxv {s:ByteArray} (h:btw (s.size:Nat) 1 12=false):Zbo s=false:=decide_eq_false fun q=>by rw [Zbs] at h; omega
def upI (x:Int):Int:=if 97≤x∧x≤122 then x - 32 else x
def upB (x:UInt8):UInt8:=if 97≤x.toNat∧x.toNat≤122 then x - 32 else x
def upT (s:ByteArray):ByteArray:=⟨s.data.map upB⟩
theorem Zmo (s:ByteArray):(upT s).size=s.size:=by show (s.data.map upB).size=s.data.size; simp
theorem ZHk (x:UInt8):((upB x).toNat:Int)=upI x.toNat:=by
  unfold upB upI
  split
  · rw [if_pos (by omega),UInt8.toNat_sub]
    simp
    omega
  · rw [if_neg (by omega)]
theorem ZGP {s:ByteArray} {i:Nat} (h:i < s.size):ZaN (upT s) i=upI (ZaN s i):=by
  obtain ⟨b,h1,h2⟩:=Zgh h
  obtain ⟨c,h3,h4⟩:=Zgh (s:=upT s) (i:=i) (by rw [Zmo]; exact h)
  rw [h2,h4,← ZHk]
  have:(upT s).data.toList[i]?=some (upB b):=by
    show (s.data.map upB).toList[i]?=_
    rw [Array.toList_map,List.getElem?_map,h1]
    rfl
  rw [this] at h3
  obtain rfl:=Option.some.inj h3
  rfl
theorem ZHl {s:ByteArray} {i:Nat} (h:i < s.size):(s.extract i (i + 1)).size=1∧ZaN (s.extract i (i + 1)) 0=ZaN s i:=by
  have hs:(s.extract i (i + 1)).size=1:=by rw [ByteArray.size_extract]; omega
  refine ⟨hs,?_⟩
  obtain ⟨b,h1,h2⟩:=Zgh h
  obtain ⟨c,h3,h4⟩:=Zgh (s:=s.extract i (i + 1)) (i:=0) (by omega)
  rw [h2,h4]
  have:(s.extract i (i + 1)).data.toList[0]?=some b:=by
    rw [ByteArray.data_extract,Array.toList_extract,List.extract_eq_take_drop,List.getElem?_take,if_pos (by omega),List.getElem?_drop]
    exact h1
  rw [this] at h3
  obtain rfl:=Option.some.inj h3
  rfl
theorem ZIk {s:ByteArray} {i:Nat} (h:i < s.size):(upT (s.extract i (i + 1))).size=1∧ZaN (upT (s.extract i (i + 1))) 0=upI (ZaN s i):=by
  have:=ZHl h
  exact ⟨by rw [Zmo]; exact this.1,by rw [ZGP (by omega),this.2]⟩
def ZhI (x:Int):Prop:=¬ ((97≤x∧x≤122)∨(65≤x∧x≤90)∨(48≤x∧x≤57))
instance (x:Int):Decidable (ZhI x):=by unfold ZhI; infer_instance
def Zj4 (s:ByteArray):Bool:=decide ((∀ i,i < s.size→¬ ZhI (ZaN s i))∧1≤s.size∧s.size≤8)
theorem ZzU {s:ByteArray} {i:Nat} (hi:i < s.size) (h:ZhI (ZaN s i)):Zj4 s=false:=decide_eq_false fun q=>q.1 i hi h
theorem ZsQ {s:ByteArray} (h:∀ i,i < s.size→¬ ZhI (ZaN s i)):Zj4 s=btw (s.size:Nat) 1 8:=by
  unfold Zj4
  exact Zv8
set_option maxRecDepth 100000
set_option maxHeartbeats 4000000
theorem ZAT (n:Int) (lo:Int) (hi:Int):Zai Tryz.prog 91 [.c (.int .i64 n), .c (.int .i64 lo), .c (.int .i64 hi)] (.c (.bool (btw n lo hi))) []:=by
  refine bc0 [] [] [] [] L0 Tryz.func91 (fun hwf=>?_)
  exact Zvd
def Zb0:Zat Tryz.prog:=⟨91,[.v ZaC, .v ZaC, .v ZaC],fun x=>True,fun x=>.c (.bool (btw x.1 x.2.1 x.2.2.1)),fun _=>[],fun x hx=>ZAT x.1 x.2.1 x.2.2.1,Tryz.call91⟩
theorem ZFe (n:Int) (lo:Int) (hi:Int):Zai Tryz.prog 67 [.c (.int .i64 n), .c (.int .i64 lo), .c (.int .i64 hi)] (.c (.bool (btw n lo hi))) []:=by
  refine bc0 [] [] [] [] L0 Tryz.func67 (fun hwf=>?_)
  exact Zvd
def ZbW:Zat Tryz.prog:=⟨67,[.v ZaC, .v ZaC, .v ZaC],fun x=>True,fun x=>.c (.bool (btw x.1 x.2.1 x.2.2.1)),fun _=>[],fun x hx=>ZFe x.1 x.2.1 x.2.2.1,Tryz.call67⟩
theorem ZC0 (a:Int) (b:Int):Zai Tryz.prog 137 [.c (.int .i64 a), .c (.int .i64 b)] (.c (.int .i64 (min a b))) []:=by
  refine bc0 [] [] [] [] L0 Tryz.func137 (fun hwf=>?_)
  refine Eq.mpr (β:=(T4 (bif (ltI a b) then (T2 (rI a (min a b))) else (T2 (rI b (min a b)))))) (by kernel_rfl) ?_
  exact ZvZ
def ZC1:Zat Tryz.prog:=⟨137,[.v ZaC, .v ZaC],fun x=>True,fun x=>.c (.int .i64 (min x.1 x.2.1)),fun _=>[],fun x hx=>ZC0 x.1 x.2.1,Tryz.call137⟩
theorem ZC2 (a:Int) (b:Int):Zai Tryz.prog 46 [.c (.int .i64 a), .c (.int .i64 b)] (.c (.int .i64 (max a b))) []:=by
  refine bc0 [] [] [] [] L0 Tryz.func46 (fun hwf=>?_)
  refine Eq.mpr (β:=(T4 (bif (gtI a b) then (T2 (rI a (max a b))) else (T2 (rI b (max a b)))))) (by kernel_rfl) ?_
  exact ZvZ
def ZsR:Zat Tryz.prog:=⟨46,[.v ZaC, .v ZaC],fun x=>True,fun x=>.c (.int .i64 (max x.1 x.2.1)),fun _=>[],fun x hx=>ZC2 x.1 x.2.1,Tryz.call46⟩
def ZEZ (x:Int):Prop:=x=47∨(97≤x∧x≤122)
theorem ZHm {s:ByteArray} {i:Nat} (hi:i < s.size) (h:¬ ZEZ (ZaN s i)):Zbo s=false:=ZhH hi (by unfold ZEZ at h; unfold ZiR; right; omega)
theorem ZFf {s:ByteArray} (hi:1≤s.size) (h:ZaN s 0=47):Zbo s=false:=ZhH (i:=0) (by omega) (by unfold ZiR; left; omega)
theorem ZHn {s:ByteArray} (hi:1≤s.size) (h:ZaN s (s.size - 1)=47):Zbo s=false:=ZhH (i:=s.size - 1) (by omega) (by unfold ZiR; left; omega)
theorem ZIl {s:ByteArray} (hc:∀ j,j < s.size→ZEZ (ZaN s j)) (hb:btw ((s.size:Nat):Int) 1 12=true) (h0:¬ ZaN s 0=47) (h1:¬ ZaN s (s.size - 1)=47):(!ZHj s (⟨#[47,47]⟩:ByteArray))=Zbo s:=by
  cases hs:ZHj s (⟨#[47,47]⟩:ByteArray) with
  | true =>
    obtain ⟨i,hi,ha,hb'⟩:=(ZmQ s).1 hs
    exact (ZhH (i:=i + 1) hi (by unfold ZiR; left; exact ⟨hb', .inr (.inr (by simpa using ha))⟩)).symm
  | false =>
    rw [Zk1,hb]
    · rfl
    · intro i hi hbad
      have hci:=hc i hi
      unfold ZiR at hbad
      unfold ZEZ at hci
      rcases hbad with ⟨q,rfl | q2 | q2⟩ | ⟨q,q2⟩
      · exact h0 q
      · exact h1 (by rw [show s.size - 1=i by omega]; exact q)
      · have h2:ZHj s (⟨#[47,47]⟩:ByteArray)=true:=(ZmQ s).2 ⟨i - 1,by
          have:i ≠ 0:=fun e=>by subst e; exact h0 q
          omega,q2,by
          have:i ≠ 0:=fun e=>by subst e; exact h0 q
          rw [show i - 1 + 1=i by omega]; exact q⟩
        rw [hs] at h2
        cases h2
      · omega
def ZAU (s:ByteArray):Nat→List AV→Mem→Za3
  | 2,tm,M=>⟨Nat,fun y=>(Zb2 (Zcx tm [(2, .any),(3, .any),(6, .c (.int .i64 ((y:Nat):Int)))]) 7 19,M),fun y=>(y≤ByteArray.size s∧∀ j,j < y→ZEZ (ZaN s j)),fun y=>(ByteArray.size s - y)⟩
  | _,_,_=>⟨Unit,fun _=>([],[]),fun _=>False,fun _=>0⟩
def Zxw (s:ByteArray) (y0:Nat):Prop:=(T2 (∃ y0' : Nat,(y0'≤ByteArray.size s∧∀ j,j < y0'→ZEZ (ZaN s j))∧(ByteArray.size s - y0') < (ByteArray.size s - y0)∧((lxs [.c (.str s), .tp []] (True∧True∧lxs [.c (.str s),ci (ByteArray.size s)] (vI (w64 ((y0:Int) + 1)) y0'∧TN 19 (tpn 21 True))))∧pt (True))))
def Zq2 (y0:Nat) (s:ByteArray):Prop:=((0:Int)≤(y0:Int)∧((y0:Int):Int) < (ByteArray.size s:Int))
theorem ZAV (s:ByteArray):Zai Tryz.prog 244 [.c (.str s)] (.c (.bool (Zbo s))) []:=by
  refine bc0 [Zb0,Zj3] [] [] [] (ZAU s) Tryz.func244 (fun hwf=>?_)
  refine Eq.mpr (β:=(T4 ((∃ q:Nat,(q≤ByteArray.size s∧∀ j,j < q→ZEZ (ZaN s j))∧((lxs [.c (.str s), .tp []] (True∧True∧lxs [.c (.str s),ci (ByteArray.size s)] (vI 0 q∧TN 19 (tpn 21 True))))∧pt (True)))∧∀ y0:Nat,(y0≤ByteArray.size s∧∀ j,j < y0→ZEZ (ZaN s j))→(True∧(bif (ltI y0 (ByteArray.size s)) then (T4 ((Zq2 y0 s)∧(T2 (bif (neI (ZaN s y0) 47) then (T2 ((Zq2 y0 s)∧(T2 (bif (ltI (ZaN s y0) 97) then (T3 (rB false (Zbo s))) else (T2 ((Zq2 y0 s)∧(T3 (bif (gtI (ZaN s y0) 122) then (True∧(rB false (Zbo s))) else (Zxw s y0))))))))) else (True∧(Zxw s y0)))))) else (T2 ((pt True)∧(True∧(bif btw (ByteArray.size s:Int) 1 12 then (True∧(((0:Int)≤0∧(0:Int) < (ByteArray.size s:Int))∧(T3 (bif (neI (ZaN s (Int.toNat 0)) 47) then (T4 (((0:Int)≤(w64 ((ByteArray.size s:Int) - 1))∧((w64 ((ByteArray.size s:Int) - 1)):Int) < (ByteArray.size s:Int))∧(T3 (bif (neI (ZaN s (Int.toNat (w64 ((ByteArray.size s:Int) - 1)))) 47) then (True∧((pt (ByteArray.size s < 4294967281))∧(T3 (rB (!(ZHj s (⟨#[47,47]⟩:ByteArray))) (Zbo s))))) else (T2 (rB false (Zbo s))))))) else (T4 (rB false (Zbo s))))))) else (T6 (rB false (Zbo s)))))))))))) (by kernel_rfl) ?_
  unfold Zq2 Zxw T2 T3 T4 T6
  have hm:s.size≤maxLen:=hwf.1
  unfold maxLen at hm
  have e1:1≤s.size→Int.toNat (IntKind.wrap .i64 (((ByteArray.size s:Nat):Int) - 1))=s.size - 1:=fun h=>by rw [Zgf (by omega) (by omega)]; omega
  have e2:IntKind.wrap .i64 (((ByteArray.size s:Nat):Int) - 1)=((ByteArray.size s:Nat):Int) - 1:=Zgf (by omega) (by omega)
  simp only [Zdy,eq_self]
  refine ⟨⟨0,⟨Nat.zero_le _,fun j hj=>absurd hj (Nat.not_lt_zero j)⟩,rfl⟩,fun k hk=>⟨fun hlt=>?_,fun hge=>?_⟩⟩
  · have hb:=Zmn s k
    repeat' (first | apply And.intro | intro _)
    all_goals first
      | trivial
      | omega
      | exact (ZHm (i:=k) (by omega) (by unfold ZEZ; omega)).symm
      | exact ⟨k + 1,⟨by omega,fun j hj=>if h:j < k then hk.2 j h else by obtain rfl:j=k:=(by omega); unfold ZEZ; omega⟩,by omega,Zbj (by unfold maxLen; omega)⟩
  · obtain rfl:k=s.size:=by omega
    repeat' (first | apply And.intro | intro _)
    all_goals first
      | trivial
      | (rw [Zbd] at *; omega)
      | (have hb1:=Zbd.1 (by assumption:btw ((ByteArray.size s:Nat):Int) 1 12=true); first | omega | (rw [e1 (by omega)] at *; first | exact ZIl hk.2 (by assumption) (by assumption) (by assumption) | exact (ZHn (by omega) (by assumption)).symm) | exact (ZFf (by omega) (by assumption)).symm)
      | exact (Zxv (by assumption)).symm
def Zit:Zat Tryz.prog:=⟨244,[.v ZaL],fun x=>True,fun x=>.c (.bool (Zbo x.1)),fun _=>[],fun x hx=>ZAV x.1,Tryz.call244⟩
def ZAW (s:ByteArray):Nat→List AV→Mem→Za3
  | 2,tm,M=>⟨Nat,fun y=>(Zb2 (Zcx tm [(2, .any),(3, .c (.int .i64 ((y:Nat):Int)))]) 4 36,M),fun y=>(y≤ByteArray.size s∧∀ j,j < y→¬ ZiR s j),fun y=>(ByteArray.size s - y)⟩
  | _,_,_=>⟨Unit,fun _=>([],[]),fun _=>False,fun _=>0⟩
def Zxx (s:ByteArray) (y0:Nat):Prop:=(T3 (∃ y0' : Nat,(y0'≤ByteArray.size s∧∀ j,j < y0'→¬ ZiR s j)∧(ByteArray.size s - y0') < (ByteArray.size s - y0)∧((lxs [.c (.str s), .tp []] (True∧vI (w64 ((y0:Int) + 1)) y0'∧TN 36 (tpn 3 True)))∧pt (True))))
def Zq3 (y0:Nat) (s:ByteArray):Prop:=((0:Int)≤(y0:Int)∧((y0:Int):Int) < (ByteArray.size s:Int))
theorem ZAX (s:ByteArray):Zai Tryz.prog 222 [.c (.str s)] (.c (.bool (Zbo s))) []:=by
  refine bc0 [ZbW] [] [] [] (ZAW s) Tryz.func222 (fun hwf=>?_)
  refine Eq.mpr (β:=(T2 ((∃ q:Nat,(q≤ByteArray.size s∧∀ j,j < q→¬ ZiR s j)∧((lxs [.c (.str s), .tp []] (True∧vI 0 q∧TN 36 (tpn 3 True)))∧pt (True)))∧∀ y0:Nat,(y0≤ByteArray.size s∧∀ j,j < y0→¬ ZiR s j)→(T4 (bif (ltI y0 (ByteArray.size s)) then (T2 ((Zq3 y0 s)∧(True∧(bif (eqI (ZaN s y0) 47) then (T3 (bif (eqI y0 0) then (T4 (rB false (Zbo s))) else (T7 (bif (eqI y0 (w64 ((ByteArray.size s:Int) - 1))) then (T2 (rB false (Zbo s))) else (T3 (((0:Int)≤(w64 ((y0:Int) - 1))∧((w64 ((y0:Int) - 1)):Int) < (ByteArray.size s:Int))∧(T2 (bif (eqI (ZaN s (Int.toNat (w64 ((y0:Int) - 1)))) 47) then (True∧(rB false (Zbo s))) else (Zxx s y0))))))))) else (T2 ((Zq3 y0 s)∧(T2 (bif (ltI (ZaN s y0) 97) then (T2 (rB false (Zbo s))) else (T2 ((Zq3 y0 s)∧(T2 (bif (gtI (ZaN s y0) 122) then (True∧(rB false (Zbo s))) else (Zxx s y0))))))))))))) else (T2 ((pt True)∧(True∧(rB (btw (ByteArray.size s:Int) 1 12) (Zbo s)))))))))) (by kernel_rfl) ?_
  unfold Zq3 Zxx T2 T3 T4 T7
  have hm:s.size≤maxLen:=hwf.1
  unfold maxLen at hm
  have e2:IntKind.wrap .i64 (((ByteArray.size s:Nat):Int) - 1)=((ByteArray.size s:Nat):Int) - 1:=Zgf (by omega) (by omega)
  simp only [Zdy,eq_self]
  refine ⟨⟨0,⟨Nat.zero_le _,fun j hj=>absurd hj (Nat.not_lt_zero j)⟩,rfl⟩,fun k hk=>⟨fun hlt=>?_,fun hge=>?_⟩⟩
  · have hb:=Zmn s k
    have e3:IntKind.wrap .i64 (((k:Nat):Int) - 1)=((k:Nat):Int) - 1:=Zgf (by omega) (by omega)
    have e4:1≤k→Int.toNat (((k:Nat):Int) - 1)=k - 1:=fun h=>by omega
    simp only [e2,e3]
    repeat' (first | apply And.intro | intro _)
    all_goals first
      | trivial
      | omega
      | exact (ZhH (i:=k) (by omega) (by unfold ZiR; first | (right; omega) | (left; refine ⟨by assumption,?_⟩; first | (left; omega) | (right; left; omega) | (right; right; rw [← e4 (by omega)]; assumption)))).symm
      | exact ⟨k + 1,⟨by omega,fun j hj=>if h:j < k then hk.2 j h else by obtain rfl:j=k:=(by omega); unfold ZiR; first | (rintro (⟨q,q2⟩ | ⟨q,q2⟩) <;> omega) | (rw [e4 (by omega)] at *; rintro (⟨q,rfl | q2 | q2⟩ | ⟨q,q2⟩) <;> first | omega | contradiction)⟩,by omega,Zbj (by unfold maxLen; omega)⟩
  · obtain rfl:k=s.size:=by omega
    first | exact (Zk1 hk.2).symm | exact ⟨trivial,(Zk1 hk.2).symm⟩
def Ziu:Zat Tryz.prog:=⟨222,[.v ZaL],fun x=>True,fun x=>.c (.bool (Zbo x.1)),fun _=>[],fun x hx=>ZAX x.1,Tryz.call222⟩
def Zcg (n:Zaz):Bool:=if n.1=1 then (btw n.2.1 0 300 && (btw n.2.2.1 0 999999998 && eqS n.2.2.2 (⟨#[]⟩:ByteArray))) else (btw n.1 2 4 && (eqI n.2.1 0 && (eqI n.2.2.1 0 && Zbo n.2.2.2)))
theorem ZAY (n:Zaz):Zai Tryz.prog 177 [.ag (cellsOf Zah n)] (.c (.bool (Zcg n))) []:=by
  refine bc0 [Zb0,Zit] [] [] [] L0 Tryz.func177 (fun hwf=>?_)
  exact Zu1
def ZAZ:Zat Tryz.prog:=⟨177,[.s Zah],fun x=>True,fun x=>.c (.bool (Zcg x.1)),fun _=>[],fun x hx=>ZAY x.1,Tryz.call177⟩
theorem ZA0 (n:Zaz):Zai Tryz.prog 154 [.ag (cellsOf Zah n)] (.c (.bool (Zcg n))) []:=by
  refine bc0 [ZbW,Ziu] [] [] [] L0 Tryz.func154 (fun hwf=>?_)
  exact Zu1
def ZA1:Zat Tryz.prog:=⟨154,[.s Zah],fun x=>True,fun x=>.c (.bool (Zcg x.1)),fun _=>[],fun x hx=>ZA0 x.1,Tryz.call154⟩
theorem ZIm {a b:Int}:(if b > a then b else a)=max a b:=by omega
def Ze4 (l:List Zaz):Nat→Int
  | 0=>-1
  | k + 1=>if (Zad l k).1=1 then max (Ze4 l k) (Zad l k).2.1 else Ze4 l k
def Zhe (l:List Zaz) (n:Int):Bool:=!List.any l (fun z0:Zaz=>eqI z0.1 1 && geI z0.2.1 n)
def Zpd (l:List Zaz) (s:ByteArray):Bool:=List.any l (fun z0:Zaz=>eqI z0.1 2 && eqS z0.2.2.2 s)
theorem ZzV {l:List Zaz} {n:Int}:∀ {k:Nat},n≤Ze4 l k↔n≤-1∨∃ j,j < k∧(Zad l j).1=1∧n≤(Zad l j).2.1
  | 0=>by
    unfold Ze4
    constructor
    · exact .inl
    · rintro (h | ⟨j,hj,_⟩)
      · exact h
      · omega
  | k + 1=>by
    have ih:=ZzV (l:=l) (n:=n) (k:=k)
    unfold Ze4
    constructor
    · intro h
      split at h
      · rename_i h1
        by_cases h2:n≤Ze4 l k
        · rcases ih.1 h2 with h3 | ⟨j,a,b⟩
          · exact .inl h3
          · exact .inr ⟨j,by omega,b⟩
        · exact .inr ⟨k,by omega,h1,by omega⟩
      · rcases ih.1 h with h3 | ⟨j,a,b⟩
        · exact .inl h3
        · exact .inr ⟨j,by omega,b⟩
    · intro h
      have:n≤Ze4 l k∨((Zad l k).1=1∧n≤(Zad l k).2.1):=by
        rcases h with h | ⟨j,a,b,c⟩
        · exact .inl (ih.2 (.inl h))
        · by_cases hj:j=k
          · subst hj; exact .inr ⟨b,c⟩
          · exact .inl (ih.2 (.inr ⟨j,by omega,b,c⟩))
      split
      · rcases this with h | h <;> omega
      · rename_i h1
        rcases this with h | h
        · exact h
        · exact absurd h.1 h1
theorem ZC3 {l:List Zaz} {j:Nat} {z:Zaz} (hj:j < List.length l) (e:l[j]=z):Zad l j=z:=by
  have h:l[j]?=some z:=by rw [List.getElem?_eq_getElem hj,e]
  exact ZdB (t:=Zah) h
theorem ZA2 {l:List Zaz} {n:Int} (h:0≤n):Zhe l n=decide (Ze4 l (List.length l) < n):=by
  rw [Bool.eq_iff_iff,decide_eq_true_eq]
  have h1:=ZzV (l:=l) (n:=n) (k:=List.length l)
  unfold Zhe
  rw [Bool.not_eq_true',← Bool.not_eq_true,List.any_eq_true]
  constructor
  · intro q
    refine Int.not_le.1 fun hn=>?_
    rcases h1.1 hn with h2 | ⟨j,a,b,c⟩
    · omega
    · exact q ⟨Zad l j,List.mem_of_getElem? (Zap (t:=Zah) a),by rw [Bool.and_eq_true,Zao,ZcW]; exact ⟨b,c⟩⟩
  · rintro q ⟨z,hz,hp⟩
    obtain ⟨j,hj,e⟩:=List.getElem_of_mem hz
    have e2:Zad l j=z:=ZC3 hj e
    rw [Bool.and_eq_true,Zao,ZcW] at hp
    exact absurd (h1.2 (.inr ⟨j,hj,by rw [e2]; exact hp.1,by rw [e2]; exact hp.2⟩)) (by omega)
theorem Zq4 (n:Zaz):Zai Tryz.prog 108 [.ag (cellsOf Zah n)] (.c (.bool (eqI n.1 1))) []:=by
  refine bc0 [] [] [] [] L0 Tryz.func108 (fun hwf=>?_)
  refine Eq.mpr (β:=(T6 (rB (eqI n.1 1) (eqI n.1 1)))) (by kernel_rfl) ?_
  exact Zdo
def ZeP:Zat Tryz.prog:=⟨108,[.s Zah],fun x=>True,fun x=>.c (.bool (eqI x.1.1 1)),fun _=>[],fun x hx=>Zq4 x.1,Tryz.call108⟩
theorem ZmR (n:Zaz):Zai Tryz.prog 179 [.ag (cellsOf Zah n)] (.c (.bool (neI n.1 1))) []:=by
  refine bc0 [] [] [] [] L0 Tryz.func179 (fun hwf=>?_)
  refine Eq.mpr (β:=(T6 (rB (neI n.1 1) (neI n.1 1)))) (by kernel_rfl) ?_
  exact Zdo
def ZmS:Zat Tryz.prog:=⟨179,[.s Zah],fun x=>True,fun x=>.c (.bool (neI x.1.1 1)),fun _=>[],fun x hx=>ZmR x.1,Tryz.call179⟩
def Zk2 (qu:Zbc):Nat→List AV→Mem→Za3
  | 3,tm,M=>⟨Nat,fun y=>(Zb2 (Zcx tm [(3, .c (.int .i64 (Ze4 qu.1 y))),(5, .any),(9, .c (.int .i64 ((y:Nat):Int)))]) 10 10,M),fun y=>(y≤List.length qu.1),fun y=>(List.length qu.1 - y)⟩
  | _,_,_=>⟨Unit,fun _=>([],[]),fun _=>False,fun _=>0⟩
def Zxy (qu:Zbc) (y0:Nat) (y0' : Nat):Prop:=(True∧lxs [.c (.bp 0 0),hn Zah qu.1,ci (List.length qu.1)] (vI (w64 ((y0:Int) + 1)) y0'∧TN 10 (lxs [.tp []] True)))
def Zju (qu:Zbc):List AC:=[.hs .no Zah qu.1, .bool qu.2.1, .bool qu.2.2]
theorem Zk3 (qu:Zbc):Zai Tryz.prog 178 [.ag [.hs .no Zah qu.1, .bool qu.2.1, .bool qu.2.2]] (.c (.int .i64 (Ze4 qu.1 (List.length qu.1)))) []:=by
  refine bc0 [ZeP] [] [] [] (Zk2 qu) Tryz.func178 (fun hwf=>?_)
  refine Eq.mpr (β:=(T7 ((∃ q:Nat,(q≤List.length qu.1)∧((lxs [.ag (Zju qu), .c (.bp 0 0),ci 0] (vI (-1) (Ze4 qu.1 q)∧lxs [.tp []] (True∧lxs [.c (.bp 0 0),hn Zah qu.1,ci (List.length qu.1)] (vI 0 q∧TN 10 (lxs [.tp []] True)))))∧pt (lb (.box (Zju qu))∧True)))∧∀ y0:Nat,(y0≤List.length qu.1)→(True∧(bif (ltI y0 (List.length qu.1)) then ((ix 4 y0 (List.length qu.1))∧(T4 ((pt True)∧(bif eqI (Zad qu.1 y0).1 1 then (T3 (IntKind.i64=IntKind.i64∧(T3 (∃ y0' : Nat,(y0'≤List.length qu.1)∧(List.length qu.1 - y0') < (List.length qu.1 - y0)∧((lxs [.ag (Zju qu), .c (.bp 0 0),ci 0] (vI (if ((Zad qu.1 y0).2.1:Int) > (Ze4 qu.1 y0) then (Zad qu.1 y0).2.1 else (Ze4 qu.1 y0)) (Ze4 qu.1 y0')∧lxs [.tp []] (Zxy qu y0 y0')))∧pt (lb (.box (Zju qu))∧True)))))) else (T2 (∃ y0' : Nat,(y0'≤List.length qu.1)∧(List.length qu.1 - y0') < (List.length qu.1 - y0)∧((lxs [.ag (Zju qu), .c (.bp 0 0),ci 0] (vI (Ze4 qu.1 y0) (Ze4 qu.1 y0')∧lxs [.tp []] (Zxy qu y0 y0')))∧pt (lb (.box (Zju qu))∧True)))))))) else (T2 (rI (Ze4 qu.1 y0) (Ze4 qu.1 (List.length qu.1))))))))) (by kernel_rfl) ?_
  unfold Zju Zxy T2 T3 T4 T7
  have hm:List.length qu.1≤maxLen:=hwf.1.1.1
  simp only [Zdy,eq_self]
  simp only [ZIm]
  refine ⟨⟨0,Nat.zero_le _,rfl,rfl⟩,fun k hk=>⟨fun hlt=>?_,fun hge=>?_⟩⟩
  · repeat' (first | apply And.intro | intro _)
    all_goals first
      | trivial
      | omega
      | exact ⟨k + 1,by omega,by omega,(if_pos (by assumption)).symm,Zbj (by omega)⟩
      | exact ⟨k + 1,by omega,by omega,(if_neg (by assumption)).symm,Zbj (by omega)⟩
  · obtain rfl:k=List.length qu.1:=by omega
    first | rfl | exact ⟨trivial,rfl⟩
def Zk4:Zat Tryz.prog:=⟨178,[.s ZcU],fun x=>True,fun x=>.c (.int .i64 (Ze4 x.1.1 (List.length x.1.1))),fun _=>[],fun x hx=>Zk3 x.1,Tryz.call178⟩
def ZaE (l:List Zaz) (b:Bool):Nat→List Zaz
  | 0=>[]
  | k + 1=>if eqI (Zad l k).1 1=b then ZaE l b k ++ [Zad l k] else ZaE l b k
theorem ZmT {l:List Zaz} {b:Bool}:∀ k,(ZaE l b k).length≤k
  | 0=>Nat.le_refl _
  | k + 1=>by have:=ZmT (l:=l) (b:=b) k; unfold ZaE; split <;> simp <;> omega
def ZA3 (l:List Zaz) (v:Zaz):Bool:=List.any l (fun z0:Zaz=>ZbI v z0)
def Zsw (q:Zbc) (i:Nat):Bool:=!Zcg (Zad q.1 i) || ((eqI (Zad q.1 i).1 1 && (q.2.1 || !Zhe (List.take i q.1) (Zad q.1 i).2.1)) || ((neI (Zad q.1 i).1 1 && q.2.2) || (eqI (Zad q.1 i).1 2 && Zpd (List.take i q.1) (Zad q.1 i).2.2.2)))
def ZI9 (q:Zbc) (i:Nat):Bool:=!Zcg (Zad q.1 i) || ((eqI (Zad q.1 i).1 1 && (q.2.1 || leI (Zad q.1 i).2.1 (Ze4 (List.take i q.1) (List.length (List.take i q.1))))) || ((neI (Zad q.1 i).1 1 && q.2.2) || (eqI (Zad q.1 i).1 2 && ZA3 (List.take i q.1) (Zad q.1 i))))
def Zbw (q:Zbc):Bool:=decide ((∀ i,i < List.length q.1→Zsw q i=false)∧List.length q.1≤6)
theorem ZpE {q:Zbc} {i:Nat} (hi:i < List.length q.1) (h:Zsw q i=true):Zbw q=false:=decide_eq_false fun z=>by rw [z.1 i hi] at h; cases h
theorem ZmU {q:Zbc} (h:∀ i,i < List.length q.1→Zsw q i=false):Zbw q=leI ((List.length q.1:Nat):Int) 6:=by
  unfold Zbw
  rw [Bool.eq_iff_iff,decide_eq_true_eq,ZbD]
  exact ⟨fun z=>by have:=z.2; omega,fun z=>⟨h,by omega⟩⟩
theorem ZA4 {n:Zaz} (h:Zcg n=true) (h1:n.1=1):0≤n.2.1:=by
  unfold Zcg at h
  rw [if_pos h1,Bool.and_eq_true,Zbd] at h
  omega
theorem ZlA {n:Zaz} (h:Zcg n=true) (h1:n.1 ≠ 1):n.2.1=0∧n.2.2.1=0:=by
  unfold Zcg at h
  rw [if_neg h1,Bool.and_eq_true,Bool.and_eq_true,Bool.and_eq_true,Zao,Zao] at h
  exact ⟨h.2.1,h.2.2.1⟩
theorem ZFg {l:List Zaz} {v:Zaz} (hl:∀ j,j < List.length l→Zcg (Zad l j)=true) (hv:Zcg v=true) (h2:v.1=2):ZA3 l v=Zpd l v.2.2.2:=by
  unfold ZA3 Zpd
  rw [Bool.eq_iff_iff,List.any_eq_true,List.any_eq_true]
  constructor
  · rintro ⟨z,hz,he⟩
    have e:=Zcn.1 he
    exact ⟨z,hz,by rw [← e,Bool.and_eq_true,Zao,ZaU]; exact ⟨h2,rfl⟩⟩
  · rintro ⟨z,hz,he⟩
    rw [Bool.and_eq_true,Zao,ZaU] at he
    obtain ⟨j,hj,e⟩:=List.getElem_of_mem hz
    have e2:Zad l j=z:=ZC3 hj e
    have hz':=hl j hj
    rw [e2] at hz'
    have p1:=ZlA hz' (by omega)
    have p2:=ZlA hv (by omega)
    exact ⟨z,hz,Zcn.2 (Prod.ext (by omega) (Prod.ext (by omega) (Prod.ext (by omega) he.2.symm)))⟩
theorem ZC4 {q:Zbc} {j:Nat} (h:Zsw q j=false):Zcg (Zad q.1 j)=true:=by
  unfold Zsw at h
  cases hn:Zcg (Zad q.1 j) with
  | true=>rfl
  | false=>rw [hn] at h; cases h
theorem ZFh {l:List Zaz} {i j:Nat} (h:j < i) (hi:i≤List.length l):Zad (List.take i l) j=Zad l j:=by
  have h0:l[j]?=some (Zad l j):=Zap (t:=Zah) (by have:i≤List.length l:=hi; show j < List.length l; omega)
  have h1:(List.take i l)[j]?=some (Zad l j):=by rw [List.getElem?_take,if_pos h]; exact h0
  exact ZdB (t:=Zah) h1
theorem ZC5 {l:List Zaz} {n:Int} {k:Nat} (hk:k < List.length l) (h:(Zad l k).1=1∧n≤(Zad l k).2.1):Zhe l n=false:=by
  have h' : List.any l (fun z0:Zaz=>eqI z0.1 1 && geI z0.2.1 n)=true:=ZiB (t:=Zah) (xs:=l) (p:=fun z0:Zaz=>eqI z0.1 1 && geI z0.2.1 n) hk (by show (eqI (Zad l k).1 1 && geI (Zad l k).2.1 n)=true; rw [Bool.and_eq_true,Zao,ZcW]; exact h)
  unfold Zhe
  rw [h']
  rfl
theorem ZpF {l:List Zaz} {n:Int} (h:∀ j,j < List.length l→¬ ((Zad l j).1=1∧n≤(Zad l j).2.1)):Zhe l n=true:=by
  have h' : List.any l (fun z0:Zaz=>eqI z0.1 1 && geI z0.2.1 n)=false:=Zgn (t:=Zah) (xs:=l) (p:=fun z0:Zaz=>eqI z0.1 1 && geI z0.2.1 n) (fun j hj=>by show (eqI (Zad l j).1 1 && geI (Zad l j).2.1 n)=false; rw [← Bool.not_eq_true,Bool.and_eq_true,Zao,ZcW]; exact h j hj)
  unfold Zhe
  rw [h']
  rfl
theorem ZC6 {l:List Zaz} {n:ByteArray} {k:Nat} (hk:k < List.length l) (h:(Zad l k).1=2∧(Zad l k).2.2.2=n):Zpd l n=true :=
  ZiB (t:=Zah) (xs:=l) (p:=fun z0:Zaz=>eqI z0.1 2 && eqS z0.2.2.2 n) hk (by show (eqI (Zad l k).1 2 && eqS (Zad l k).2.2.2 n)=true; rw [Bool.and_eq_true,Zao,ZaU]; exact h)
theorem ZzW {l:List Zaz} {n:ByteArray} (h:∀ j,j < List.length l→¬ ((Zad l j).1=2∧(Zad l j).2.2.2=n)):Zpd l n=false :=
  Zgn (t:=Zah) (xs:=l) (p:=fun z0:Zaz=>eqI z0.1 2 && eqS z0.2.2.2 n) (fun j hj=>by show (eqI (Zad l j).1 2 && eqS (Zad l j).2.2.2 n)=false; rw [← Bool.not_eq_true,Bool.and_eq_true,Zao,ZaU]; exact h j hj)
theorem ZC7 {q:Zbc} {i:Nat} (hi:i < List.length q.1) (h:∀ j,j < i→Zsw q j=false):ZI9 q i=Zsw q i:=by
  unfold ZI9 Zsw
  cases hn:Zcg (Zad q.1 i) with
  | false=>rfl
  | true =>
    have hlen:List.length (List.take i q.1)=i:=by rw [List.length_take]; omega
    by_cases h1:(Zad q.1 i).1=1
    · rw [ZA2 (ZA4 hn h1),hlen,Zao.2 h1]
      have e:leI (Zad q.1 i).2.1 (Ze4 (List.take i q.1) i)=!decide (Ze4 (List.take i q.1) i < (Zad q.1 i).2.1):=by
        rw [Bool.eq_iff_iff,ZbD,Bool.not_eq_true',decide_eq_false_iff_not]
        omega
      rw [e,ZaB.2 (show ¬ (Zad q.1 i).1=2 by omega)]
      rfl
    · rw [ZaB.2 h1]
      by_cases h2:(Zad q.1 i).1=2
      · rw [ZFg (fun j hj=>by rw [hlen] at hj; rw [ZFh hj (by omega)]; exact ZC4 (h j hj)) hn h2]
        rfl
      · rw [ZaB.2 h2]
        rfl
def ZeQ (s:List Zaz) (v:Zaz):Nat→List AV→Mem→Za3
  | 2,tm,M=>⟨Nat,fun y=>(Zb2 (Zcx tm [(4, .any),(5, .any),(8, .c (.int .i64 ((y:Nat):Int)))]) 9 10,M),fun y=>(y≤List.length s∧∀ j,j < y→ZbI v (Zad s j)=false),fun y=>(List.length s - y)⟩
  | _,_,_=>⟨Unit,fun _=>([],[]),fun _=>False,fun _=>0⟩
def ZmV (v:Zaz):List AC:=[.int .i64 v.1, .int .i64 v.2.1, .int .i64 v.2.2.1, .str v.2.2.2]
theorem ZeR (s:List Zaz) (v:Zaz):Zai Tryz.prog 188 [.c (.hs .no Zah s), .ag (cellsOf Zah v)] (.c (.int .i64 (ZeC (fun z0:Zaz=>ZbI v z0) s))) []:=by
  refine bc0 [] [] [] [] (ZeQ s v) Tryz.func188 (fun hwf=>?_)
  refine Eq.mpr (β:=(T5 ((∃ q:Nat,(q≤List.length s∧∀ j,j < q→ZbI v (Zad s j)=false)∧((lxs [hn Zah s, .ag (ZmV v), .tp [], .c (.bp 0 0)] (True∧True∧lxs [hn Zah s,ci (List.length s)] (vI 0 q∧TN 10 True)))∧pt (lb (.box (ZmV v))∧True)))∧∀ y0:Nat,(y0≤List.length s∧∀ j,j < y0→ZbI v (Zad s j)=false)→(True∧(bif (ltI y0 (List.length s)) then (T2 ((pt (true=true))∧(T3 ((ix 4 y0 (List.length s))∧(True∧(true=true∧(bif (ZbI v (Zad s y0)) then (T2 (rI (y0:Int) (ZeC (fun z0:Zaz=>ZbI v z0) s))) else (T2 (∃ y0' : Nat,(y0'≤List.length s∧∀ j,j < y0'→ZbI v (Zad s j)=false)∧(List.length s - y0') < (List.length s - y0)∧((lxs [hn Zah s, .ag (ZmV v), .tp [], .c (.bp 0 0)] (True∧True∧lxs [hn Zah s,ci (List.length s)] (vI (w64 ((y0:Int) + 1)) y0'∧TN 10 True)))∧pt (lb (.box (ZmV v))∧True))))))))))) else (True∧(rI (-1) (ZeC (fun z0:Zaz=>ZbI v z0) s)))))))) (by kernel_rfl) ?_
  unfold ZmV T2 T3 T5
  simp only [Zdy,eq_self]
  have hm:List.length s≤maxLen:=hwf.1.1
  refine ⟨⟨0,⟨Nat.zero_le _,ZaH⟩,rfl⟩,fun k hk=>⟨fun hlt=>⟨by omega,fun hp=>?_,fun hp=>?_⟩,fun hge=>?_⟩⟩
  · have hk' : k < List.length s:=by omega
    exact (Zd7 (t:=Zah) (p:=fun z0:Zaz=>ZbI v z0) (xs:=s) hk' hk.2 hp).symm
  · exact Zcz
  · obtain rfl:k=List.length s:=by omega
    exact (ZbH (t:=Zah) (p:=fun z0:Zaz=>ZbI v z0) hk.2).symm
def ZeS:Zat Tryz.prog:=⟨188,[.v (.list Zah), .s Zah],fun x=>True,fun x=>.c (.int .i64 (ZeC (fun z0:Zaz=>ZbI x.2.1 z0) x.1)),fun _=>[],fun x hx=>ZeR x.1 x.2.1,Tryz.call188⟩
theorem ZdV (s:List Zaz) (v:Zaz):Zai Tryz.prog 111 [.c (.hs .no Zah s), .ag (cellsOf Zah v)] (.c (.bool (ZA3 s v))) []:=by
  refine bc0 [ZeS] [] [] [] L0 Tryz.func111 (fun hwf=>?_)
  refine Eq.mpr (β:=(T4 ((pt True)∧(T2 (rB (geI (ZeC (fun z0:Zaz=>ZbI v z0) s) 0) (ZA3 s v)))))) (by kernel_rfl) ?_
  exact Zvz
def Zcy:Zat Tryz.prog:=⟨111,[.v (.list Zah), .s Zah],fun x=>True,fun x=>.c (.bool (ZA3 x.1 x.2.1)),fun _=>[],fun x hx=>ZdV x.1 x.2.1,Tryz.call111⟩
def ZsS (qu:Zbc) (n:Int):Nat→List AV→Mem→Za3
  | 2,tm,M=>⟨Nat,fun y=>(Zb2 (Zcx tm [(4, .any),(5, .c (.int .i64 ((y:Nat):Int)))]) 6 24,M),fun y=>(y≤List.length qu.1∧∀ j,j < y→¬ ((Zad qu.1 j).1=1∧n≤(Zad qu.1 j).2.1)),fun y=>(List.length qu.1 - y)⟩
  | _,_,_=>⟨Unit,fun _=>([],[]),fun _=>False,fun _=>0⟩
def Zxz (qu:Zbc) (n:Int) (y0:Nat):Prop:=(T3 (∃ y0' : Nat,(y0'≤List.length qu.1∧∀ j,j < y0'→¬ ((Zad qu.1 j).1=1∧n≤(Zad qu.1 j).2.1))∧(List.length qu.1 - y0') < (List.length qu.1 - y0)∧((lxs [.ag [.hs .no Zah qu.1, .bool qu.2.1, .bool qu.2.2],ci n, .c (.bp 0 0), .tp []] (True∧vI (w64 ((y0:Int) + 1)) y0'∧TN 24 True))∧pt (lb (.box [.hs .no Zah qu.1, .bool qu.2.1, .bool qu.2.2])∧True))))
theorem ZsT (qu:Zbc) (n:Int):Zai Tryz.prog 155 [.ag [.hs .no Zah qu.1, .bool qu.2.1, .bool qu.2.2], .c (.int .i64 n)] (.c (.bool (Zhe qu.1 n))) []:=by
  refine bc0 [] [] [] [] (ZsS qu n) Tryz.func155 (fun hwf=>?_)
  refine Eq.mpr (β:=(T3 ((∃ q:Nat,(q≤List.length qu.1∧∀ j,j < q→¬ ((Zad qu.1 j).1=1∧n≤(Zad qu.1 j).2.1))∧((lxs [.ag [.hs .no Zah qu.1, .bool qu.2.1, .bool qu.2.2],ci n, .c (.bp 0 0), .tp []] (True∧vI 0 q∧TN 24 True))∧pt (lb (.box [.hs .no Zah qu.1, .bool qu.2.1, .bool qu.2.2])∧True)))∧∀ y0:Nat,(y0≤List.length qu.1∧∀ j,j < y0→¬ ((Zad qu.1 j).1=1∧n≤(Zad qu.1 j).2.1))→(T5 (bif (ltI y0 (List.length qu.1)) then (T3 ((ix 4 y0 (List.length qu.1))∧(T4 (bif (eqI (Zad qu.1 y0).1 1) then (T3 ((ix 4 y0 (List.length qu.1))∧(T5 (bif (geI (Zad qu.1 y0).2.1 n) then (True∧(rB false (Zhe qu.1 n))) else (Zxz qu n y0))))) else (True∧(Zxz qu n y0)))))) else (True∧(rB true (Zhe qu.1 n)))))))) (by kernel_rfl) ?_
  unfold Zxz T3 T4 T5
  have hm:List.length qu.1≤maxLen:=hwf.1.1.1
  simp only [Zdy,eq_self]
  refine ⟨⟨0,⟨Nat.zero_le _,ZaH⟩,rfl⟩,fun k hk=>⟨fun hlt=>?_,fun hge=>?_⟩⟩
  · repeat' (first | apply And.intro | intro _)
    all_goals first
      | trivial
      | omega
      | exact (ZC5 (k:=k) (by omega) ⟨by assumption,by assumption⟩).symm
      | exact ⟨k + 1,⟨by omega,ZaD hk.2 (fun h=>by first | omega | exact absurd h.1 (by assumption) | exact absurd h.2 (by assumption))⟩,by omega,Zbj (by omega)⟩
  · obtain rfl:k=List.length qu.1:=by omega
    first | exact (ZpF hk.2).symm | exact ⟨trivial,(ZpF hk.2).symm⟩
def ZsU:Zat Tryz.prog:=⟨155,[.s ZcU, .v ZaC],fun x=>True,fun x=>.c (.bool (Zhe x.1.1 x.2.1)),fun _=>[],fun x hx=>ZsT x.1 x.2.1,Tryz.call155⟩
def Zq5 (qu:Zbc) (n:ByteArray):Nat→List AV→Mem→Za3
  | 2,tm,M=>⟨Nat,fun y=>(Zb2 (Zcx tm [(4, .any),(5, .c (.int .i64 ((y:Nat):Int)))]) 6 24,M),fun y=>(y≤List.length qu.1∧∀ j,j < y→¬ ((Zad qu.1 j).1=2∧(Zad qu.1 j).2.2.2=n)),fun y=>(List.length qu.1 - y)⟩
  | _,_,_=>⟨Unit,fun _=>([],[]),fun _=>False,fun _=>0⟩
def ZxA (qu:Zbc) (n:ByteArray) (y0:Nat):Prop:=(T3 (∃ y0' : Nat,(y0'≤List.length qu.1∧∀ j,j < y0'→¬ ((Zad qu.1 j).1=2∧(Zad qu.1 j).2.2.2=n))∧(List.length qu.1 - y0') < (List.length qu.1 - y0)∧((lxs [.ag [.hs .no Zah qu.1, .bool qu.2.1, .bool qu.2.2], .c (.str n), .c (.bp 0 0), .tp []] (True∧vI (w64 ((y0:Int) + 1)) y0'∧TN 24 True))∧pt (lb (.box [.hs .no Zah qu.1, .bool qu.2.1, .bool qu.2.2])∧True))))
theorem Zq6 (qu:Zbc) (n:ByteArray):Zai Tryz.prog 156 [.ag [.hs .no Zah qu.1, .bool qu.2.1, .bool qu.2.2], .c (.str n)] (.c (.bool (Zpd qu.1 n))) []:=by
  refine bc0 [] [] [] [] (Zq5 qu n) Tryz.func156 (fun hwf=>?_)
  refine Eq.mpr (β:=(T3 ((∃ q:Nat,(q≤List.length qu.1∧∀ j,j < q→¬ ((Zad qu.1 j).1=2∧(Zad qu.1 j).2.2.2=n))∧((lxs [.ag [.hs .no Zah qu.1, .bool qu.2.1, .bool qu.2.2], .c (.str n), .c (.bp 0 0), .tp []] (True∧vI 0 q∧TN 24 True))∧pt (lb (.box [.hs .no Zah qu.1, .bool qu.2.1, .bool qu.2.2])∧True)))∧∀ y0:Nat,(y0≤List.length qu.1∧∀ j,j < y0→¬ ((Zad qu.1 j).1=2∧(Zad qu.1 j).2.2.2=n))→(T5 (bif (ltI y0 (List.length qu.1)) then (T3 ((ix 4 y0 (List.length qu.1))∧(T4 (bif (eqI (Zad qu.1 y0).1 2) then (T3 ((ix 4 y0 (List.length qu.1))∧(T5 (bif (eqS (Zad qu.1 y0).2.2.2 n) then (True∧(rB true (Zpd qu.1 n))) else (ZxA qu n y0))))) else (True∧(ZxA qu n y0)))))) else (True∧(rB false (Zpd qu.1 n)))))))) (by kernel_rfl) ?_
  unfold ZxA T3 T4 T5
  have hm:List.length qu.1≤maxLen:=hwf.1.1.1
  simp only [Zdy,eq_self]
  refine ⟨⟨0,⟨Nat.zero_le _,ZaH⟩,rfl⟩,fun k hk=>⟨fun hlt=>?_,fun hge=>?_⟩⟩
  · repeat' (first | apply And.intro | intro _)
    all_goals first
      | trivial
      | omega
      | exact (ZC6 (k:=k) (by omega) ⟨by assumption,by assumption⟩).symm
      | exact ⟨k + 1,⟨by omega,ZaD hk.2 (fun h=>by first | omega | exact absurd h.1 (by assumption) | exact absurd h.2 (by assumption))⟩,by omega,Zbj (by omega)⟩
  · obtain rfl:k=List.length qu.1:=by omega
    first | exact (ZzW hk.2).symm | exact ⟨trivial,(ZzW hk.2).symm⟩
def Zq7:Zat Tryz.prog:=⟨156,[.s ZcU, .v ZaL],fun x=>True,fun x=>.c (.bool (Zpd x.1.1 x.2.1)),fun _=>[],fun x hx=>Zq6 x.1 x.2.1,Tryz.call156⟩
def ZxB (qu:Zbc):Nat→List AV→Mem→Za3
  | 2,tm,M=>⟨Nat,fun y=>(Zb2 (Zb2 (Zcx tm [(9, .c (.int .i64 ((y:Nat):Int)))]) 2 4) 10 47,M),fun y=>(y≤List.length qu.1∧∀ j,j < y→Zsw qu j=false),fun y=>(List.length qu.1 - y)⟩
  | _,_,_=>⟨Unit,fun _=>([],[]),fun _=>False,fun _=>0⟩
def ZxC (qu:Zbc) (y0:Nat):Prop:=(T2 (∃ y0' : Nat,(y0'≤List.length qu.1∧∀ j,j < y0'→Zsw qu j=false)∧(List.length qu.1 - y0') < (List.length qu.1 - y0)∧((lxs [.ag [.hs .no Zah qu.1, .bool qu.2.1, .bool qu.2.2], .c (.bp 0 0)] (TN 4 (lxs [.c (.bp 0 0),hn Zah qu.1,ci (List.length qu.1)] (vI (w64 ((y0:Int) + 1)) y0'∧TN 47 (tpn 4 True)))))∧pt (lb (.box [.hs .no Zah qu.1, .bool qu.2.1, .bool qu.2.2])∧True))))
def ZxD (qu:Zbc) (y0:Nat):Prop:=(T4 (bif (eqI (Zad qu.1 y0).1 2) then (T3 ((pt True)∧(T2 (bif ZA3 (List.drop (Int.toNat 0) (List.take y0 qu.1)) (Zad qu.1 y0) then (True∧(rB false (Zbw qu))) else (ZxC qu y0))))) else (T2 (ZxC qu y0))))
def ZxE (qu:Zbc) (y0:Nat):Prop:=(True∧((pt True)∧(True∧(bif neI (Zad qu.1 y0).1 1 then (T5 (bif qu.2.2 then (T2 (rB false (Zbw qu))) else (ZxD qu y0))) else (T3 (ZxD qu y0))))))
theorem ZxF (qu:Zbc):Zai Tryz.prog 97 [.ag [.hs .no Zah qu.1, .bool qu.2.1, .bool qu.2.2]] (.c (.bool (Zbw qu))) []:=by
  refine bc0 [ZAZ,ZeP,Zk4,ZmS,Zcy] [] [] [] (ZxB qu) Tryz.func97 (fun hwf=>?_)
  refine Eq.mpr (β:=(T6 ((∃ q:Nat,(q≤List.length qu.1∧∀ j,j < q→Zsw qu j=false)∧((lxs [.ag [.hs .no Zah qu.1, .bool qu.2.1, .bool qu.2.2], .c (.bp 0 0)] (TN 4 (lxs [.c (.bp 0 0),hn Zah qu.1,ci (List.length qu.1)] (vI 0 q∧TN 47 (tpn 4 True)))))∧pt (lb (.box [.hs .no Zah qu.1, .bool qu.2.1, .bool qu.2.2])∧True)))∧∀ y0:Nat,(y0≤List.length qu.1∧∀ j,j < y0→Zsw qu j=false)→(True∧(bif (ltI y0 (List.length qu.1)) then (True∧((ix 4 y0 (List.length qu.1))∧(T7 (((4:Nat)=4∧((0:Int)≤0∧(0:Int)≤(y0:Int)∧((y0:Int):Int)≤(List.length qu.1:Int)))∧(T3 ((pt (true=true))∧(True∧((pt True)∧(T2 (bif (!(Zcg (Zad qu.1 y0))) then (T6 (rB false (Zbw qu))) else (True∧((pt True)∧(True∧(bif eqI (Zad qu.1 y0).1 1 then (T3 (bif qu.2.1 then (T8 (rB false (Zbw qu))) else (T3 ((pt True)∧(T5 (bif (leI (Zad qu.1 y0).2.1 (Ze4 ((List.drop (Int.toNat 0) (List.take y0 qu.1)),(false,false)).1 (List.length ((List.drop (Int.toNat 0) (List.take y0 qu.1)),(false,false)).1))) then (T4 (rB false (Zbw qu))) else (ZxE qu y0))))))) else (T3 (ZxE qu y0)))))))))))))))) else (T5 (rB (leI (List.length qu.1) 6) (Zbw qu)))))))) (by kernel_rfl) ?_
  unfold ZxE ZxD ZxC T2 T3 T4 T5 T6 T7 T8
  have hm:List.length qu.1≤maxLen:=hwf.1.1.1
  simp only [Zdy,eq_self]
  simp only [show Int.toNat 0=0 from rfl,List.drop_zero]
  refine ⟨⟨0,⟨Nat.zero_le _,ZaH⟩,rfl⟩,fun k hk=>⟨fun hlt=>?_,fun hge=>?_⟩⟩
  · repeat' (first | apply And.intro | intro _)
    all_goals as_aux_lemma=>first
      | trivial
      | omega
      | exact (ZpE (i:=k) (by omega) (by rw [← ZC7 (by omega) hk.2]; simp_all [ZI9,Zao,ZaB,Zbh,ZaW,ZbD,Zb6])).symm
      | exact ⟨k + 1,⟨by omega,ZaD hk.2 (by rw [← ZC7 (by omega) hk.2]; simp_all [ZI9,Zao,ZaB,Zbh,ZaW,ZbD,Zb6])⟩,by omega,Zbj (by omega)⟩
  · exact ZvS
def ZxG:Zat Tryz.prog:=⟨97,[.s ZcU],fun x=>True,fun x=>.c (.bool (Zbw x.1)),fun _=>[],fun x hx=>ZxF x.1,Tryz.call97⟩
def ZxH (qu:Zbc):Nat→List AV→Mem→Za3
  | 2,tm,M=>⟨Nat,fun y=>(Zb2 (Zcx tm [(2, .any),(3, .c (.int .i64 ((y:Nat):Int)))]) 4 59,M),fun y=>(y≤List.length qu.1∧∀ j,j < y→Zsw qu j=false),fun y=>(List.length qu.1 - y)⟩
  | _,_,_=>⟨Unit,fun _=>([],[]),fun _=>False,fun _=>0⟩
def ZxI (qu:Zbc) (y0:Nat):Prop:=(T3 (∃ y0' : Nat,(y0'≤List.length qu.1∧∀ j,j < y0'→Zsw qu j=false)∧(List.length qu.1 - y0') < (List.length qu.1 - y0)∧((lxs [.ag [.hs .no Zah qu.1, .bool qu.2.1, .bool qu.2.2], .c (.bp 0 0)] (True∧vI (w64 ((y0:Int) + 1)) y0'∧TN 59 (tpn 4 True)))∧pt (lb (.box [.hs .no Zah qu.1, .bool qu.2.1, .bool qu.2.2])∧True))))
def ZxJ (qu:Zbc) (y0:Nat):Prop:=(T4 (bif (eqI (Zad qu.1 y0).1 2) then (T3 ((pt True)∧(T2 (bif Zpd ((List.drop (Int.toNat 0) (List.take y0 qu.1)),(false,false)).1 (Zad qu.1 y0).2.2.2 then (True∧(rB false (Zbw qu))) else (ZxI qu y0))))) else (T2 (ZxI qu y0))))
def ZxK (qu:Zbc) (y0:Nat):Prop:=(T3 (bif (!(eqI (Zad qu.1 y0).1 1)) then (T5 (bif qu.2.2 then (T2 (rB false (Zbw qu))) else (ZxJ qu y0))) else (T3 (ZxJ qu y0))))
theorem ZxL (qu:Zbc):Zai Tryz.prog 77 [.ag [.hs .no Zah qu.1, .bool qu.2.1, .bool qu.2.2]] (.c (.bool (Zbw qu))) []:=by
  refine bc0 [ZA1,ZsU,Zq7] [] [] [] (ZxH qu) Tryz.func77 (fun hwf=>?_)
  refine Eq.mpr (β:=(T3 ((∃ q:Nat,(q≤List.length qu.1∧∀ j,j < q→Zsw qu j=false)∧((lxs [.ag [.hs .no Zah qu.1, .bool qu.2.1, .bool qu.2.2], .c (.bp 0 0)] (True∧vI 0 q∧TN 59 (tpn 4 True)))∧pt (lb (.box [.hs .no Zah qu.1, .bool qu.2.1, .bool qu.2.2])∧True)))∧∀ y0:Nat,(y0≤List.length qu.1∧∀ j,j < y0→Zsw qu j=false)→(T5 (bif (ltI y0 (List.length qu.1)) then (T3 ((ix 4 y0 (List.length qu.1))∧(T6 (((4:Nat)=4∧((0:Int)≤0∧(0:Int)≤(y0:Int)∧((y0:Int):Int)≤(List.length qu.1:Int)))∧(T8 ((pt True)∧(T2 (bif (!(Zcg (Zad qu.1 y0))) then (T6 (rB false (Zbw qu))) else (T2 (bif (eqI (Zad qu.1 y0).1 1) then (T3 (bif qu.2.1 then (T8 (rB false (Zbw qu))) else (T3 ((pt True)∧(T5 (bif (!(Zhe ((List.drop (Int.toNat 0) (List.take y0 qu.1)),(false,false)).1 (Zad qu.1 y0).2.1)) then (T4 (rB false (Zbw qu))) else (ZxK qu y0))))))) else (T3 (ZxK qu y0)))))))))))) else (T5 (rB (leI (List.length qu.1) 6) (Zbw qu)))))))) (by kernel_rfl) ?_
  unfold ZxK ZxJ ZxI T2 T3 T4 T5 T6 T8
  have hm:List.length qu.1≤maxLen:=hwf.1.1.1
  simp only [Zdy,eq_self]
  simp only [show Int.toNat 0=0 from rfl,List.drop_zero]
  refine ⟨⟨0,⟨Nat.zero_le _,ZaH⟩,rfl⟩,fun k hk=>⟨fun hlt=>?_,fun hge=>?_⟩⟩
  · repeat' (first | apply And.intro | intro _)
    all_goals as_aux_lemma=>first
      | trivial
      | omega
      | exact (ZpE (i:=k) (by omega) (by simp_all [Zsw,Zao,ZaB,Zbh,ZaW])).symm
      | exact ⟨k + 1,⟨by omega,ZaD hk.2 (by simp_all [Zsw,Zao,ZaB,Zbh,ZaW])⟩,by omega,Zbj (by omega)⟩
  · exact ZvS
def Zdu:Zat Tryz.prog:=⟨77,[.s ZcU],fun x=>True,fun x=>.c (.bool (Zbw x.1)),fun _=>[],fun x hx=>ZxL x.1,Tryz.call77⟩
end Go.Proofs.YtkompmgleojmlaaGreat
