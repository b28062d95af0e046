import Derived.Test.YtkompmgleojmlaaGreatFBmTy
import Derived.Shelf.Strings.Search3
import Derived.Test.YtkompmgleojmlaaGreatFLawA
import Derived.Lib.IndexMore
import Derived.Test.YtkompmgleojmlaaGreatFBlLib
set_option linter.unusedSimpArgs false
set_option linter.unusedVariables false
namespace Go.Proofs.YtkompmgleojmlaaGreat
open Go.ChangeShapes Go.WideShapes Go.ChangeAt Go.RowKit Go.Joins Go.Deep
open GoRep (rep bulk)
def ZKw:Go.Shelf.Ren:=⟨fun | 143=>302 | 144=>276 | 217=>316 | 219=>313 | 224=>318 | 225=>317 | 266=>320 | 267=>319 | 314=>321 | n=>n,
  fun | 3=>3 | 4=>4 | 5=>5 | 9=>9 | 46=>267 | 51=>285 | 146=>302 | n=>n,
  fun | 1=>0 | n=>n⟩
open Go.Shelf in
theorem ZJZ:Lays.n144 Tryz.prog ZKw where
  mixed:=by kernel_rfl
  f143:=Tryz.func302.trans (congrArg some (by kernel_rfl))
  f144:=Tryz.func276.trans (congrArg some (by kernel_rfl))
  f217:=Tryz.func316.trans (congrArg some (by kernel_rfl))
  f219:=Tryz.func313.trans (congrArg some (by kernel_rfl))
  f224:=Tryz.func318.trans (congrArg some (by kernel_rfl))
  f225:=Tryz.func317.trans (congrArg some (by kernel_rfl))
  f266:=Tryz.func320.trans (congrArg some (by kernel_rfl))
  f267:=Tryz.func319.trans (congrArg some (by kernel_rfl))
  f314:=Tryz.func321.trans (congrArg some (by kernel_rfl))
  t3:=Tryz.underlying3
  a3:=Tryz.isAgg3
  z3:=Tryz.sizeOf3
  v3:=Tryz.zeroValue3
  t4:=Tryz.underlying4
  a4:=Tryz.isAgg4
  z4:=Tryz.sizeOf4
  v4:=Tryz.zeroValue4
  t5:=Tryz.underlying5
  a5:=Tryz.isAgg5
  z5:=Tryz.sizeOf5
  v5:=Tryz.zeroValue5
  t9:=Tryz.underlying9
  a9:=Tryz.isAgg9
  z9:=Tryz.sizeOf9
  v9:=Tryz.zeroValue9
  t46:=Tryz.underlying267
  a46:=Tryz.isAgg267
  z46:=Tryz.sizeOf267
  v46:=Tryz.zeroValue267
  t51:=Tryz.underlying285
  a51:=Tryz.isAgg285
  z51:=Tryz.sizeOf285
  v51:=Tryz.zeroValue285
  t146:=Tryz.underlying302
  a146:=Tryz.isAgg302
  z146:=Tryz.sizeOf302
  v146:=Tryz.zeroValue302
  g1:=by kernel_rfl
def ZHA (s t:ByteArray):Bool:=Lib.contains s.data.toList t.data.toList
theorem ZkN (s t:ByteArray) (h:s.size < 4294967281):Zat Tryz.prog 276 [.c (.str s), .c (.str t)] (.c (.bool (ZHA s t))) []:=by
  intro X W vs hX hgl hr
  obtain ⟨v,r,rfl,⟨rfl,hw⟩,u,r2,rfl,⟨rfl,hu⟩,hn⟩:=hr
  obtain rfl:r2=[]:=hn
  obtain ⟨⟨m,hm⟩,_⟩:=hgl 0 (List.mem_cons_self)
  refine (Any.strings_Contains ZJZ s t m W h hm).mono fun e W' he=>?_
  obtain ⟨rfl,rfl⟩:=he
  exact ⟨_,[],rfl,Zbz.refl W' [],ZJ7 hX,rfl⟩
def ZkO:ZaI Tryz.prog:=⟨276,[.v ZaK, .v ZaK],fun x=>ByteArray.size x.1 < 4294967281,fun x=>.c (.bool (ZHA x.1 x.2.1)),fun _=>[],fun x hx=>ZkN x.1 x.2.1 hx,Tryz.call276⟩
theorem ZHa:∀ (x y:List UInt8),(Op.bytesLess x y || decide (x=y))=!Op.bytesLess y x
  | [],[]=>by simp [Op.bytesLess]
  | _ :: _,[]=>by simp [Op.bytesLess]
  | [],_ :: _=>by simp [Op.bytesLess]
  | a :: x,b :: y=>by
    have ih:=ZHa x y
    rw [Op.bytesLess,Op.bytesLess]
    rcases Nat.lt_trichotomy a.toNat b.toNat with h | h | h
    · have h1:a < b:=h
      have h2:¬ b < a:=fun h'=>by have:b.toNat < a.toNat:=h'; omega
      exact Zw7
    · have e:a=b:=UInt8.toNat_inj.1 h
      subst e
      have h2:¬ a < a:=fun h'=>by have:a.toNat < a.toNat:=h'; omega
      simpa [h2] using ih
    · have h1:b < a:=h
      have h2:¬ a < b:=fun h'=>by have:a.toNat < b.toNat:=h'; omega
      exact Zw7
theorem ZIz (a b:ByteArray):(Op.bytesLess a.toList b.toList || decide (a=b))=!Op.bytesLess b.toList a.toList:=by
  rw [← ZHa]
  congr 1
  rw [decide_eq_decide,ByteArray.toList_eq,ByteArray.toList_eq]
  exact ⟨fun h=>by rw [h],fun h=>ByteArray.ext (Array.toList_inj.1 h)⟩
theorem ZBw {s:ByteArray} {i:Nat} (h:i < s.size):∃ b,s.data.toList[i]?=some b∧ZbR s i=(b.toNat:Nat):=by
  have hl:i < s.data.toList.length:=h
  refine ⟨s.data.toList[i],List.getElem?_eq_getElem hl,?_⟩
  unfold ZbR
  rw [List.getD_eq_getElem?_getD,List.getElem?_eq_getElem hl]
  rfl
theorem ZAb (s:ByteArray) (i:Nat):0≤ZbR s i∧ZbR s i≤255:=by
  unfold ZbR
  have:=(s.data.toList.getD i 0).toNat_lt
  omega
theorem ZDy (l:List UInt8) (a b:UInt8) (i:Nat):Lib.occAt l [a,b] i=true↔l[i]?=some a∧l[i + 1]?=some b:=by
  unfold Lib.occAt
  have h0:(l.drop i)[0]?=l[i]?:=by rw [List.getElem?_drop]; rfl
  have h1:(l.drop i)[1]?=l[i + 1]?:=by rw [List.getElem?_drop]
  rw [← h0,← h1]
  cases l.drop i with
  | nil=>simp
  | cons x r =>
    cases r with
    | nil=>simp [List.isPrefixOf]
    | cons y r =>
      simp only [List.isPrefixOf,Bool.and_true,Bool.and_eq_true,beq_iff_eq,List.getElem?_cons_zero,List.getElem?_cons_succ,Option.some.injEq]
      exact ⟨fun h=>⟨h.1.symm,h.2.symm⟩,fun h=>⟨h.1.symm,h.2.symm⟩⟩
theorem ZnZ (s:ByteArray):ZHA s (⟨#[47,47]⟩:ByteArray)=true↔∃ i,i + 1 < s.size∧ZbR s i=47∧ZbR s (i + 1)=47:=by
  have hb:∀ i,i < s.size→(ZbR s i=47↔s.data.toList[i]?=some 47):=fun i hi=>by
    obtain ⟨b,h1,h2⟩:=ZBw hi
    rw [h1,h2]
    constructor
    · intro h
      have:b.toNat=47:=by omega
      exact congrArg some (UInt8.toNat_inj.1 this)
    · intro h
      obtain rfl:=Option.some.inj h
      rfl
  have hlen:s.data.toList.length=s.size:=rfl
  show Lib.contains s.data.toList [47,47]=true↔_
  unfold Lib.contains
  rw [decide_eq_true_eq]
  rcases Lib.index_spec s.data.toList [47,47] with ⟨h1,h2⟩ | ⟨i,h1,h2,h3,_⟩
  · constructor
    · intro h; omega
    · rintro ⟨i,hi,ha,hc⟩
      have:=h2 i (by omega)
      rw [(ZDy _ _ _ _).2 ⟨(hb i (by omega)).1 ha,(hb (i + 1) hi).1 hc⟩] at this
      cases this
  · constructor
    · intro _
      obtain ⟨ha,hc⟩:=(ZDy _ _ _ _).1 h3
      have hi:i + 1 < s.size:=(List.getElem?_eq_some_iff.1 hc).1
      exact ⟨i,hi,(hb i (by omega)).2 ha,(hb (i + 1) hi).2 hc⟩
    · intro _; omega
def ZjI (s:ByteArray) (i:Nat):Prop:=(ZbR s i=47∧(i=0∨i + 1=s.size∨ZbR s (i - 1)=47))∨(ZbR s i ≠ 47∧(ZbR s i < 97∨122 < ZbR s i))
instance (s:ByteArray) (i:Nat):Decidable (ZjI s i):=by unfold ZjI; infer_instance
def Zbx (s:ByteArray):Bool:=decide ((∀ i,i < s.size→¬ ZjI s i)∧1≤s.size∧s.size≤12)
theorem ZiC {s:ByteArray} {i:Nat} (hi:i < s.size) (h:ZjI s i):Zbx s=false:=decide_eq_false fun q=>q.1 i hi h
theorem ZlQ {s:ByteArray} (h:∀ i,i < s.size→¬ ZjI s i):Zbx s=btw (s.size:Nat) 1 12:=by
  unfold Zbx
  rw [Bool.eq_iff_iff,decide_eq_true_eq,Zbw]
  exact ⟨fun q=>by omega,fun q=>⟨h,by omega⟩⟩
theorem Zyk {s:ByteArray} (h:btw (s.size:Nat) 1 12=false):Zbx s=false:=decide_eq_false fun q=>by rw [ZbG] at h; omega
def ZIA (x:Int):Prop:=¬ ((97≤x∧x≤122)∨(65≤x∧x≤90)∨(48≤x∧x≤57))
instance (x:Int):Decidable (ZIA x):=by unfold ZIA; infer_instance
set_option maxRecDepth 100000
set_option maxHeartbeats 4000000
theorem ZBx (n:Int) (lo:Int) (hi:Int):Zat Tryz.prog 91 [.c (.int .i64 n), .c (.int .i64 lo), .c (.int .i64 hi)] (.c (.bool (btw n lo hi))) []:=by
  refine bc0 [] [] [] [] L0 Tryz.func91 (fun hwf=>?_)
  exact ZvY
def Zex:ZaI Tryz.prog:=⟨91,[.v ZaC, .v ZaC, .v ZaC],fun x=>True,fun x=>.c (.bool (btw x.1 x.2.1 x.2.2.1)),fun _=>[],fun x hx=>ZBx x.1 x.2.1 x.2.2.1,Tryz.call91⟩
theorem ZFF (n:Int) (lo:Int) (hi:Int):Zat Tryz.prog 67 [.c (.int .i64 n), .c (.int .i64 lo), .c (.int .i64 hi)] (.c (.bool (btw n lo hi))) []:=by
  refine bc0 [] [] [] [] L0 Tryz.func67 (fun hwf=>?_)
  exact ZvY
def ZhP:ZaI Tryz.prog:=⟨67,[.v ZaC, .v ZaC, .v ZaC],fun x=>True,fun x=>.c (.bool (btw x.1 x.2.1 x.2.2.1)),fun _=>[],fun x hx=>ZFF x.1 x.2.1 x.2.2.1,Tryz.call67⟩
theorem ZDz (a:Int) (b:Int):Zat Tryz.prog 137 [.c (.int .i64 a), .c (.int .i64 b)] (.c (.int .i64 (min a b))) []:=by
  refine bc0 [] [] [] [] L0 Tryz.func137 (fun hwf=>?_)
  refine Eq.mpr (β:=(T4 (bif (ltI a b) then (T2 (rI a (min a b))) else (T2 (rI b (min a b)))))) (by kernel_rfl) ?_
  exact ZwL
def ZDA:ZaI Tryz.prog:=⟨137,[.v ZaC, .v ZaC],fun x=>True,fun x=>.c (.int .i64 (min x.1 x.2.1)),fun _=>[],fun x hx=>ZDz x.1 x.2.1,Tryz.call137⟩
theorem ZDB (a:Int) (b:Int):Zat Tryz.prog 46 [.c (.int .i64 a), .c (.int .i64 b)] (.c (.int .i64 (max a b))) []:=by
  refine bc0 [] [] [] [] L0 Tryz.func46 (fun hwf=>?_)
  refine Eq.mpr (β:=(T4 (bif (gtI a b) then (T2 (rI a (max a b))) else (T2 (rI b (max a b)))))) (by kernel_rfl) ?_
  exact ZwL
def ZtQ:ZaI Tryz.prog:=⟨46,[.v ZaC, .v ZaC],fun x=>True,fun x=>.c (.int .i64 (max x.1 x.2.1)),fun _=>[],fun x hx=>ZDB x.1 x.2.1,Tryz.call46⟩
def ZFp (x:Int):Prop:=x=47∨(97≤x∧x≤122)
theorem ZHB {s:ByteArray} {i:Nat} (hi:i < s.size) (h:¬ ZFp (ZbR s i)):Zbx s=false:=ZiC hi (by unfold ZFp at h; unfold ZjI; right; omega)
theorem ZFG {s:ByteArray} (hi:1≤s.size) (h:ZbR s 0=47):Zbx s=false:=ZiC (i:=0) (by omega) (by unfold ZjI; left; omega)
theorem ZHC {s:ByteArray} (hi:1≤s.size) (h:ZbR s (s.size - 1)=47):Zbx s=false:=ZiC (i:=s.size - 1) (by omega) (by unfold ZjI; left; omega)
theorem ZIB {s:ByteArray} (hc:∀ j,j < s.size→ZFp (ZbR s j)) (hb:btw ((s.size:Nat):Int) 1 12=true) (h0:¬ ZbR s 0=47) (h1:¬ ZbR s (s.size - 1)=47):(!ZHA s (⟨#[47,47]⟩:ByteArray))=Zbx s:=by
  cases hs:ZHA s (⟨#[47,47]⟩:ByteArray) with
  | true =>
    obtain ⟨i,hi,ha,hb'⟩:=(ZnZ s).1 hs
    exact (ZiC (i:=i + 1) hi (by unfold ZjI; left; exact ⟨hb', .inr (.inr (by simpa using ha))⟩)).symm
  | false =>
    rw [ZlQ,hb]
    · rfl
    · intro i hi hbad
      have hci:=hc i hi
      unfold ZjI at hbad
      unfold ZFp at hci
      rcases hbad with ⟨q,rfl | q2 | q2⟩ | ⟨q,q2⟩
      · exact h0 q
      · exact h1 (by rw [show s.size - 1=i by omega]; exact q)
      · have h2:ZHA s (⟨#[47,47]⟩:ByteArray)=true:=(ZnZ s).2 ⟨i - 1,by
          have:i ≠ 0:=fun e=>by subst e; exact h0 q
          omega,q2,by
          have:i ≠ 0:=fun e=>by subst e; exact h0 q
          rw [show i - 1 + 1=i by omega]; exact q⟩
        rw [hs] at h2
        cases h2
      · omega
def ZBy (s:ByteArray):Nat→List AV→Mem→Zbn
  | 2,tm,M=>⟨Nat,fun y=>(ZcN (ZcV tm [(2, .any),(3, .any),(6, .c (.int .i64 ((y:Nat):Int)))]) 7 19,M),fun y=>(y≤ByteArray.size s∧∀ j,j < y→ZFp (ZbR s j)),fun y=>(ByteArray.size s - y)⟩
  | _,_,_=>⟨Unit,fun _=>([],[]),fun _=>False,fun _=>0⟩
def Zyl (s:ByteArray) (y0:Nat):Prop:=(T2 (∃ y0' : Nat,(y0'≤ByteArray.size s∧∀ j,j < y0'→ZFp (ZbR s j))∧(ByteArray.size s - y0') < (ByteArray.size s - y0)∧((lxs [.c (.str s), .tp []] (True∧True∧lxs [.c (.str s),ci (ByteArray.size s)] (vI (w64 ((y0:Int) + 1)) y0'∧TN 19 (tpn 21 True))))∧pt (True))))
def Zr3 (y0:Nat) (s:ByteArray):Prop:=((0:Int)≤(y0:Int)∧((y0:Int):Int) < (ByteArray.size s:Int))
theorem ZBz (s:ByteArray):Zat Tryz.prog 244 [.c (.str s)] (.c (.bool (Zbx s))) []:=by
  refine bc0 [Zex,ZkO] [] [] [] (ZBy s) Tryz.func244 (fun hwf=>?_)
  refine Eq.mpr (β:=(T4 ((∃ q:Nat,(q≤ByteArray.size s∧∀ j,j < q→ZFp (ZbR s j))∧((lxs [.c (.str s), .tp []] (True∧True∧lxs [.c (.str s),ci (ByteArray.size s)] (vI 0 q∧TN 19 (tpn 21 True))))∧pt (True)))∧∀ y0:Nat,(y0≤ByteArray.size s∧∀ j,j < y0→ZFp (ZbR s j))→(True∧(bif (ltI y0 (ByteArray.size s)) then (T4 ((Zr3 y0 s)∧(T2 (bif (neI (ZbR s y0) 47) then (T2 ((Zr3 y0 s)∧(T2 (bif (ltI (ZbR s y0) 97) then (T3 (rB false (Zbx s))) else (T2 ((Zr3 y0 s)∧(T3 (bif (gtI (ZbR s y0) 122) then (True∧(rB false (Zbx s))) else (Zyl s y0))))))))) else (True∧(Zyl s y0)))))) else (T2 ((pt True)∧(True∧(bif btw (ByteArray.size s:Int) 1 12 then (True∧(((0:Int)≤0∧(0:Int) < (ByteArray.size s:Int))∧(T3 (bif (neI (ZbR s (Int.toNat 0)) 47) then (T4 (((0:Int)≤(w64 ((ByteArray.size s:Int) - 1))∧((w64 ((ByteArray.size s:Int) - 1)):Int) < (ByteArray.size s:Int))∧(T3 (bif (neI (ZbR s (Int.toNat (w64 ((ByteArray.size s:Int) - 1)))) 47) then (True∧((pt (ByteArray.size s < 4294967281))∧(T3 (rB (!(ZHA s (⟨#[47,47]⟩:ByteArray))) (Zbx s))))) else (T2 (rB false (Zbx s))))))) else (T4 (rB false (Zbx s))))))) else (T6 (rB false (Zbx s)))))))))))) (by kernel_rfl) ?_
  unfold Zr3 Zyl T2 T3 T4 T6
  have hm:s.size≤maxLen:=hwf.1
  unfold maxLen at hm
  have e1:1≤s.size→Int.toNat (IntKind.wrap .i64 (((ByteArray.size s:Nat):Int) - 1))=s.size - 1:=fun h=>by rw [ZaR (by omega) (by omega)]; omega
  have e2:IntKind.wrap .i64 (((ByteArray.size s:Nat):Int) - 1)=((ByteArray.size s:Nat):Int) - 1:=ZaR (by omega) (by omega)
  simp only [Zd0,eq_self]
  refine ⟨⟨0,⟨Nat.zero_le _,fun j hj=>absurd hj (Nat.not_lt_zero j)⟩,rfl⟩,fun k hk=>⟨fun hlt=>?_,fun hge=>?_⟩⟩
  · have hb:=ZAb s k
    repeat' (first | apply And.intro | intro _)
    all_goals first
      | trivial
      | omega
      | exact (ZHB (i:=k) (by omega) (by unfold ZFp; omega)).symm
      | exact ⟨k + 1,⟨by omega,fun j hj=>if h:j < k then hk.2 j h else by obtain rfl:j=k:=(by omega); unfold ZFp; omega⟩,by omega,ZbN (by unfold maxLen; omega)⟩
  · obtain rfl:k=s.size:=by omega
    repeat' (first | apply And.intro | intro _)
    all_goals first
      | trivial
      | (rw [Zbw] at *; omega)
      | (have hb1:=Zbw.1 (by assumption:btw ((ByteArray.size s:Nat):Int) 1 12=true); first | omega | (rw [e1 (by omega)] at *; first | exact ZIB hk.2 (by assumption) (by assumption) (by assumption) | exact (ZHC (by omega) (by assumption)).symm) | exact (ZFG (by omega) (by assumption)).symm)
      | exact (Zyk (by assumption)).symm
def Zg7:ZaI Tryz.prog:=⟨244,[.v ZaK],fun x=>True,fun x=>.c (.bool (Zbx x.1)),fun _=>[],fun x hx=>ZBz x.1,Tryz.call244⟩
def ZBA (s:ByteArray):Nat→List AV→Mem→Zbn
  | 2,tm,M=>⟨Nat,fun y=>(ZcN (ZcV tm [(2, .any),(3, .c (.int .i64 ((y:Nat):Int)))]) 4 36,M),fun y=>(y≤ByteArray.size s∧∀ j,j < y→¬ ZjI s j),fun y=>(ByteArray.size s - y)⟩
  | _,_,_=>⟨Unit,fun _=>([],[]),fun _=>False,fun _=>0⟩
def Zym (s:ByteArray) (y0:Nat):Prop:=(T3 (∃ y0' : Nat,(y0'≤ByteArray.size s∧∀ j,j < y0'→¬ ZjI s j)∧(ByteArray.size s - y0') < (ByteArray.size s - y0)∧((lxs [.c (.str s), .tp []] (True∧vI (w64 ((y0:Int) + 1)) y0'∧TN 36 (tpn 3 True)))∧pt (True))))
def Zr4 (y0:Nat) (s:ByteArray):Prop:=((0:Int)≤(y0:Int)∧((y0:Int):Int) < (ByteArray.size s:Int))
theorem ZBB (s:ByteArray):Zat Tryz.prog 222 [.c (.str s)] (.c (.bool (Zbx s))) []:=by
  refine bc0 [ZhP] [] [] [] (ZBA s) Tryz.func222 (fun hwf=>?_)
  refine Eq.mpr (β:=(T2 ((∃ q:Nat,(q≤ByteArray.size s∧∀ j,j < q→¬ ZjI s j)∧((lxs [.c (.str s), .tp []] (True∧vI 0 q∧TN 36 (tpn 3 True)))∧pt (True)))∧∀ y0:Nat,(y0≤ByteArray.size s∧∀ j,j < y0→¬ ZjI s j)→(T4 (bif (ltI y0 (ByteArray.size s)) then (T2 ((Zr4 y0 s)∧(True∧(bif (eqI (ZbR s y0) 47) then (T3 (bif (eqI y0 0) then (T4 (rB false (Zbx s))) else (T7 (bif (eqI y0 (w64 ((ByteArray.size s:Int) - 1))) then (T2 (rB false (Zbx s))) else (T3 (((0:Int)≤(w64 ((y0:Int) - 1))∧((w64 ((y0:Int) - 1)):Int) < (ByteArray.size s:Int))∧(T2 (bif (eqI (ZbR s (Int.toNat (w64 ((y0:Int) - 1)))) 47) then (True∧(rB false (Zbx s))) else (Zym s y0))))))))) else (T2 ((Zr4 y0 s)∧(T2 (bif (ltI (ZbR s y0) 97) then (T2 (rB false (Zbx s))) else (T2 ((Zr4 y0 s)∧(T2 (bif (gtI (ZbR s y0) 122) then (True∧(rB false (Zbx s))) else (Zym s y0))))))))))))) else (T2 ((pt True)∧(True∧(rB (btw (ByteArray.size s:Int) 1 12) (Zbx s)))))))))) (by kernel_rfl) ?_
  unfold Zr4 Zym T2 T3 T4 T7
  have hm:s.size≤maxLen:=hwf.1
  unfold maxLen at hm
  have e2:IntKind.wrap .i64 (((ByteArray.size s:Nat):Int) - 1)=((ByteArray.size s:Nat):Int) - 1:=ZaR (by omega) (by omega)
  simp only [Zd0,eq_self]
  refine ⟨⟨0,⟨Nat.zero_le _,fun j hj=>absurd hj (Nat.not_lt_zero j)⟩,rfl⟩,fun k hk=>⟨fun hlt=>?_,fun hge=>?_⟩⟩
  · have hb:=ZAb s k
    have e3:IntKind.wrap .i64 (((k:Nat):Int) - 1)=((k:Nat):Int) - 1:=ZaR (by omega) (by omega)
    have e4:1≤k→Int.toNat (((k:Nat):Int) - 1)=k - 1:=fun h=>by omega
    simp only [e2,e3]
    repeat' (first | apply And.intro | intro _)
    all_goals first
      | trivial
      | omega
      | exact (ZiC (i:=k) (by omega) (by unfold ZjI; first | (right; omega) | (left; refine ⟨by assumption,?_⟩; first | (left; omega) | (right; left; omega) | (right; right; rw [← e4 (by omega)]; assumption)))).symm
      | exact ⟨k + 1,⟨by omega,fun j hj=>if h:j < k then hk.2 j h else by obtain rfl:j=k:=(by omega); unfold ZjI; first | (rintro (⟨q,q2⟩ | ⟨q,q2⟩) <;> omega) | (rw [e4 (by omega)] at *; rintro (⟨q,rfl | q2 | q2⟩ | ⟨q,q2⟩) <;> first | omega | contradiction)⟩,by omega,ZbN (by unfold maxLen; omega)⟩
  · obtain rfl:k=s.size:=by omega
    first | exact (ZlQ hk.2).symm | exact ⟨trivial,(ZlQ hk.2).symm⟩
def Zg8:ZaI Tryz.prog:=⟨222,[.v ZaK],fun x=>True,fun x=>.c (.bool (Zbx x.1)),fun _=>[],fun x hx=>ZBB x.1,Tryz.call222⟩
def Zcr (n:Zay):Bool:=if n.1=1 then (btw n.2.1 0 300 && (btw n.2.2.1 0 999999998 && eqS n.2.2.2 (⟨#[]⟩:ByteArray))) else (btw n.1 2 4 && (eqI n.2.1 0 && (eqI n.2.2.1 0 && Zbx n.2.2.2)))
theorem ZBC (n:Zay):Zat Tryz.prog 177 [.ag (cellsOf Zai n)] (.c (.bool (Zcr n))) []:=by
  refine bc0 [Zex,Zg7] [] [] [] L0 Tryz.func177 (fun hwf=>?_)
  exact ZvO
def Zqw:ZaI Tryz.prog:=⟨177,[.s Zai],fun x=>True,fun x=>.c (.bool (Zcr x.1)),fun _=>[],fun x hx=>ZBC x.1,Tryz.call177⟩
theorem ZBD (n:Zay):Zat Tryz.prog 154 [.ag (cellsOf Zai n)] (.c (.bool (Zcr n))) []:=by
  refine bc0 [ZhP,Zg8] [] [] [] L0 Tryz.func154 (fun hwf=>?_)
  exact ZvO
def Zqx:ZaI Tryz.prog:=⟨154,[.s Zai],fun x=>True,fun x=>.c (.bool (Zcr x.1)),fun _=>[],fun x hx=>ZBD x.1,Tryz.call154⟩
theorem ZIC {a b:Int}:(if b > a then b else a)=max a b:=by omega
def ZeO (l:List Zay):Nat→Int
  | 0=>-1
  | k + 1=>if (Zaf l k).1=1 then max (ZeO l k) (Zaf l k).2.1 else ZeO l k
def ZfQ (l:List Zay) (n:Int):Bool:=!List.any l (fun z0:Zay=>eqI z0.1 1 && geI z0.2.1 n)
def ZlR (l:List Zay) (s:ByteArray):Bool:=List.any l (fun z0:Zay=>eqI z0.1 2 && eqS z0.2.2.2 s)
theorem ZAc {l:List Zay} {n:Int}:∀ {k:Nat},n≤ZeO l k↔n≤-1∨∃ j,j < k∧(Zaf l j).1=1∧n≤(Zaf l j).2.1
  | 0=>by
    unfold ZeO
    constructor
    · exact .inl
    · rintro (h | ⟨j,hj,_⟩)
      · exact h
      · omega
  | k + 1=>by
    have ih:=ZAc (l:=l) (n:=n) (k:=k)
    unfold ZeO
    constructor
    · intro h
      split at h
      · rename_i h1
        by_cases h2:n≤ZeO l k
        · rcases ih.1 h2 with h3 | ⟨j,a,b⟩
          · exact .inl h3
          · exact .inr ⟨j,by omega,b⟩
        · exact .inr ⟨k,by omega,h1,by omega⟩
      · rcases ih.1 h with h3 | ⟨j,a,b⟩
        · exact .inl h3
        · exact .inr ⟨j,by omega,b⟩
    · intro h
      have:n≤ZeO l k∨((Zaf l k).1=1∧n≤(Zaf l k).2.1):=by
        rcases h with h | ⟨j,a,b,c⟩
        · exact .inl (ih.2 (.inl h))
        · by_cases hj:j=k
          · subst hj; exact .inr ⟨b,c⟩
          · exact .inl (ih.2 (.inr ⟨j,by omega,b,c⟩))
      split
      · rcases this with h | h <;> omega
      · rename_i h1
        rcases this with h | h
        · exact h
        · exact absurd h.1 h1
theorem ZDC {l:List Zay} {j:Nat} {z:Zay} (hj:j < List.length l) (e:l[j]=z):Zaf l j=z:=by
  have h:l[j]?=some z:=by rw [List.getElem?_eq_getElem hj,e]
  exact ZbU (t:=Zai) h
theorem Zqy {l:List Zay} {n:Int} (h:0≤n):ZfQ l n=decide (ZeO l (List.length l) < n):=by
  rw [Bool.eq_iff_iff,decide_eq_true_eq]
  have h1:=ZAc (l:=l) (n:=n) (k:=List.length l)
  unfold ZfQ
  rw [Bool.not_eq_true',← Bool.not_eq_true,List.any_eq_true]
  constructor
  · intro q
    refine Int.not_le.1 fun hn=>?_
    rcases h1.1 hn with h2 | ⟨j,a,b,c⟩
    · omega
    · exact q ⟨Zaf l j,List.mem_of_getElem? (Zau (t:=Zai) a),by rw [Bool.and_eq_true,ZbA,Zdj]; exact ⟨b,c⟩⟩
  · rintro q ⟨z,hz,hp⟩
    obtain ⟨j,hj,e⟩:=List.getElem_of_mem hz
    have e2:Zaf l j=z:=ZDC hj e
    rw [Bool.and_eq_true,ZbA,Zdj] at hp
    exact absurd (h1.2 (.inr ⟨j,hj,by rw [e2]; exact hp.1,by rw [e2]; exact hp.2⟩)) (by omega)
theorem Zr5 (n:Zay):Zat Tryz.prog 108 [.ag (cellsOf Zai n)] (.c (.bool (eqI n.1 1))) []:=by
  refine bc0 [] [] [] [] L0 Tryz.func108 (fun hwf=>?_)
  refine Eq.mpr (β:=(T6 (rB (eqI n.1 1) (eqI n.1 1)))) (by kernel_rfl) ?_
  exact Zps
def Zfq:ZaI Tryz.prog:=⟨108,[.s Zai],fun x=>True,fun x=>.c (.bool (eqI x.1.1 1)),fun _=>[],fun x hx=>Zr5 x.1,Tryz.call108⟩
theorem Zn0 (n:Zay):Zat Tryz.prog 179 [.ag (cellsOf Zai n)] (.c (.bool (neI n.1 1))) []:=by
  refine bc0 [] [] [] [] L0 Tryz.func179 (fun hwf=>?_)
  refine Eq.mpr (β:=(T6 (rB (neI n.1 1) (neI n.1 1)))) (by kernel_rfl) ?_
  exact Zps
def ZfR:ZaI Tryz.prog:=⟨179,[.s Zai],fun x=>True,fun x=>.c (.bool (neI x.1.1 1)),fun _=>[],fun x hx=>Zn0 x.1,Tryz.call179⟩
def ZlS (qu:ZaU):Nat→List AV→Mem→Zbn
  | 3,tm,M=>⟨Nat,fun y=>(ZcN (ZcV tm [(3, .c (.int .i64 (ZeO qu.1 y))),(5, .any),(9, .c (.int .i64 ((y:Nat):Int)))]) 10 10,M),fun y=>(y≤List.length qu.1),fun y=>(List.length qu.1 - y)⟩
  | _,_,_=>⟨Unit,fun _=>([],[]),fun _=>False,fun _=>0⟩
def Zyn (qu:ZaU) (y0:Nat) (y0' : Nat):Prop:=(True∧lxs [.c (.bp 0 0),hn Zai qu.1,ci (List.length qu.1)] (vI (w64 ((y0:Int) + 1)) y0'∧TN 10 (lxs [.tp []] True)))
def Zkl (qu:ZaU):List AC:=[.hs .no Zai qu.1, .bool qu.2.1, .bool qu.2.2]
theorem ZlT (qu:ZaU):Zat Tryz.prog 178 [.ag [.hs .no Zai qu.1, .bool qu.2.1, .bool qu.2.2]] (.c (.int .i64 (ZeO qu.1 (List.length qu.1)))) []:=by
  refine bc0 [Zfq] [] [] [] (ZlS qu) Tryz.func178 (fun hwf=>?_)
  refine Eq.mpr (β:=(T7 ((∃ q:Nat,(q≤List.length qu.1)∧((lxs [.ag (Zkl qu), .c (.bp 0 0),ci 0] (vI (-1) (ZeO qu.1 q)∧lxs [.tp []] (True∧lxs [.c (.bp 0 0),hn Zai qu.1,ci (List.length qu.1)] (vI 0 q∧TN 10 (lxs [.tp []] True)))))∧pt (lb (.box (Zkl qu))∧True)))∧∀ y0:Nat,(y0≤List.length qu.1)→(True∧(bif (ltI y0 (List.length qu.1)) then ((ix 4 y0 (List.length qu.1))∧(T4 ((pt True)∧(bif eqI (Zaf qu.1 y0).1 1 then (T3 (IntKind.i64=IntKind.i64∧(T3 (∃ y0' : Nat,(y0'≤List.length qu.1)∧(List.length qu.1 - y0') < (List.length qu.1 - y0)∧((lxs [.ag (Zkl qu), .c (.bp 0 0),ci 0] (vI (if ((Zaf qu.1 y0).2.1:Int) > (ZeO qu.1 y0) then (Zaf qu.1 y0).2.1 else (ZeO qu.1 y0)) (ZeO qu.1 y0')∧lxs [.tp []] (Zyn qu y0 y0')))∧pt (lb (.box (Zkl qu))∧True)))))) else (T2 (∃ y0' : Nat,(y0'≤List.length qu.1)∧(List.length qu.1 - y0') < (List.length qu.1 - y0)∧((lxs [.ag (Zkl qu), .c (.bp 0 0),ci 0] (vI (ZeO qu.1 y0) (ZeO qu.1 y0')∧lxs [.tp []] (Zyn qu y0 y0')))∧pt (lb (.box (Zkl qu))∧True)))))))) else (T2 (rI (ZeO qu.1 y0) (ZeO qu.1 (List.length qu.1))))))))) (by kernel_rfl) ?_
  unfold Zkl Zyn T2 T3 T4 T7
  have hm:List.length qu.1≤maxLen:=hwf.1.1.1
  simp only [Zd0,eq_self]
  simp only [ZIC]
  refine ⟨⟨0,Nat.zero_le _,rfl,rfl⟩,fun k hk=>⟨fun hlt=>?_,fun hge=>?_⟩⟩
  · repeat' (first | apply And.intro | intro _)
    all_goals first
      | trivial
      | omega
      | exact ⟨k + 1,by omega,by omega,(if_pos (by assumption)).symm,ZbN (by omega)⟩
      | exact ⟨k + 1,by omega,by omega,(if_neg (by assumption)).symm,ZbN (by omega)⟩
  · obtain rfl:k=List.length qu.1:=by omega
    first | rfl | exact ⟨trivial,rfl⟩
def Zg9:ZaI Tryz.prog:=⟨178,[.s ZbJ],fun x=>True,fun x=>.c (.int .i64 (ZeO x.1.1 (List.length x.1.1))),fun _=>[],fun x hx=>ZlT x.1,Tryz.call178⟩
def ZaO (l:List Zay) (b:Bool):Nat→List Zay
  | 0=>[]
  | k + 1=>if eqI (Zaf l k).1 1=b then ZaO l b k ++ [Zaf l k] else ZaO l b k
theorem Zn1 {l:List Zay} {b:Bool}:∀ k,(ZaO l b k).length≤k
  | 0=>Nat.le_refl _
  | k + 1=>by have:=Zn1 (l:=l) (b:=b) k; unfold ZaO; split <;> simp <;> omega
theorem ZDD {l:List Zay} {k:Nat} (h:k < List.length l):List.take (k + 1) l=List.take k l ++ [Zaf l k]:=by
  have h0:l[k]?=some (Zaf l k):=Zau (t:=Zai) h
  rw [List.take_add_one,h0]
  rfl
theorem ZlU {l:List Zay} {b:Bool}:∀ {k:Nat},k≤List.length l→(∀ j,j < k→eqI (Zaf l j).1 1=b)→ZaO l b k=List.take k l
  | 0,_,_=>by simp [ZaO]
  | k + 1,hk,h=>by
    unfold ZaO
    rw [if_pos (h k (by omega)),ZlU (by omega) (fun j hj=>h j (by omega)),ZDD (by omega)]
def ZFq (l:List Zay) (v:Zay):Bool:=List.any l (fun z0:Zay=>Zc5 v z0)
def Zs8 (q:ZaU) (i:Nat):Bool:=!Zcr (Zaf q.1 i) || ((eqI (Zaf q.1 i).1 1 && (q.2.1 || !ZfQ (List.take i q.1) (Zaf q.1 i).2.1)) || ((neI (Zaf q.1 i).1 1 && q.2.2) || (eqI (Zaf q.1 i).1 2 && ZlR (List.take i q.1) (Zaf q.1 i).2.2.2)))
def ZJm (q:ZaU) (i:Nat):Bool:=!Zcr (Zaf q.1 i) || ((eqI (Zaf q.1 i).1 1 && (q.2.1 || leI (Zaf q.1 i).2.1 (ZeO (List.take i q.1) (List.length (List.take i q.1))))) || ((neI (Zaf q.1 i).1 1 && q.2.2) || (eqI (Zaf q.1 i).1 2 && ZFq (List.take i q.1) (Zaf q.1 i))))
def Zcf (q:ZaU):Bool:=decide ((∀ i,i < List.length q.1→Zs8 q i=false)∧List.length q.1≤6)
theorem Zqz {q:ZaU} {i:Nat} (hi:i < List.length q.1) (h:Zs8 q i=true):Zcf q=false:=decide_eq_false fun z=>by rw [z.1 i hi] at h; cases h
theorem Zn2 {q:ZaU} (h:∀ i,i < List.length q.1→Zs8 q i=false):Zcf q=leI ((List.length q.1:Nat):Int) 6:=by
  unfold Zcf
  rw [Bool.eq_iff_iff,decide_eq_true_eq,Zc3]
  exact ⟨fun z=>by have:=z.2; omega,fun z=>⟨h,by omega⟩⟩
theorem ZqA {n:Zay} (h:Zcr n=true) (h1:n.1=1):0≤n.2.1:=by
  unfold Zcr at h
  rw [if_pos h1,Bool.and_eq_true,Zbw] at h
  omega
theorem Zmo {n:Zay} (h:Zcr n=true) (h1:n.1 ≠ 1):n.2.1=0∧n.2.2.1=0:=by
  unfold Zcr at h
  rw [if_neg h1,Bool.and_eq_true,Bool.and_eq_true,Bool.and_eq_true,ZbA,ZbA] at h
  exact ⟨h.2.1,h.2.2.1⟩
theorem Zr6 {l:List Zay} {v:Zay} (hl:∀ j,j < List.length l→Zcr (Zaf l j)=true) (hv:Zcr v=true) (h2:v.1=2):ZFq l v=ZlR l v.2.2.2:=by
  unfold ZFq ZlR
  rw [Bool.eq_iff_iff,List.any_eq_true,List.any_eq_true]
  constructor
  · rintro ⟨z,hz,he⟩
    have e:=Zfv.1 he
    exact ⟨z,hz,by rw [← e,Bool.and_eq_true,ZbA,Zc4]; exact ⟨h2,rfl⟩⟩
  · rintro ⟨z,hz,he⟩
    rw [Bool.and_eq_true,ZbA,Zc4] at he
    obtain ⟨j,hj,e⟩:=List.getElem_of_mem hz
    have e2:Zaf l j=z:=ZDC hj e
    have hz':=hl j hj
    rw [e2] at hz'
    have p1:=Zmo hz' (by omega)
    have p2:=Zmo hv (by omega)
    exact ⟨z,hz,Zfv.2 (Prod.ext (by omega) (Prod.ext (by omega) (Prod.ext (by omega) he.2.symm)))⟩
theorem Zyo {q:ZaU} {j:Nat} (h:Zs8 q j=false):Zcr (Zaf q.1 j)=true:=by
  unfold Zs8 at h
  cases hn:Zcr (Zaf q.1 j) with
  | true=>rfl
  | false=>rw [hn] at h; cases h
theorem ZFH {l:List Zay} {i j:Nat} (h:j < i) (hi:i≤List.length l):Zaf (List.take i l) j=Zaf l j:=by
  have h0:l[j]?=some (Zaf l j):=Zau (t:=Zai) (by have:i≤List.length l:=hi; show j < List.length l; omega)
  have h1:(List.take i l)[j]?=some (Zaf l j):=by rw [List.getElem?_take,if_pos h]; exact h0
  exact ZbU (t:=Zai) h1
theorem ZDE {l:List Zay} {n:Int} {k:Nat} (hk:k < List.length l) (h:(Zaf l k).1=1∧n≤(Zaf l k).2.1):ZfQ l n=false:=by
  have h' : List.any l (fun z0:Zay=>eqI z0.1 1 && geI z0.2.1 n)=true:=any_at_nth (t:=Zai) (xs:=l) (p:=fun z0:Zay=>eqI z0.1 1 && geI z0.2.1 n) hk (by show (eqI (Zaf l k).1 1 && geI (Zaf l k).2.1 n)=true; rw [Bool.and_eq_true,ZbA,Zdj]; exact h)
  unfold ZfQ
  rw [h']
  rfl
theorem ZqB {l:List Zay} {n:Int} (h:∀ j,j < List.length l→¬ ((Zaf l j).1=1∧n≤(Zaf l j).2.1)):ZfQ l n=true:=by
  have h' : List.any l (fun z0:Zay=>eqI z0.1 1 && geI z0.2.1 n)=false:=ZfB (t:=Zai) (xs:=l) (p:=fun z0:Zay=>eqI z0.1 1 && geI z0.2.1 n) (fun j hj=>by show (eqI (Zaf l j).1 1 && geI (Zaf l j).2.1 n)=false; rw [← Bool.not_eq_true,Bool.and_eq_true,ZbA,Zdj]; exact h j hj)
  unfold ZfQ
  rw [h']
  rfl
theorem ZDF {l:List Zay} {n:ByteArray} {k:Nat} (hk:k < List.length l) (h:(Zaf l k).1=2∧(Zaf l k).2.2.2=n):ZlR l n=true :=
  any_at_nth (t:=Zai) (xs:=l) (p:=fun z0:Zay=>eqI z0.1 2 && eqS z0.2.2.2 n) hk (by show (eqI (Zaf l k).1 2 && eqS (Zaf l k).2.2.2 n)=true; rw [Bool.and_eq_true,ZbA,Zc4]; exact h)
theorem ZAd {l:List Zay} {n:ByteArray} (h:∀ j,j < List.length l→¬ ((Zaf l j).1=2∧(Zaf l j).2.2.2=n)):ZlR l n=false :=
  ZfB (t:=Zai) (xs:=l) (p:=fun z0:Zay=>eqI z0.1 2 && eqS z0.2.2.2 n) (fun j hj=>by show (eqI (Zaf l j).1 2 && eqS (Zaf l j).2.2.2 n)=false; rw [← Bool.not_eq_true,Bool.and_eq_true,ZbA,Zc4]; exact h j hj)
theorem ZDG {q:ZaU} {i:Nat} (hi:i < List.length q.1) (h:∀ j,j < i→Zs8 q j=false):ZJm q i=Zs8 q i:=by
  unfold ZJm Zs8
  cases hn:Zcr (Zaf q.1 i) with
  | false=>rfl
  | true =>
    have hlen:List.length (List.take i q.1)=i:=by rw [List.length_take]; omega
    by_cases h1:(Zaf q.1 i).1=1
    · rw [Zqy (ZqA hn h1),hlen,ZbA.2 h1]
      have e:leI (Zaf q.1 i).2.1 (ZeO (List.take i q.1) i)=!decide (ZeO (List.take i q.1) i < (Zaf q.1 i).2.1):=by
        rw [Bool.eq_iff_iff,Zc3,Bool.not_eq_true',decide_eq_false_iff_not]
        omega
      rw [e,Zb2.2 (show ¬ (Zaf q.1 i).1=2 by omega)]
      rfl
    · rw [Zb2.2 h1]
      by_cases h2:(Zaf q.1 i).1=2
      · rw [Zr6 (fun j hj=>by rw [hlen] at hj; rw [ZFH hj (by omega)]; exact Zyo (h j hj)) hn h2]
        rfl
      · rw [Zb2.2 h2]
        rfl
def Zfr (s:List Zay) (v:Zay):Nat→List AV→Mem→Zbn
  | 2,tm,M=>⟨Nat,fun y=>(ZcN (ZcV tm [(4, .any),(5, .any),(8, .c (.int .i64 ((y:Nat):Int)))]) 9 10,M),fun y=>(y≤List.length s∧∀ j,j < y→Zc5 v (Zaf s j)=false),fun y=>(List.length s - y)⟩
  | _,_,_=>⟨Unit,fun _=>([],[]),fun _=>False,fun _=>0⟩
def Zn3 (v:Zay):List AC:=[.int .i64 v.1, .int .i64 v.2.1, .int .i64 v.2.2.1, .str v.2.2.2]
theorem Zfs (s:List Zay) (v:Zay):Zat Tryz.prog 188 [.c (.hs .no Zai s), .ag (cellsOf Zai v)] (.c (.int .i64 (ZcO (fun z0:Zay=>Zc5 v z0) s))) []:=by
  refine bc0 [] [] [] [] (Zfr s v) Tryz.func188 (fun hwf=>?_)
  refine Eq.mpr (β:=(T5 ((∃ q:Nat,(q≤List.length s∧∀ j,j < q→Zc5 v (Zaf s j)=false)∧((lxs [hn Zai s, .ag (Zn3 v), .tp [], .c (.bp 0 0)] (True∧True∧lxs [hn Zai s,ci (List.length s)] (vI 0 q∧TN 10 True)))∧pt (lb (.box (Zn3 v))∧True)))∧∀ y0:Nat,(y0≤List.length s∧∀ j,j < y0→Zc5 v (Zaf s j)=false)→(True∧(bif (ltI y0 (List.length s)) then (T2 ((pt (true=true))∧(T3 ((ix 4 y0 (List.length s))∧(True∧(true=true∧(bif (Zc5 v (Zaf s y0)) then (T2 (rI (y0:Int) (ZcO (fun z0:Zay=>Zc5 v z0) s))) else (T2 (∃ y0' : Nat,(y0'≤List.length s∧∀ j,j < y0'→Zc5 v (Zaf s j)=false)∧(List.length s - y0') < (List.length s - y0)∧((lxs [hn Zai s, .ag (Zn3 v), .tp [], .c (.bp 0 0)] (True∧True∧lxs [hn Zai s,ci (List.length s)] (vI (w64 ((y0:Int) + 1)) y0'∧TN 10 True)))∧pt (lb (.box (Zn3 v))∧True))))))))))) else (True∧(rI (-1) (ZcO (fun z0:Zay=>Zc5 v z0) s)))))))) (by kernel_rfl) ?_
  unfold Zn3 T2 T3 T5
  simp only [Zd0,eq_self]
  have hm:List.length s≤maxLen:=hwf.1.1
  refine ⟨⟨0,⟨Nat.zero_le _,Zbl⟩,rfl⟩,fun k hk=>⟨fun hlt=>⟨by omega,fun hp=>?_,fun hp=>?_⟩,fun hge=>?_⟩⟩
  · have hk' : k < List.length s:=by omega
    exact (Zd4 (t:=Zai) (p:=fun z0:Zay=>Zc5 v z0) (xs:=s) hk' hk.2 hp).symm
  · exact Zdu
  · obtain rfl:k=List.length s:=by omega
    exact (ZbW (t:=Zai) (p:=fun z0:Zay=>Zc5 v z0) hk.2).symm
def Zft:ZaI Tryz.prog:=⟨188,[.v (.list Zai), .s Zai],fun x=>True,fun x=>.c (.int .i64 (ZcO (fun z0:Zay=>Zc5 x.2.1 z0) x.1)),fun _=>[],fun x hx=>Zfs x.1 x.2.1,Tryz.call188⟩
theorem Zey (s:List Zay) (v:Zay):Zat Tryz.prog 111 [.c (.hs .no Zai s), .ag (cellsOf Zai v)] (.c (.bool (ZFq s v))) []:=by
  refine bc0 [Zft] [] [] [] L0 Tryz.func111 (fun hwf=>?_)
  refine Eq.mpr (β:=(T4 ((pt True)∧(T2 (rB (geI (ZcO (fun z0:Zay=>Zc5 v z0) s) 0) (ZFq s v)))))) (by kernel_rfl) ?_
  exact Zwj
def ZcQ:ZaI Tryz.prog:=⟨111,[.v (.list Zai), .s Zai],fun x=>True,fun x=>.c (.bool (ZFq x.1 x.2.1)),fun _=>[],fun x hx=>Zey x.1 x.2.1,Tryz.call111⟩
def ZtR (qu:ZaU) (n:Int):Nat→List AV→Mem→Zbn
  | 2,tm,M=>⟨Nat,fun y=>(ZcN (ZcV tm [(4, .any),(5, .c (.int .i64 ((y:Nat):Int)))]) 6 24,M),fun y=>(y≤List.length qu.1∧∀ j,j < y→¬ ((Zaf qu.1 j).1=1∧n≤(Zaf qu.1 j).2.1)),fun y=>(List.length qu.1 - y)⟩
  | _,_,_=>⟨Unit,fun _=>([],[]),fun _=>False,fun _=>0⟩
def Zyp (qu:ZaU) (n:Int) (y0:Nat):Prop:=(T3 (∃ y0' : Nat,(y0'≤List.length qu.1∧∀ j,j < y0'→¬ ((Zaf qu.1 j).1=1∧n≤(Zaf qu.1 j).2.1))∧(List.length qu.1 - y0') < (List.length qu.1 - y0)∧((lxs [.ag [.hs .no Zai qu.1, .bool qu.2.1, .bool qu.2.2],ci n, .c (.bp 0 0), .tp []] (True∧vI (w64 ((y0:Int) + 1)) y0'∧TN 24 True))∧pt (lb (.box [.hs .no Zai qu.1, .bool qu.2.1, .bool qu.2.2])∧True))))
theorem ZtS (qu:ZaU) (n:Int):Zat Tryz.prog 155 [.ag [.hs .no Zai qu.1, .bool qu.2.1, .bool qu.2.2], .c (.int .i64 n)] (.c (.bool (ZfQ qu.1 n))) []:=by
  refine bc0 [] [] [] [] (ZtR qu n) Tryz.func155 (fun hwf=>?_)
  refine Eq.mpr (β:=(T3 ((∃ q:Nat,(q≤List.length qu.1∧∀ j,j < q→¬ ((Zaf qu.1 j).1=1∧n≤(Zaf qu.1 j).2.1))∧((lxs [.ag [.hs .no Zai qu.1, .bool qu.2.1, .bool qu.2.2],ci n, .c (.bp 0 0), .tp []] (True∧vI 0 q∧TN 24 True))∧pt (lb (.box [.hs .no Zai qu.1, .bool qu.2.1, .bool qu.2.2])∧True)))∧∀ y0:Nat,(y0≤List.length qu.1∧∀ j,j < y0→¬ ((Zaf qu.1 j).1=1∧n≤(Zaf qu.1 j).2.1))→(T5 (bif (ltI y0 (List.length qu.1)) then (T3 ((ix 4 y0 (List.length qu.1))∧(T4 (bif (eqI (Zaf qu.1 y0).1 1) then (T3 ((ix 4 y0 (List.length qu.1))∧(T5 (bif (geI (Zaf qu.1 y0).2.1 n) then (True∧(rB false (ZfQ qu.1 n))) else (Zyp qu n y0))))) else (True∧(Zyp qu n y0)))))) else (True∧(rB true (ZfQ qu.1 n)))))))) (by kernel_rfl) ?_
  unfold Zyp T3 T4 T5
  have hm:List.length qu.1≤maxLen:=hwf.1.1.1
  simp only [Zd0,eq_self]
  refine ⟨⟨0,⟨Nat.zero_le _,Zbl⟩,rfl⟩,fun k hk=>⟨fun hlt=>?_,fun hge=>?_⟩⟩
  · repeat' (first | apply And.intro | intro _)
    all_goals first
      | trivial
      | omega
      | exact (ZDE (k:=k) (by omega) ⟨by assumption,by assumption⟩).symm
      | exact ⟨k + 1,⟨by omega,ZbS hk.2 (fun h=>by first | omega | exact absurd h.1 (by assumption) | exact absurd h.2 (by assumption))⟩,by omega,ZbN (by omega)⟩
  · obtain rfl:k=List.length qu.1:=by omega
    first | exact (ZqB hk.2).symm | exact ⟨trivial,(ZqB hk.2).symm⟩
def Zmp:ZaI Tryz.prog:=⟨155,[.s ZbJ, .v ZaC],fun x=>True,fun x=>.c (.bool (ZfQ x.1.1 x.2.1)),fun _=>[],fun x hx=>ZtS x.1 x.2.1,Tryz.call155⟩
def Zr7 (qu:ZaU) (n:ByteArray):Nat→List AV→Mem→Zbn
  | 2,tm,M=>⟨Nat,fun y=>(ZcN (ZcV tm [(4, .any),(5, .c (.int .i64 ((y:Nat):Int)))]) 6 24,M),fun y=>(y≤List.length qu.1∧∀ j,j < y→¬ ((Zaf qu.1 j).1=2∧(Zaf qu.1 j).2.2.2=n)),fun y=>(List.length qu.1 - y)⟩
  | _,_,_=>⟨Unit,fun _=>([],[]),fun _=>False,fun _=>0⟩
def Zyq (qu:ZaU) (n:ByteArray) (y0:Nat):Prop:=(T3 (∃ y0' : Nat,(y0'≤List.length qu.1∧∀ j,j < y0'→¬ ((Zaf qu.1 j).1=2∧(Zaf qu.1 j).2.2.2=n))∧(List.length qu.1 - y0') < (List.length qu.1 - y0)∧((lxs [.ag [.hs .no Zai qu.1, .bool qu.2.1, .bool qu.2.2], .c (.str n), .c (.bp 0 0), .tp []] (True∧vI (w64 ((y0:Int) + 1)) y0'∧TN 24 True))∧pt (lb (.box [.hs .no Zai qu.1, .bool qu.2.1, .bool qu.2.2])∧True))))
theorem Zr8 (qu:ZaU) (n:ByteArray):Zat Tryz.prog 156 [.ag [.hs .no Zai qu.1, .bool qu.2.1, .bool qu.2.2], .c (.str n)] (.c (.bool (ZlR qu.1 n))) []:=by
  refine bc0 [] [] [] [] (Zr7 qu n) Tryz.func156 (fun hwf=>?_)
  refine Eq.mpr (β:=(T3 ((∃ q:Nat,(q≤List.length qu.1∧∀ j,j < q→¬ ((Zaf qu.1 j).1=2∧(Zaf qu.1 j).2.2.2=n))∧((lxs [.ag [.hs .no Zai qu.1, .bool qu.2.1, .bool qu.2.2], .c (.str n), .c (.bp 0 0), .tp []] (True∧vI 0 q∧TN 24 True))∧pt (lb (.box [.hs .no Zai qu.1, .bool qu.2.1, .bool qu.2.2])∧True)))∧∀ y0:Nat,(y0≤List.length qu.1∧∀ j,j < y0→¬ ((Zaf qu.1 j).1=2∧(Zaf qu.1 j).2.2.2=n))→(T5 (bif (ltI y0 (List.length qu.1)) then (T3 ((ix 4 y0 (List.length qu.1))∧(T4 (bif (eqI (Zaf qu.1 y0).1 2) then (T3 ((ix 4 y0 (List.length qu.1))∧(T5 (bif (eqS (Zaf qu.1 y0).2.2.2 n) then (True∧(rB true (ZlR qu.1 n))) else (Zyq qu n y0))))) else (True∧(Zyq qu n y0)))))) else (True∧(rB false (ZlR qu.1 n)))))))) (by kernel_rfl) ?_
  unfold Zyq T3 T4 T5
  have hm:List.length qu.1≤maxLen:=hwf.1.1.1
  simp only [Zd0,eq_self]
  refine ⟨⟨0,⟨Nat.zero_le _,Zbl⟩,rfl⟩,fun k hk=>⟨fun hlt=>?_,fun hge=>?_⟩⟩
  · repeat' (first | apply And.intro | intro _)
    all_goals first
      | trivial
      | omega
      | exact (ZDF (k:=k) (by omega) ⟨by assumption,by assumption⟩).symm
      | exact ⟨k + 1,⟨by omega,ZbS hk.2 (fun h=>by first | omega | exact absurd h.1 (by assumption) | exact absurd h.2 (by assumption))⟩,by omega,ZbN (by omega)⟩
  · obtain rfl:k=List.length qu.1:=by omega
    first | exact (ZAd hk.2).symm | exact ⟨trivial,(ZAd hk.2).symm⟩
def ZkP:ZaI Tryz.prog:=⟨156,[.s ZbJ, .v ZaK],fun x=>True,fun x=>.c (.bool (ZlR x.1.1 x.2.1)),fun _=>[],fun x hx=>Zr8 x.1 x.2.1,Tryz.call156⟩
def Zyr (qu:ZaU):Nat→List AV→Mem→Zbn
  | 2,tm,M=>⟨Nat,fun y=>(ZcN (ZcN (ZcV tm [(9, .c (.int .i64 ((y:Nat):Int)))]) 2 4) 10 47,M),fun y=>(y≤List.length qu.1∧∀ j,j < y→Zs8 qu j=false),fun y=>(List.length qu.1 - y)⟩
  | _,_,_=>⟨Unit,fun _=>([],[]),fun _=>False,fun _=>0⟩
def Zys (qu:ZaU) (y0:Nat):Prop:=(T2 (∃ y0' : Nat,(y0'≤List.length qu.1∧∀ j,j < y0'→Zs8 qu j=false)∧(List.length qu.1 - y0') < (List.length qu.1 - y0)∧((lxs [.ag [.hs .no Zai qu.1, .bool qu.2.1, .bool qu.2.2], .c (.bp 0 0)] (TN 4 (lxs [.c (.bp 0 0),hn Zai qu.1,ci (List.length qu.1)] (vI (w64 ((y0:Int) + 1)) y0'∧TN 47 (tpn 4 True)))))∧pt (lb (.box [.hs .no Zai qu.1, .bool qu.2.1, .bool qu.2.2])∧True))))
def Zyt (qu:ZaU) (y0:Nat):Prop:=(T4 (bif (eqI (Zaf qu.1 y0).1 2) then (T3 ((pt True)∧(T2 (bif ZFq (List.drop (Int.toNat 0) (List.take y0 qu.1)) (Zaf qu.1 y0) then (True∧(rB false (Zcf qu))) else (Zys qu y0))))) else (T2 (Zys qu y0))))
def Zyu (qu:ZaU) (y0:Nat):Prop:=(True∧((pt True)∧(True∧(bif neI (Zaf qu.1 y0).1 1 then (T5 (bif qu.2.2 then (T2 (rB false (Zcf qu))) else (Zyt qu y0))) else (T3 (Zyt qu y0))))))
theorem Zyv (qu:ZaU):Zat Tryz.prog 97 [.ag [.hs .no Zai qu.1, .bool qu.2.1, .bool qu.2.2]] (.c (.bool (Zcf qu))) []:=by
  refine bc0 [Zqw,Zfq,Zg9,ZfR,ZcQ] [] [] [] (Zyr qu) Tryz.func97 (fun hwf=>?_)
  refine Eq.mpr (β:=(T6 ((∃ q:Nat,(q≤List.length qu.1∧∀ j,j < q→Zs8 qu j=false)∧((lxs [.ag [.hs .no Zai qu.1, .bool qu.2.1, .bool qu.2.2], .c (.bp 0 0)] (TN 4 (lxs [.c (.bp 0 0),hn Zai qu.1,ci (List.length qu.1)] (vI 0 q∧TN 47 (tpn 4 True)))))∧pt (lb (.box [.hs .no Zai qu.1, .bool qu.2.1, .bool qu.2.2])∧True)))∧∀ y0:Nat,(y0≤List.length qu.1∧∀ j,j < y0→Zs8 qu j=false)→(True∧(bif (ltI y0 (List.length qu.1)) then (True∧((ix 4 y0 (List.length qu.1))∧(T7 (((4:Nat)=4∧((0:Int)≤0∧(0:Int)≤(y0:Int)∧((y0:Int):Int)≤(List.length qu.1:Int)))∧(T3 ((pt (true=true))∧(True∧((pt True)∧(T2 (bif (!(Zcr (Zaf qu.1 y0))) then (T6 (rB false (Zcf qu))) else (True∧((pt True)∧(True∧(bif eqI (Zaf qu.1 y0).1 1 then (T3 (bif qu.2.1 then (T8 (rB false (Zcf qu))) else (T3 ((pt True)∧(T5 (bif (leI (Zaf qu.1 y0).2.1 (ZeO ((List.drop (Int.toNat 0) (List.take y0 qu.1)),(false,false)).1 (List.length ((List.drop (Int.toNat 0) (List.take y0 qu.1)),(false,false)).1))) then (T4 (rB false (Zcf qu))) else (Zyu qu y0))))))) else (T3 (Zyu qu y0)))))))))))))))) else (T5 (rB (leI (List.length qu.1) 6) (Zcf qu)))))))) (by kernel_rfl) ?_
  unfold Zyu Zyt Zys T2 T3 T4 T5 T6 T7 T8
  have hm:List.length qu.1≤maxLen:=hwf.1.1.1
  simp only [Zd0,eq_self]
  simp only [show Int.toNat 0=0 from rfl,List.drop_zero]
  refine ⟨⟨0,⟨Nat.zero_le _,Zbl⟩,rfl⟩,fun k hk=>⟨fun hlt=>?_,fun hge=>?_⟩⟩
  · repeat' (first | apply And.intro | intro _)
    all_goals as_aux_lemma=>first
      | trivial
      | omega
      | exact (Zqz (i:=k) (by omega) (by rw [← ZDG (by omega) hk.2]; simp_all [ZJm,ZbA,Zb2,ZdK,Zdp,Zc3,ZeR])).symm
      | exact ⟨k + 1,⟨by omega,ZbS hk.2 (by rw [← ZDG (by omega) hk.2]; simp_all [ZJm,ZbA,Zb2,ZdK,Zdp,Zc3,ZeR])⟩,by omega,ZbN (by omega)⟩
  · exact ZwD
def Zyw:ZaI Tryz.prog:=⟨97,[.s ZbJ],fun x=>True,fun x=>.c (.bool (Zcf x.1)),fun _=>[],fun x hx=>Zyv x.1,Tryz.call97⟩
def Zyx (qu:ZaU):Nat→List AV→Mem→Zbn
  | 2,tm,M=>⟨Nat,fun y=>(ZcN (ZcV tm [(2, .any),(3, .c (.int .i64 ((y:Nat):Int)))]) 4 59,M),fun y=>(y≤List.length qu.1∧∀ j,j < y→Zs8 qu j=false),fun y=>(List.length qu.1 - y)⟩
  | _,_,_=>⟨Unit,fun _=>([],[]),fun _=>False,fun _=>0⟩
def Zyy (qu:ZaU) (y0:Nat):Prop:=(T3 (∃ y0' : Nat,(y0'≤List.length qu.1∧∀ j,j < y0'→Zs8 qu j=false)∧(List.length qu.1 - y0') < (List.length qu.1 - y0)∧((lxs [.ag [.hs .no Zai qu.1, .bool qu.2.1, .bool qu.2.2], .c (.bp 0 0)] (True∧vI (w64 ((y0:Int) + 1)) y0'∧TN 59 (tpn 4 True)))∧pt (lb (.box [.hs .no Zai qu.1, .bool qu.2.1, .bool qu.2.2])∧True))))
def Zyz (qu:ZaU) (y0:Nat):Prop:=(T4 (bif (eqI (Zaf qu.1 y0).1 2) then (T3 ((pt True)∧(T2 (bif ZlR ((List.drop (Int.toNat 0) (List.take y0 qu.1)),(false,false)).1 (Zaf qu.1 y0).2.2.2 then (True∧(rB false (Zcf qu))) else (Zyy qu y0))))) else (T2 (Zyy qu y0))))
def ZyA (qu:ZaU) (y0:Nat):Prop:=(T3 (bif (!(eqI (Zaf qu.1 y0).1 1)) then (T5 (bif qu.2.2 then (T2 (rB false (Zcf qu))) else (Zyz qu y0))) else (T3 (Zyz qu y0))))
theorem ZyB (qu:ZaU):Zat Tryz.prog 77 [.ag [.hs .no Zai qu.1, .bool qu.2.1, .bool qu.2.2]] (.c (.bool (Zcf qu))) []:=by
  refine bc0 [Zqx,Zmp,ZkP] [] [] [] (Zyx qu) Tryz.func77 (fun hwf=>?_)
  refine Eq.mpr (β:=(T3 ((∃ q:Nat,(q≤List.length qu.1∧∀ j,j < q→Zs8 qu j=false)∧((lxs [.ag [.hs .no Zai qu.1, .bool qu.2.1, .bool qu.2.2], .c (.bp 0 0)] (True∧vI 0 q∧TN 59 (tpn 4 True)))∧pt (lb (.box [.hs .no Zai qu.1, .bool qu.2.1, .bool qu.2.2])∧True)))∧∀ y0:Nat,(y0≤List.length qu.1∧∀ j,j < y0→Zs8 qu j=false)→(T5 (bif (ltI y0 (List.length qu.1)) then (T3 ((ix 4 y0 (List.length qu.1))∧(T6 (((4:Nat)=4∧((0:Int)≤0∧(0:Int)≤(y0:Int)∧((y0:Int):Int)≤(List.length qu.1:Int)))∧(T8 ((pt True)∧(T2 (bif (!(Zcr (Zaf qu.1 y0))) then (T6 (rB false (Zcf qu))) else (T2 (bif (eqI (Zaf qu.1 y0).1 1) then (T3 (bif qu.2.1 then (T8 (rB false (Zcf qu))) else (T3 ((pt True)∧(T5 (bif (!(ZfQ ((List.drop (Int.toNat 0) (List.take y0 qu.1)),(false,false)).1 (Zaf qu.1 y0).2.1)) then (T4 (rB false (Zcf qu))) else (ZyA qu y0))))))) else (T3 (ZyA qu y0)))))))))))) else (T5 (rB (leI (List.length qu.1) 6) (Zcf qu)))))))) (by kernel_rfl) ?_
  unfold ZyA Zyz Zyy T2 T3 T4 T5 T6 T8
  have hm:List.length qu.1≤maxLen:=hwf.1.1.1
  simp only [Zd0,eq_self]
  simp only [show Int.toNat 0=0 from rfl,List.drop_zero]
  refine ⟨⟨0,⟨Nat.zero_le _,Zbl⟩,rfl⟩,fun k hk=>⟨fun hlt=>?_,fun hge=>?_⟩⟩
  · repeat' (first | apply And.intro | intro _)
    all_goals as_aux_lemma=>first
      | trivial
      | omega
      | exact (Zqz (i:=k) (by omega) (by simp_all [Zs8,ZbA,Zb2,ZdK,Zdp])).symm
      | exact ⟨k + 1,⟨by omega,ZbS hk.2 (by simp_all [Zs8,ZbA,Zb2,ZdK,Zdp])⟩,by omega,ZbN (by omega)⟩
  · exact ZwD
def ZyC:ZaI Tryz.prog:=⟨77,[.s ZbJ],fun x=>True,fun x=>.c (.bool (Zcf x.1)),fun _=>[],fun x hx=>ZyB x.1,Tryz.call77⟩
end Go.Proofs.YtkompmgleojmlaaGreat
