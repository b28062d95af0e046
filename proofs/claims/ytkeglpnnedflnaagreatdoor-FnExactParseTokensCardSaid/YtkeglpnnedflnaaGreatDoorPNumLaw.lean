import Derived.Test.YtkeglpnnedflnaaGreatDoorPBmTy
import Derived.Lib.ItoaNum
import Derived.Lib.AtoiAll
import Derived.Lib.LastIndexByte
import Derived.Lib.Index
import Derived.Lib.IndexMore
import Derived.Lib.Strings
set_option linter.unusedSimpArgs false
set_option linter.unusedVariables false
namespace Go.Proofs.YtkeglpnnedflnaaGreatDoor
def Zjy:Nat→List UInt8→Nat
 | acc,[]=>acc
 | acc,b :: r=>Zjy (acc * 10 + (b.toNat - 48)) r
theorem ZoN:∀ (l:List UInt8) (acc:Nat) (b:UInt8),Zjy acc (l ++ [b])=Zjy acc l * 10 + (b.toNat - 48)
 | [],_,_=>rfl
 | x :: l,acc,b=>ZoN l _ b
def isD (b:UInt8):Prop:=48≤b.toNat∧b.toNat≤57
theorem ZyW:∀ (l:List UInt8) (acc k:Nat),acc < 10 ^ k→(∀ b ∈ l,isD b)→Zjy acc l < 10 ^ (k + l.length)
 | [],acc,k,h,_=>h
 | b :: l,acc,k,h,hd=>by
  have h1:=hd b (by simp)
  have h2:=ZyW l (acc * 10 + (b.toNat - 48)) (k + 1) (by have:=h1.2; rw [Nat.pow_succ]; omega) (fun c hc=>hd c (by simp [hc]))
  unfold Zjy
  rw [List.length_cons,show k + (l.length + 1)=k + 1 + l.length from by omega]
  exact h2
theorem Zc7 {u:Nat} (h:u < 10):(UInt8.ofNat (48 + u)).toNat=48 + u:=by
 rw [UInt8.toNat_ofNat']
 omega
theorem ZyX (u:Nat):∀ b ∈ Lib.decDigits u,isD b:=by
 induction u using Nat.strongRecOn with
 | _ u ih =>
  rw [Lib.decDigits]
  split
  ·rename_i h
   intro b hb
   obtain rfl:=List.mem_singleton.1 hb
   unfold isD
   rw [Zc7 h]
   omega
  ·rename_i h
   intro b hb
   rcases List.mem_append.1 hb with hb | hb
   ·exact ih (u / 10) (by omega) b hb
   ·obtain rfl:=List.mem_singleton.1 hb
    unfold isD
    rw [Zc7 (by omega)]
    omega
theorem ZJz (u:Nat):Zjy 0 (Lib.decDigits u)=u:=by
 induction u using Nat.strongRecOn with
 | _ u ih =>
  rw [Lib.decDigits]
  split
  ·rename_i h
   show 0 * 10 + ((UInt8.ofNat (48 + u)).toNat - 48)=u
   rw [Zc7 h]
   omega
  ·rename_i h
   rw [ZoN,ih (u / 10) (by omega),Zc7 (by omega)]
   omega
theorem ZHU (u:Nat):Lib.decDigits u ≠ []:=by
 rw [Lib.decDigits]
 split
 ·simp
 ·simp
theorem ZsL {u k:Nat} (h:u < 10 ^ k) (hk:0 < k):(Lib.decDigits u).length≤k:=by
 induction k generalizing u with
 | zero=>omega
 | succ k ih =>
  rw [Lib.decDigits]
  split
  ·simp
  ·rename_i h1
   rw [List.length_append]
   rcases Nat.eq_zero_or_pos k with rfl | h2
   ·simp at h; omega
   ·have:=ih (u:=u / 10) (by rw [Nat.pow_succ] at h; omega) h2
    simp
    omega
theorem ZlO:∀ (l:List UInt8) (acc v:Nat) (b:UInt8),Lib.parseUint10 acc l=.ok v→isD b→v * 10 + (b.toNat - 48) < 18446744073709551616→Lib.parseUint10 acc (l ++ [b])=.ok (v * 10 + (b.toNat - 48))
 | [],acc,v,b,h,hb,hv=>by
  simp only [Lib.parseUint10] at h
  injection h with h
  subst h
  show Lib.parseUint10 acc [b]=_
  unfold Lib.parseUint10
  rw [if_pos (show 48≤b.toNat∧b.toNat≤57 from hb),if_neg (by omega),if_neg (by omega)]
  rfl
 | x :: l,acc,v,b,h,hb,hv=>by
  show Lib.parseUint10 acc (x :: (l ++ [b]))=_
  unfold Lib.parseUint10 at h ⊢
  split at h
  ·rename_i h1
   rw [if_pos h1]
   split at h
   ·cases h
   ·rename_i h2
    rw [if_neg h2]
    split at h
    ·cases h
    ·rename_i h3
     rw [if_neg h3]
     exact ZlO l _ v b h hb hv
  ·cases h
theorem ZEA {u:Nat} (h:u < 18446744073709551616):Lib.parseUint10 0 (Lib.decDigits u)=.ok u:=by
 induction u using Nat.strongRecOn with
 | _ u ih =>
  rw [Lib.decDigits]
  split
  ·rename_i h1
   have h2:=ZlO [] 0 0 (UInt8.ofNat (48 + u)) rfl (by unfold isD; rw [Zc7 h1]; omega) (by rw [Zc7 h1]; omega)
   rw [List.nil_append] at h2
   rw [h2,Zc7 h1]
   congr 1
   omega
  ·rename_i h1
   have h2:=ZlO _ 0 _ (UInt8.ofNat (48 + u % 10)) (ih (u / 10) (by omega) (by omega)) (by unfold isD; rw [Zc7 (by omega)]; omega) (by rw [Zc7 (by omega)]; omega)
   rw [h2,Zc7 (by omega)]
   congr 1
   omega
theorem ZGE {u:Nat} (h:u < 9223372036854775808):Lib.atoiAll (Lib.decDigits u)=.ok (u:Int):=by
 have hp:=ZEA (u:=u) (by omega)
 have hd:=ZyX u
 have hn:=ZHU u
 cases hl:Lib.decDigits u with
 | nil=>exact absurd hl hn
 | cons c r =>
  rw [hl] at hp hd
  have hc:=hd c (by simp)
  unfold isD at hc
  unfold Lib.atoiAll
  have e1:¬ c.toNat=45:=by omega
  have e2:¬ (c.toNat=43∨c.toNat=45):=by omega
  have e3:Lib.parseMag (c :: r)=.ok u:=by
   unfold Lib.parseMag
   rw [if_neg (by simp),hp]
  simp only [if_neg e2,e3]
  rw [if_neg (by omega),if_neg (by omega),if_neg e1]
def Zi1 (t:ByteArray):Bool:=decide (Lib.decDigits (Zjy 0 t.data.toList)=t.data.toList∧Zjy 0 t.data.toList≤999999999)
def Ze3 (t:ByteArray):Int:=if Zi1 t=true then ((Zjy 0 t.data.toList:Nat):Int) else 0
theorem ZkI (n:Nat):Lib.itoa (n:Int)=Lib.decDigits n:=by
 unfold Lib.itoa
 rw [if_neg (by omega),Int.toNat_natCast]
theorem ZHV {t:ByteArray} {n:Int} (h0:0≤n) (h1:n≤999999999) (h:Lib.itoa n=t.data.toList):Zi1 t=true∧Ze3 t=n:=by
 obtain ⟨k,rfl⟩:∃ k:Nat,n=(k:Int):=⟨n.toNat,by omega⟩
 rw [ZkI] at h
 have hv:Zjy 0 t.data.toList=k:=by rw [← h,ZJz]
 have hb:Zi1 t=true:=decide_eq_true ⟨by rw [hv,h],by omega⟩
 refine ⟨hb,?_⟩
 unfold Ze3
 rw [if_pos hb,hv]
theorem ZsM {t:ByteArray} (h:Zi1 t=true):0≤Ze3 t∧Ze3 t≤999999999∧Lib.itoa (Ze3 t)=t.data.toList∧Lib.atoiAll t.data.toList=.ok (Ze3 t):=by
 have h1:=of_decide_eq_true h
 unfold Ze3
 rw [if_pos h]
 refine ⟨by omega,by omega,by rw [ZkI]; exact h1.1,?_⟩
 conv=>lhs; rw [← h1.1]
 exact ZGE (by omega)
theorem ZGF {t:ByteArray} (h1:1≤t.size) (h2:t.size≤9) (hd:∀ b ∈ t.data.toList,isD b) (h:Lib.decDigits (Zjy 0 t.data.toList)=t.data.toList):Zi1 t=true∧Ze3 t=((Zjy 0 t.data.toList:Nat):Int):=by
 have hl:t.data.toList.length=t.size:=Array.length_toList
 have h3:=ZyW t.data.toList 0 0 (by decide) hd
 have h4:Zjy 0 t.data.toList < 10 ^ 9:=Nat.lt_of_lt_of_le h3 (Nat.pow_le_pow_right (by decide) (by omega))
 have e:(10:Nat) ^ 9=1000000000:=by decide
 have hb:Zi1 t=true:=decide_eq_true ⟨h,by omega⟩
 exact ⟨hb,by unfold Ze3; rw [if_pos hb]⟩
theorem ZuP {t:ByteArray} (h:Zi1 t=true):1≤t.size∧t.size≤9∧(∀ b ∈ t.data.toList,isD b)∧Lib.decDigits (Zjy 0 t.data.toList)=t.data.toList:=by
 obtain ⟨h1,h2⟩:=of_decide_eq_true h
 have hl:t.data.toList.length=t.size:=Array.length_toList
 have e:(10:Nat) ^ 9=1000000000:=by decide
 refine ⟨?_,?_,?_,h1⟩
 ·rw [← hl,← h1]
  exact List.length_pos_iff.2 (ZHU _)
 ·rw [← hl,← h1]
  exact ZsL (by omega) (by decide)
 ·rw [← h1]
  exact ZyX _
theorem Zcm (s:ByteArray):s.data.toList.length=s.size:=Array.length_toList
theorem ZBZ {s:ByteArray} {n:Nat} (h:n < s.size):s.data.toList[n]?=some (UInt8.ofNat (Zap s n).toNat):=by
 unfold Zap
 rw [List.getD_eq_getElem?_getD,List.getElem?_eq_getElem (by rw [Zcm]; exact h)]
 simp
theorem Zrc {s:ByteArray} {n:Nat} {c:UInt8} (h:n < s.size):Zap s n=(c.toNat:Nat)↔s.data.toList[n]?=some c:=by
 unfold Zap
 rw [List.getD_eq_getElem?_getD,List.getElem?_eq_getElem (by rw [Zcm]; exact h)]
 simp only [Option.getD_some,Option.some.injEq]
 constructor
 ·intro h1
  exact UInt8.toNat_inj.1 (by omega)
 ·intro h1
  rw [h1]
def two (s:ByteArray) (i:Nat):Prop:=i + 1 < s.size∧Zap s i=13∧Zap s (i + 1)=10
instance (s:ByteArray) (i:Nat):Decidable (two s i):=by unfold two; infer_instance
theorem w8 {x:Int} (h0:0≤x) (h1:x≤255):IntKind.wrap .u8 x=x:=by
 have hk:IntKind.u8.min=0∧IntKind.u8.max=255:=by decide
 unfold IntKind.wrap
 simp [IntKind.bits,IntKind.signed]
 omega
theorem ZB0 {x:Int} (h0 : -9223372036854775808≤x) (h1:x≤9223372036854775807):IntKind.wrap .i64 x=x:=IntWalk.i64_in _ (by omega)
theorem ZEB (l:List Int) (o:ByteArray):(ZbV l ++ o).data.toList=(ZbV l).data.toList ++ o.data.toList:=by
 rw [ByteArray.data_append,Array.toList_append]
def ZB9 (k:Nat) (o:ByteArray) (n:Int):Prop:=(¬ n=0∧k≤n.toNat)∧Lib.decDigits n.toNat=(if k=0 then [] else Lib.decDigits k) ++ o.data.toList
theorem ZEC {n:Int} (h0:0≤n) (h:¬ n=0):ZB9 n.toNat (⟨#[]⟩:ByteArray) n:=⟨⟨h,Nat.le_refl _⟩,by rw [if_neg (by omega)]; simp⟩
theorem ZED {k:Nat} (hk:¬ k=0):Lib.decDigits k=(if k / 10=0 then [] else Lib.decDigits (k / 10)) ++ [UInt8.ofNat (48 + k % 10)]:=by
 rw [Lib.decDigits]
 split
 ·rename_i h
  rw [if_pos (by omega),show k % 10=k from by omega]
  rfl
 ·rw [if_neg (by omega)]
theorem ZEE {k:Nat} {o:ByteArray} {n:Int} (hk:¬ k=0) (h:ZB9 k o n):ZB9 (k / 10) (ZbV [((48 + k % 10:Nat):Int)] ++ o) n:=by
 refine ⟨⟨h.1.1,by have:=h.1.2; omega⟩,?_⟩
 rw [h.2,if_neg hk,ZED hk,ZEB,List.append_assoc]
 rfl
theorem ZGG {y:Nat × ByteArray} {n:Int} (hb:n≤9223372036854775807) (h0:0≤n) (hk:¬ y.1=0) (h:ZB9 y.1 y.2 n) :
 ∃ y' : Nat × ByteArray,ZB9 y'.1 y'.2 n∧y'.1 < y.1∧IntKind.wrap .i64 ((y.1 / 10:Nat):Int)=((y'.1:Nat):Int)∧ZbV [((48 + y.1 % 10:Nat):Int)] ++ y.2=y'.2 :=
 ⟨(y.1 / 10,ZbV [((48 + y.1 % 10:Nat):Int)] ++ y.2),ZEE hk h,by show y.1 / 10 < y.1; omega,ZB0 (by omega) (by have:=h.1.2; omega),rfl⟩
def Zmt (n:Int):Prop:=0≤n
theorem ZGH {o:ByteArray} {n:Int} (h0:0≤n) (h:ZB9 0 o n):o=(⟨(Lib.itoa n).toArray⟩:ByteArray):=by
 have h1:=h.2
 rw [if_pos rfl,List.nil_append] at h1
 apply ByteArray.ext
 unfold Lib.itoa
 rw [if_neg (by omega),h1]
theorem ZEF {k:Nat} {o:ByteArray} {n:Int} (hb:n≤9223372036854775807) (h0:0≤n) (h:ZB9 k o n):o.size≤20:=by
 have e:(10:Nat) ^ 19=10000000000000000000:=by decide
 have h1:=ZsL (u:=n.toNat) (k:=19) (by omega) (by decide)
 have h2:=congrArg List.length h.2
 rw [List.length_append,Zcm] at h2
 omega
theorem ZGI {n:Int} (h:n=0):(⟨#[48]⟩:ByteArray)=⟨(Lib.itoa n).toArray⟩:=by
 subst h
 apply ByteArray.ext
 show _=(Lib.itoa 0).toArray
 unfold Lib.itoa
 rw [if_neg (by decide),Int.toNat_zero,Lib.decDigits_one (by decide)]
 rfl
theorem ZsN {s:ByteArray} {j:Nat} (hj:j < s.size) {b:UInt8} (h:s.data.toList[j]?=some b):isD b↔48≤Zap s j∧Zap s j≤57:=by
 rw [(Zrc hj).2 h]
 unfold isD
 omega
theorem ZJA {s:ByteArray} (h:s.size < 1∨9 < s.size∨∃ j,j < s.size∧¬ (48≤Zap s j∧Zap s j≤57)):Zi1 s=false:=by
 cases hb:Zi1 s with
 | false=>rfl
 | true =>
  obtain ⟨h1,h2,h3,_⟩:=ZuP hb
  rcases h with h | h | ⟨j,hj,hn⟩
  ·omega
  ·omega
  ·have hg:s.data.toList[j]?=some (s.data.toList[j]'(by rw [Zcm]; exact hj)):=List.getElem?_eq_getElem _
   exact absurd ((ZsN hj hg).1 (h3 _ (List.getElem_mem _))) hn
theorem ZAg {s:ByteArray} {k:Nat} (hk:k≤s.size) (h:∀ j,j < k→48≤Zap s j∧Zap s j≤57):∀ b ∈ List.take k s.data.toList,isD b:=by
 intro b hb
 obtain ⟨j,hj,rfl⟩:=List.mem_iff_getElem.1 hb
 have hj' : j < k:=by rw [List.length_take] at hj; omega
 refine (ZsN (s:=s) (j:=j) (by omega) ?_).2 (h j hj')
 rw [List.getElem_take,List.getElem?_eq_getElem]
theorem ZL3 {s:ByteArray} {k:Nat} (h9:s.size≤9) (hk:k≤s.size) (h:∀ j,j < k→48≤Zap s j∧Zap s j≤57):Zjy 0 (List.take k s.data.toList) < 1000000000:=by
 have h1:=ZyW (List.take k s.data.toList) 0 0 (by decide) (ZAg hk h)
 have e:(10:Nat) ^ 9=1000000000:=by decide
 rw [← e]
 refine Nat.lt_of_lt_of_le h1 (Nat.pow_le_pow_right (by decide) ?_)
 rw [List.length_take,Zcm]
 omega
theorem ZGJ {s:ByteArray} {k:Nat} (hk:k < s.size):((Zjy 0 (List.take (k + 1) s.data.toList):Nat):Int)=((Zjy 0 (List.take k s.data.toList):Nat):Int) * 10 + ((Zap s k).toNat - 48:Nat):=by
 have hg:s.data.toList[k]?=some (s.data.toList[k]'(by rw [Zcm]; exact hk)):=List.getElem?_eq_getElem _
 have hb:=(Zrc hk).2 hg
 rw [List.take_add_one,hg,Option.toList_some,ZoN,hb,Int.toNat_natCast]
 omega
theorem ZGK {s:ByteArray} {y:Nat} (h9:s.size≤9) (hy:y≤s.size∧∀ j,j < y→48≤Zap s j∧Zap s j≤57) (hlt:y < s.size) (h1:48≤Zap s y) (h2:Zap s y≤57) :
 ∃ y' : Nat,(y'≤s.size∧∀ j,j < y'→48≤Zap s j∧Zap s j≤57)∧s.size - y' < s.size - y ∧
   IntKind.wrap .i64 (IntKind.wrap .i64 (10 * ((Zjy 0 (List.take y s.data.toList):Nat):Int)) + IntKind.wrap .i64 (IntKind.wrap .u8 (Zap s y - 48)))=((Zjy 0 (List.take y' s.data.toList):Nat):Int)∧IntKind.wrap .i64 ((y:Int) + 1)=((y' : Nat):Int):=by
 have hv:=ZL3 h9 hy.1 hy.2
 refine ⟨y + 1,⟨hlt,Zcf hy.2 ⟨h1,h2⟩⟩,by omega,?_,?_⟩
 ·rw [ZGJ hlt,w8 (by omega) (by omega),ZB0 (x:=10 * ((Zjy 0 (List.take y s.data.toList):Nat):Int)) (by omega) (by omega),ZB0 (x:=Zap s y - 48) (by omega) (by omega),ZB0 (by omega) (by omega)]
  omega
 ·rw [ZB0 (by omega) (by omega)]
  rfl
theorem ZAh {s:ByteArray} {y:Nat} (h:y=s.size):List.take y s.data.toList=s.data.toList:=List.take_of_length_le (by rw [Zcm]; omega)
theorem ZEG {s:ByteArray} {y:Nat} (h1:1≤s.size) (h9:s.size≤9) (hy:y≤s.size∧∀ j,j < y→48≤Zap s j∧Zap s j≤57) (he:y=s.size)
 (hd:(⟨(Lib.itoa ((Zjy 0 (List.take y s.data.toList):Nat):Int)).toArray⟩:ByteArray)=s):((Zjy 0 (List.take y s.data.toList):Nat):Int)=Ze3 s∧true=Zi1 s:=by
 have hm:=ZAg hy.1 hy.2
 rw [ZAh he] at hm hd ⊢
 have h2:=ZGF h1 h9 hm (by have:=congrArg (fun z:ByteArray=>z.data.toList) hd; rw [← ZkI]; simpa using this)
 exact ⟨h2.2.symm,h2.1.symm⟩
theorem num_not {s:ByteArray} {y:Nat} (he:y=s.size) (hd:¬ (⟨(Lib.itoa ((Zjy 0 (List.take y s.data.toList):Nat):Int)).toArray⟩:ByteArray)=s):Zi1 s=false:=by
 rw [ZAh he] at hd
 cases hb:Zi1 s with
 | false=>rfl
 | true =>
  refine absurd ?_ hd
  apply ByteArray.ext
  show (Lib.itoa _).toArray=_
  rw [ZkI,(ZuP hb).2.2.2]
theorem num_no {s:ByteArray} (h:Zi1 s=false):Ze3 s=0:=by unfold Ze3; rw [h]; rfl
theorem ZOG {x:Int} (h1 : -9223372036854775808≤x) (h2:x≤9223372036854775807):(Lit.int .i64 x).wf=true:=by
 rw [Zl0]
 exact ZvG
theorem ZL4 {x:Int} (h:(Lit.int .i64 x).wf=true) : -9223372036854775808≤x∧x≤9223372036854775807:=by
 rw [Zl0] at h
 exact ZvG
theorem ZAi {n:Int} (h : -9223372036854775808≤n∧n≤9223372036854775807):(Lib.itoa n).length≤20:=by
 have e:(10:Nat) ^ 19=10000000000000000000:=by decide
 unfold Lib.itoa
 split
 ·have:=ZsL (u:=n.natAbs) (k:=19) (by omega) (by decide)
  rw [List.length_cons]
  omega
 ·have:=ZsL (u:=n.toNat) (k:=19) (by omega) (by decide)
  omega
theorem ZEH (n:Int) (h : -9223372036854775808≤n∧n≤9223372036854775807):(⟨(Lib.itoa n).toArray⟩:ByteArray).size≤maxLen:=by
 have h1:=ZAi h
 show (Lib.itoa n).toArray.size≤_
 rw [List.size_toArray]
 unfold maxLen
 omega
end Go.Proofs.YtkeglpnnedflnaaGreatDoor
