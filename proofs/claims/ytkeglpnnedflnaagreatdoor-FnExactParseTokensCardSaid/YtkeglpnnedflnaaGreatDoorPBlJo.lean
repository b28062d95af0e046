import Derived.Test.YtkeglpnnedflnaaGreatDoorPBlLit0
import Derived.Test.YtkeglpnnedflnaaGreatDoorPBlCmd2
import Derived.Shelf.Strings.OnBuilder
import Derived.Shelf.Strings.BuilderK
set_option linter.unusedSimpArgs false
set_option linter.unusedVariables false
set_option maxRecDepth 100000
set_option maxHeartbeats 4000000
namespace Go.Proofs.YtkeglpnnedflnaaGreatDoor
open Go.ChangeShapes Go.WideShapes Go.ChangeAt Go.RowKit Go.Joins Go.Deep
open GoRep (rep bulk)
set_option maxRecDepth 100000
open Go.Deep
open GoRep (rep)
def ZlP:Go.Shelf.Ren:=⟨fun | 156=>177 | 165=>205 | 166=>139 | 169=>140 | 240=>186 | 241=>217 | 276=>209 | 277=>224 | n=>n,
 fun | 31=>63 | 9=>9 | 3=>3 | 4=>4 | 0=>0 | 20=>20 | 72=>131 | 76=>136 | 70=>129 | 37=>22 | 75=>135 | 127=>160 | 164=>170 | 5=>5 | 80=>138 | n=>n,
 fun  | n=>n⟩
open Go.Shelf in
theorem ZlQ:Lays.n156 Tryz.prog ZlP where
 mixed:=by kernel_rfl
 f156:=Tryz.func177.trans (congrArg some (by kernel_rfl))
 f165:=Tryz.func205.trans (congrArg some (by kernel_rfl))
 f166:=Tryz.func139.trans (congrArg some (by kernel_rfl))
 f169:=Tryz.func140.trans (congrArg some (by kernel_rfl))
 f240:=Tryz.func186.trans (congrArg some (by kernel_rfl))
 f241:=Tryz.func217.trans (congrArg some (by kernel_rfl))
 f276:=Tryz.func209.trans (congrArg some (by kernel_rfl))
 f277:=Tryz.func224.trans (congrArg some (by kernel_rfl))
 t0:=Tryz.underlying0
 a0:=Tryz.isAgg0
 z0:=Tryz.sizeOf0
 v0:=Tryz.zeroValue0
 t3:=Tryz.underlying3
 a3:=Tryz.isAgg3
 z3:=Tryz.sizeOf3
 v3:=Tryz.zeroValue3
 t4:=Tryz.underlying4
 a4:=Tryz.isAgg4
 z4:=Tryz.sizeOf4
 v4:=Tryz.zeroValue4
 t9:=Tryz.underlying9
 a9:=Tryz.isAgg9
 z9:=Tryz.sizeOf9
 v9:=Tryz.zeroValue9
 t20:=Tryz.underlying20
 a20:=Tryz.isAgg20
 z20:=Tryz.sizeOf20
 v20:=Tryz.zeroValue20
 t31:=Tryz.underlying63
 a31:=Tryz.isAgg63
 z31:=Tryz.sizeOf63
 v31:=Tryz.zeroValue63
 t37:=Tryz.underlying22
 a37:=Tryz.isAgg22
 z37:=Tryz.sizeOf22
 v37:=Tryz.zeroValue22
 t70:=Tryz.underlying129
 a70:=Tryz.isAgg129
 z70:=Tryz.sizeOf129
 v70:=Tryz.zeroValue129
 t72:=Tryz.underlying131
 a72:=Tryz.isAgg131
 z72:=Tryz.sizeOf131
 v72:=Tryz.zeroValue131
 t75:=Tryz.underlying135
 a75:=Tryz.isAgg135
 z75:=Tryz.sizeOf135
 v75:=Tryz.zeroValue135
 t76:=Tryz.underlying136
 a76:=Tryz.isAgg136
 z76:=Tryz.sizeOf136
 v76:=Tryz.zeroValue136
 t127:=Tryz.underlying160
 a127:=Tryz.isAgg160
 z127:=Tryz.sizeOf160
 v127:=Tryz.zeroValue160
 t164:=Tryz.underlying170
 a164:=Tryz.isAgg170
 z164:=Tryz.sizeOf170
 v164:=Tryz.zeroValue170
theorem Zs0:Builder.Extra Tryz.prog ZlP where
 sizeBuilder:=by kernel_rfl
 liesBuilder:=by kernel_rfl
 t5:=Tryz.underlying5
 a5:=Tryz.isAgg5
 z5:=Tryz.sizeOf5
 v5:=Tryz.zeroValue5
 infoByte:=by kernel_rfl
 cellsByte:=by kernel_rfl
 sizeByte:=by kernel_rfl
 neB5:=by decide
theorem ZG4 (s:ByteArray):(ZdQ s).map (fun n=>UInt8.ofNat n.toNat)=s.data.toList:=by
 unfold ZdQ
 rw [List.map_map]
 conv=>rhs; rw [← List.map_id s.data.toList]
 apply List.map_congr_left
 intro x _
 simp
theorem ZCr (ys:List (List UInt8)) (y sep:List UInt8):Lib.join (ys ++ [y]) sep=(if 0 < ys.length then Lib.join ys sep ++ sep else []) ++ y:=by
 cases ys with
 | nil=>exact Lib.join_one y sep
 | cons x r =>
  have hl:0 < (x :: r).length:=Nat.succ_pos _
  rw [List.cons_append,Lib.join_cons,Lib.join_cons,if_pos hl]
  simp [Lib.joinTail]
theorem Zy8 (l:List ByteArray) (b:ByteArray):∀ k,k≤l.length→(joN l b k).map (fun n=>UInt8.ofNat n.toNat)=Lib.join ((l.take k).map (·.data.toList)) b.data.toList
 | 0,_=>rfl
 | k + 1,h=>by
  have ih:=Zy8 l b k (by omega)
  have e:l.take (k + 1)=l.take k ++ [Zaa l k]:=by rw [List.take_add_one,ZfA (by omega)]; rfl
  have hl:((l.take k).map (·.data.toList)).length=k:=by rw [List.length_map,List.length_take]; omega
  rw [e,List.map_append,List.map_cons,List.map_nil,ZCr,hl]
  unfold joN
  rw [List.map_append,ZG4]
  by_cases hk:0 < k
  ·rw [if_pos hk,if_pos hk,List.map_append,ZG4,ih]
  ·rw [if_neg hk,if_neg hk]
   obtain rfl:k=0:=by omega
   rfl
theorem Zy9 (l:List ByteArray) (b:ByteArray):joS l b=⟨(Lib.join (l.map (·.data.toList)) b.data.toList).toArray⟩:=by
 unfold joS ZbV
 rw [Zy8 l b _ (Nat.le_refl _),List.take_length]
theorem Zpn (l:List ByteArray) (b:ByteArray) (hpre:Zjz l b):Zaq Tryz.prog 177 [.c (.hs .no Zah l), .c (.str b)] (.c (.str (joS l b))) []:=by
 intro X W vs hX hgl hr
 obtain ⟨v,r,rfl,hv,u,r2,rfl,⟨rfl,hu⟩,hn⟩:=hr
 obtain rfl:r2=[]:=hn
 obtain ⟨h1,F,⟨A,c,e,hc,hm,hs⟩,hF⟩:=hv
 obtain rfl:v=_:=(List.cons.inj e).1
 have hz:=Zy4 hpre
 have hp:=hpre.1
 have hj:(Lib.join (l.map (·.data.toList)) b.data.toList).length=(joS l b).size:=by rw [Zy9]; rfl
 have hw:(joS l b).size≤maxLen:=by unfold maxLen; omega
 rcases hs with ⟨rfl,rfl⟩ | ⟨hx,bk,off,G,rfl,rfl,hR⟩
 ·refine (Any.strings_Join_none ZlQ Zs0 A c b W).mono fun e W' he=>?_
  obtain ⟨rfl,rfl⟩:=he
  exact ⟨_,[],rfl,Zbb.refl W' [],ZE8 hX,rfl,hw⟩
 ·refine (Any.strings_Join ZlQ Zs0 bk off c l b W (fun j x hj=>?_) (hF bk (by simp)).2 (by omega) hc (by rw [hj]; omega)).mono fun e W' he=>?_
  ·obtain ⟨cs,Gk,r1,_,r3⟩:=hR.get j x hj
   obtain ⟨rfl,_,_⟩:=r1
   have q:W.cell? ⟨bk,off + j * 1 + 0,none⟩=some (.string x):=(r3 0 _ rfl).1
   rwa [Nat.mul_one,Nat.add_zero] at q
  ·obtain ⟨rfl,hb⟩:=he
   rw [← Zy9]
   exact ⟨_,[],rfl,Zbb.of_below hb,ZE8 (fun b hb'=>Nat.lt_of_lt_of_le (hX b hb') hb.size),rfl,hw⟩
def Zpo:ZaD Tryz.prog:=⟨177,[.v (.list Zah), .v Zah],fun x=>Zjz x.1 x.2.1,fun x=>.c (.str (joS x.1 x.2.1)),fun _=>[],fun x hx=>Zpn x.1 x.2.1 hx,Tryz.call177⟩
end Go.Proofs.YtkeglpnnedflnaaGreatDoor
