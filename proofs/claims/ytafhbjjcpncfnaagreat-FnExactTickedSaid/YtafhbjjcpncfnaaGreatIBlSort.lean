import Derived.Test.YtafhbjjcpncfnaaGreatIBlBoxM
import Derived.Test.YtafhbjjcpncfnaaGreatIBlCmp
import Derived.Shelf.SlSortCmp.SmallK
import Derived.Shelf.SlSortCmp.NoneTotal
import Derived.Shelf.Small.Bits
set_option linter.unusedSimpArgs false
set_option linter.unusedVariables false
namespace Go.Proofs.YtafhbjjcpncfnaaGreat
open Go.ChangeShapes Go.WideShapes Go.ChangeAt Go.RowKit Go.Joins Go.Deep
open GoRep (rep bulk)
def ZFQ:Go.Shelf.Ren:=⟨fun | 6=>213 | 15=>240 | 14=>239 | 28=>254 | 29=>255 | 20=>246 | 21=>247 | 22=>248 | 23=>249 | 24=>250 | 25=>251 | 26=>252 | 27=>253 | 46=>257 | 47=>258 | 48=>259 | 49=>260 | 50=>261 | 57=>263 | n=>n,
 fun | 22=>30 | 24=>138 | 25=>232 | 3=>3 | 39=>246 | 0=>0 | 53=>257 | 55=>259 | 4=>4 | 46=>250 | 45=>249 | 50=>254 | 5=>5 | 9=>9 | 66=>260 | 70=>264 | 76=>266 | 77=>267 | n=>n,
 fun | n=>n⟩
open Go.Shelf in
theorem ZsI:SlLaysF0.n6 Tryz.prog ZFQ where
 mixed:=by kernel_rfl
 f6 := ⟨ "slices.SortFunc[[]loop.example/g00501/impl.Box,loop.example/g00501/impl.Box]", by decide, Tryz.func213.trans (congrArg some (by kernel_rfl))⟩
 f14 := ⟨ "slices.pdqsortCmpFunc[loop.example/g00501/impl.Box]", by decide, Tryz.func239.trans (congrArg some (by kernel_rfl))⟩
 f15:=Tryz.func240.trans (congrArg some (by kernel_rfl))
 f20 := ⟨ "slices.insertionSortCmpFunc[loop.example/g00501/impl.Box]", by decide, Tryz.func246.trans (congrArg some (by kernel_rfl))⟩
 f21 := ⟨ "slices.heapSortCmpFunc[loop.example/g00501/impl.Box]", by decide, Tryz.func247.trans (congrArg some (by kernel_rfl))⟩
 f22 := ⟨ "slices.breakPatternsCmpFunc[loop.example/g00501/impl.Box]", by decide, Tryz.func248.trans (congrArg some (by kernel_rfl))⟩
 f23 := ⟨ "slices.choosePivotCmpFunc[loop.example/g00501/impl.Box]", by decide, Tryz.func249.trans (congrArg some (by kernel_rfl))⟩
 f24 := ⟨ "slices.reverseRangeCmpFunc[loop.example/g00501/impl.Box]", by decide, Tryz.func250.trans (congrArg some (by kernel_rfl))⟩
 f25 := ⟨ "slices.partialInsertionSortCmpFunc[loop.example/g00501/impl.Box]", by decide, Tryz.func251.trans (congrArg some (by kernel_rfl))⟩
 f26 := ⟨ "slices.partitionEqualCmpFunc[loop.example/g00501/impl.Box]", by decide, Tryz.func252.trans (congrArg some (by kernel_rfl))⟩
 f27 := ⟨ "slices.partitionCmpFunc[loop.example/g00501/impl.Box]", by decide, Tryz.func253.trans (congrArg some (by kernel_rfl))⟩
 f28:=Tryz.func254.trans (congrArg some (by kernel_rfl))
 f29:=Tryz.func255.trans (congrArg some (by kernel_rfl))
 f46 := ⟨ "slices.siftDownCmpFunc[loop.example/g00501/impl.Box]", by decide, Tryz.func257.trans (congrArg some (by kernel_rfl))⟩
 f47:=Tryz.func258.trans (congrArg some (by kernel_rfl))
 f48:=Tryz.func259.trans (congrArg some (by kernel_rfl))
 f49 := ⟨ "slices.medianAdjacentCmpFunc[loop.example/g00501/impl.Box]", by decide, Tryz.func260.trans (congrArg some (by kernel_rfl))⟩
 f50 := ⟨ "slices.medianCmpFunc[loop.example/g00501/impl.Box]", by decide, Tryz.func261.trans (congrArg some (by kernel_rfl))⟩
 f57 := ⟨ "slices.order2CmpFunc[loop.example/g00501/impl.Box]", by decide, Tryz.func263.trans (congrArg some (by kernel_rfl))⟩
 t0:=Tryz.underlying0
 a0:=Tryz.isAgg0
 z0:=Tryz.sizeOf0
 v0:=Tryz.zeroValue0
 t3:=Tryz.underlying3
 a3:=Tryz.isAgg3
 z3:=Tryz.sizeOf3
 v3:=Tryz.zeroValue3
 t4:=Tryz.underlying4
 a4:=Tryz.isAgg4
 z4:=Tryz.sizeOf4
 v4:=Tryz.zeroValue4
 t5:=Tryz.underlying5
 a5:=Tryz.isAgg5
 z5:=Tryz.sizeOf5
 v5:=Tryz.zeroValue5
 t9:=Tryz.underlying9
 a9:=Tryz.isAgg9
 z9:=Tryz.sizeOf9
 v9:=Tryz.zeroValue9
 t22:=Tryz.underlying30
 a22:=Tryz.isAgg30
 z22:=Tryz.sizeOf30
 v22:=Tryz.zeroValue30
 t25:=Tryz.underlying232
 a25:=Tryz.isAgg232
 z25:=Tryz.sizeOf232
 v25:=Tryz.zeroValue232
 t39:=Tryz.underlying246
 a39:=Tryz.isAgg246
 z39:=Tryz.sizeOf246
 v39:=Tryz.zeroValue246
 t45:=Tryz.underlying249
 a45:=Tryz.isAgg249
 z45:=Tryz.sizeOf249
 v45:=Tryz.zeroValue249
 t46:=Tryz.underlying250
 a46:=Tryz.isAgg250
 z46:=Tryz.sizeOf250
 v46:=Tryz.zeroValue250
 t50:=Tryz.underlying254
 a50:=Tryz.isAgg254
 z50:=Tryz.sizeOf254
 v50:=Tryz.zeroValue254
 t53:=Tryz.underlying257
 a53:=Tryz.isAgg257
 z53:=Tryz.sizeOf257
 v53:=Tryz.zeroValue257
 t55:=Tryz.underlying259
 a55:=Tryz.isAgg259
 z55:=Tryz.sizeOf259
 v55:=Tryz.zeroValue259
 t66:=Tryz.underlying260
 a66:=Tryz.isAgg260
 z66:=Tryz.sizeOf260
 v66:=Tryz.zeroValue260
 t70:=Tryz.underlying264
 a70:=Tryz.isAgg264
 z70:=Tryz.sizeOf264
 v70:=Tryz.zeroValue264
 t76:=Tryz.underlying266
 a76:=Tryz.isAgg266
 z76:=Tryz.sizeOf266
 v76:=Tryz.zeroValue266
 t77:=Tryz.underlying267
 a77:=Tryz.isAgg267
 z77:=Tryz.sizeOf267
 v77:=Tryz.zeroValue267
def Zw1:Go.Shelf.Ren:=⟨fun | 125=>240 | 128=>254 | 129=>255 | n=>n,
 fun | 46=>246 | 3=>3 | 51=>257 | 53=>259 | 4=>4 | 5=>5 | 9=>9 | n=>n,
 fun | n=>n⟩
theorem Zw2:Lays.n125 Tryz.prog Zw1 where
 mixed:=by kernel_rfl
 f125:=Tryz.func240.trans (congrArg some (by kernel_rfl))
 f128:=Tryz.func254.trans (congrArg some (by kernel_rfl))
 f129:=Tryz.func255.trans (congrArg some (by kernel_rfl))
 t3:=Tryz.underlying3
 a3:=Tryz.isAgg3
 z3:=Tryz.sizeOf3
 v3:=Tryz.zeroValue3
 t4:=Tryz.underlying4
 a4:=Tryz.isAgg4
 z4:=Tryz.sizeOf4
 v4:=Tryz.zeroValue4
 t5:=Tryz.underlying5
 a5:=Tryz.isAgg5
 z5:=Tryz.sizeOf5
 v5:=Tryz.zeroValue5
 t9:=Tryz.underlying9
 a9:=Tryz.isAgg9
 z9:=Tryz.sizeOf9
 v9:=Tryz.zeroValue9
 t46:=Tryz.underlying246
 a46:=Tryz.isAgg246
 z46:=Tryz.sizeOf246
 v46:=Tryz.zeroValue246
 t51:=Tryz.underlying257
 a51:=Tryz.isAgg257
 z51:=Tryz.sizeOf257
 v51:=Tryz.zeroValue257
 t53:=Tryz.underlying259
 a53:=Tryz.isAgg259
 z53:=Tryz.sizeOf259
 v53:=Tryz.zeroValue259
section
open Go.Sort Go.Lib
def encQ (x:Zce):List Value:=[.string x.1, .int .i64 x.2.1, .int .i64 x.2.2.1,if Value.oneCell' x.2.2.2=true then x.2.2.2 else .bool false]
theorem ZJ9 (x:Zce):∀ v ∈ encQ x,v.oneCell'=true:=fun v hv=>by
 unfold encQ at hv
 simp only [List.mem_cons,List.mem_nil_iff,or_false] at hv
 rcases hv with rfl | rfl | rfl | rfl
 ·rfl
 ·rfl
 ·rfl
 ·split
  ·assumption
  ·rfl
theorem ZMg {W:World} {x:Zce} {cs:List Value} {F:List Nat} (h:Zbv W Zds x cs F):cs=encQ x:=by
 obtain ⟨c1,c2,F1,F2,h1,⟨c3,c4,F3,F4,h3,⟨c5,c6,F5,F6,h5,h6,e5,_⟩,e3,_⟩,e1,_⟩:=h
 have h1:=h1.1
 have h3:=h3.1
 have h5:=h5.1
 have h6a:=h6.1
 have h6b:Value.oneCell' x.2.2.2=true:=h6.2.1
 rw [e1,e3,e5,h1,h3,h5,h6a]
 unfold encQ
 rw [if_pos h6b]
 rfl
theorem Zw3 {W:World}:∀ {qs:List Zce} {cells:List Value},Zb0 (Zbv W Zds) qs cells []→cells=(qs.map encQ).flatten∧∀ q ∈ qs,Zbv W Zds q (encQ q) []
 | [],_,h=>⟨h.1,by simp⟩
 | q :: qs,_,⟨c1,c2,G1,G2,h1,h2,e1,e2⟩=>by
  obtain ⟨rfl,rfl⟩:=List.append_eq_nil_iff.1 e2.symm
  obtain ⟨r1,r2⟩:=Zw3 h2
  have hc:=ZMg h1
  refine ⟨by rw [e1,hc,r1]; rfl,fun x hx=>?_⟩
  rcases List.mem_cons.1 hx with rfl | hx
  ·rw [hc] at h1; exact h1
  ·exact r2 x hx
theorem Zw4 {W:World}:∀ {qs:List Zce},(∀ q ∈ qs,Zbv W Zds q (encQ q) [])→Zb0 (Zbv W Zds) qs (qs.map encQ).flatten []
 | [],_=>⟨rfl,rfl⟩
 | q :: qs,h=>⟨encQ q,(qs.map encQ).flatten,[],[],h q (by simp),Zw4 (fun x hx=>h x (by simp [hx])),rfl,rfl⟩
theorem Zl7 (d:List Zce):(flatK encQ 4 d.toArray).toList=(d.map encQ).flatten:=by
 have hl:((d.map encQ).flatten).length=d.length * 4:=by
  have:=Zhf (s:=4) (d.map encQ) (fun l hl=>by obtain ⟨x,_,rfl⟩:=List.mem_map.1 hl; rfl)
  simpa using this
 apply List.ext_getElem?
 intro k
 rw [Zi1 (s:=4) (by omega) _ (fun l hl=>by obtain ⟨x,_,rfl⟩:=List.mem_map.1 hl; rfl),List.getElem?_map]
 by_cases hk:k < d.length * 4
 ·have hk4:k / 4 < d.length:=by omega
  have h1:(flatK encQ 4 d.toArray)[k]! = (encQ d.toArray[k / 4]!)[k % 4]! := get_flatK encQ 4 d.toArray k (by simpa using hk)
  have h2:(flatK encQ 4 d.toArray).toList[k]?=some ((flatK encQ 4 d.toArray)[k]!):=by
   rw [Array.getElem?_toList,getElem!_pos _ k (by simpa using hk)]
   exact Array.getElem?_eq_getElem _
  rw [h2,h1,List.getElem?_eq_getElem hk4]
  simp only [Option.map_some,Option.bind_some]
  have h3:d.toArray[k / 4]! = d[k / 4]:=by rw [getElem!_pos _ _ (by simpa using hk4)]; simp
  rw [h3]
  have h4:k % 4 < (encQ d[k / 4]).length:=by show k % 4 < 4; omega
  rw [getElem!_pos (encQ d[k / 4]) (k % 4) h4,List.getElem?_eq_getElem h4]
 ·rw [List.getElem?_eq_none (l:=(flatK encQ 4 d.toArray).toList) (by simp; omega),List.getElem?_eq_none (l:=d) (by omega)]
  rfl
abbrev ZNj (x y:Zce):Int:=ZJU x.1 y.1
theorem ltQ (x y:Zce):ltOf ZNj x y=Zh4 x.1 y.1:=by
 unfold ltOf ZNj ZJU
 cases h:Zh4 x.1 y.1 with
 | true=>rfl
 | false =>
  rw [if_neg Bool.false_ne_true]
  split <;> rfl
theorem ZPp:SWO (ltOf ZNj) where
 irrefl x:=by rw [ltQ]; exact ZoU _
 trans x y z h1 h2:=by rw [ltQ] at *; exact ZkH h1 h2
 ntrans x y z h1 h2:=by
  rw [ltQ] at *
  cases h:Zh4 x.1 z.1 with
  | false=>rfl
  | true =>
   by_cases e:x.1=y.1
   ·rw [e] at h; rw [h] at h2; exact h2
   ·have:=ZkH (ZvM h1 e) h
    rw [this] at h2; exact h2
theorem Zdc.perm {W:World} {t:Ty} {qs rs:List t.quo.den} (hp:qs.Perm rs):∀ {xs:List t.den} {G:List Nat},Zdc W t xs qs G→∃ ys G',xs.Perm ys∧Zdc W t ys rs G'∧G.Perm G':=by
 induction hp with
 | nil=>exact fun {xs G} h=>⟨xs,G,List.Perm.refl _,h,List.Perm.refl _⟩
 | cons q _ ih =>
  intro xs G h
  match xs,h with
  | x :: xs,⟨G1,G2,h1,h2,e⟩ =>
   obtain ⟨ys,G',p1,p2,p3⟩:=ih h2
   exact ⟨x :: ys,G1 ++ G',p1.cons x,⟨G1,G',h1,p2,rfl⟩,by rw [e]; exact p3.append_left G1⟩
 | swap q r l =>
  intro xs G h
  match xs,h with
  | x :: y :: xs,⟨G1,G2,h1,⟨G3,G4,h3,h4,e2⟩,e1⟩ =>
   refine ⟨y :: x :: xs,G3 ++ (G1 ++ G4),List.Perm.swap _ _ _,⟨G3,G1 ++ G4,h3,⟨G1,G4,h1,h4,rfl⟩,rfl⟩,?_⟩
   rw [e1,e2,← List.append_assoc,← List.append_assoc]
   exact List.perm_append_comm.append_right G4
  | [x],⟨_,_,_,h2,_⟩=>exact h2.elim
 | trans _ _ ih1 ih2 =>
  intro xs G h
  obtain ⟨ys,G',p1,p2,p3⟩:=ih1 h
  obtain ⟨zs,G'',q1,q2,q3⟩:=ih2 p2
  exact ⟨zs,G'',p1.trans q1,q2,p3.trans q3⟩
theorem ZOK (n:Nat) (W:World) (h:n≤12):Calls Tryz.prog 240 #[.int .u64 n] W fun e w'=>(∃ l:Int,e=.returned (.int .i64 l))∧w'=W :=
 (Any.bits_Len Zw2 n W (by omega) (by omega)).mono fun _ _ ⟨he,hw⟩=>⟨⟨_,he⟩,hw⟩
theorem ZH5 (W:World) (b n:Nat) (d:List Zce) (os:Array Obj) (cur:Array Value) (T:TypeId) (hb:W.heap[b]?=some (.cells cur T (0,0))) (hs:d.length * 4≤cur.size) :
 ∃ cur',(sortWorldK encQ 4 W b 0 n d.toArray os).heap[b]?=some (.cells cur' T (0,0))∧cur'.size=cur.size∧cur'.toList.take (d.length * 4)=(d.map encQ).flatten ∧
   (∀ g,g < W.heap.size→g ≠ b→(sortWorldK encQ 4 W b 0 n d.toArray os).heap[g]?=W.heap[g]?)∧W.heap.size≤(sortWorldK encQ 4 W b 0 n d.toArray os).heap.size:=by
 have hbl:b < W.heap.size:=(Array.getElem?_eq_some_iff.1 hb).1
 have hF:(flatK encQ 4 d.toArray).size=d.length * 4:=by simp
 have hheap:(sortWorldK encQ 4 W b 0 n d.toArray os).heap=W.heap.modify b (onCells (putCells id 0 (flatK encQ 4 d.toArray))) ++ os:=rfl
 refine ⟨putCells id 0 (flatK encQ 4 d.toArray) cur,?_,by simp [putCells],?_,fun g hg hne=>?_,?_⟩
 ·rw [hheap,Array.getElem?_append_left (by simpa using hbl),Array.getElem?_modify,if_pos rfl,hb]
  rfl
 ·rw [← Zl7]
  apply List.ext_getElem?
  intro k
  rw [List.getElem?_take]
  by_cases hk:k < d.length * 4
  ·rw [if_pos hk,Array.getElem?_toList,Array.getElem?_toList]
   unfold putCells
   rw [Array.getElem?_mapIdx,Array.getElem?_eq_getElem (by omega),Array.getElem?_eq_getElem (by omega)]
   simp only [Option.map_some]
   rw [if_pos ⟨Nat.zero_le _,by omega⟩,Nat.sub_zero,getElem!_pos _ k (by omega)]
   rfl
  ·rw [if_neg hk,List.getElem?_eq_none (by simp; omega)]
 ·rw [hheap,Array.getElem?_append_left (by simpa using hg),Array.getElem?_modify,if_neg (Ne.symm hne)]
 ·rw [hheap]; simp
theorem ZjC (xs:List ZaO) (hpre:xs.length≤12∧ZGQ xs):Zep Tryz.prog 213 (Zd7 0 [(.q false (.list Zaj)),(.f 214 [])] (xs,(),())) (Zh3 0 [(.q false (.list Zaj)),(.f 214 [])] (xs,(),())) (Zfj 0 [(.q false (.list Zaj)),(.f 214 [])] (Ziu xs,(),()) ++ []) (inpM 0 [(.q false (.list Zaj)),(.f 214 [])]) (.tp []):=by
 intro X W E vs hgl hM hr
 have hM:RepM X W E [.row Zaj xs 0 0 none]:=hM
 obtain ⟨v,r,rfl,hv,cv,r3,rfl,hc,hn⟩:=hr
 obtain rfl:r3=[]:=hn
 obtain ⟨e0,rfl⟩:=Zju hM
 have hv:Zb3 X W [e0] [.row Zaj xs 0 0 none] (.row 0 0) v:=hv
 obtain ⟨cs,rfl,hcs⟩:=(hc:∃ vs,cv=.func (.func 214) #[] vs.toArray∧Zem [e0] [] vs)
 obtain rfl:cs=[]:=hcs
 have hrow:Zcj W (Zbv W Zaj) Zaj.n xs e0.val e0.foot:=hM.row (i:=0) rfl rfl
 obtain rfl:v=e0.val:=ZhL hv rfl rfl
 obtain ⟨T,cells,G,w1,w2,w3⟩:=hrow
 have stay:xs=[]→∃ v E',Ending.returned (.tuple #[])=.returned v∧ZMr W [e0] W E'∧(∀ (i:Nat) (l:List AC) (e:EB),[Blk.row Zaj xs 0 0 none][i]?=some (.box l)→[e0][i]?=some e→∃ e',E'[i]?=some e'∧e'.blk=e.blk) ∧
  (∀ i ∈ [0],∀ e,[e0][i]?=some e→∃ e',E'[i]?=some e'∧e'.val=e.val)∧RepM X W E' [.row Zaj (Ziu xs) 0 0 none]∧Zc5 X W E' [.row Zaj (Ziu xs) 0 0 none] (.tp []) v:=fun h=>by
  subst h
  exact ⟨_,[e0],rfl,⟨rfl,rfl,rfl,Nat.le_refl _,fun _ _ _=>rfl,fun b hb=>.inl hb⟩,(fun i l e hi=>by match i with | 0=>cases hi | n + 1=>cases hi),(fun i _ e he=>⟨e,he,rfl⟩),hM,[],rfl,rfl⟩
 obtain ⟨A,c,hvs,hlc,hcm,hA⟩:=Zg4 w1
 by_cases h0:xs=[]
 ·subst h0
  have hs:e0.val=.slice A 0 c:=hvs
  rw [hs]
  refine (AnyF.slices_SortFunc_none ZsI A c (.func (.func 214) #[] #[]) W).mono fun e W' h=>?_
  obtain ⟨rfl,rfl⟩:=h
  exact stay rfl
 ·have hpos:0 < xs.length:=List.length_pos_iff.2 h0
  rcases w1.2 with ⟨_,k2⟩ | ⟨g,cap,cur,k1,k2,k3,k4,k5,k6,k7⟩
  ·exact absurd k2 (Nat.ne_of_gt hpos)
  ·obtain ⟨qs,r1,hR⟩:∃ qs:List Zce,Zb0 (Zbv W Zds) qs cells []∧Zdc W Zaj xs qs G:=ZvD w2
   obtain ⟨hcl,hel⟩:=Zw3 r1
   have hlen : @List.length Zce qs=@List.length ZaO xs:=hR.len
   have hn4:Zaj.n=4:=rfl
   have k4 : @List.length ZaO xs≤cap:=k4
   rw [hn4] at k6 k7
   have hgW:g < W.heap.size:=(Array.getElem?_eq_some_iff.1 k3).1
   have hcell:∀ j,j < qs.length * 4→cur.toList[j]?=(flatK encQ 4 qs.toArray).toList[j]?:=fun j hj=>by
    rw [Zl7,← hcl,← k7,List.getElem?_take,if_pos (by rw [hlen] at hj; exact hj)]
   have hH:HoldsK encQ 4 W g 0 qs.toArray:=fun j hj=>by
    have hj:j < qs.length * 4:=by simpa using hj
    have hjc:j < cur.size:=by rw [k6]; rw [hlen] at hj; omega
    have hq:=hcell j hj
    rw [Array.getElem?_toList,Array.getElem?_toList,Array.getElem?_eq_getElem hjc,Array.getElem?_eq_getElem (by simpa using hj)] at hq
    refine ⟨?_,by simp [World.frozen?,k3]⟩
    unfold World.cell?
    rw [k3]
    show (if (none:Option _).isSome=true then none else cur[0 + j]?)=_
    rw [Nat.zero_add,Array.getElem?_eq_getElem hjc,hq,getElem!_pos _ j (by simpa using hj)]
    rfl
   have eg:∀ args w,(callFunc 214 args).run Tryz.prog w=.ok (.enter 214 args) w:=Tryz.call214
   have hcmp:CmpLays Tryz.prog 214 #[] encQ 4 ZNj g 0 qs.toArray.size W:=fun m os dk _ x y=>ZJV x.1 y.1 _ _ _ _ _ _ _
   have hS:=AnyQ.slices_SortFunc_small_sorted ZsI 4 Tryz.isAgg138 Tryz.sizeOf138 encQ (fun _=>rfl) ZJ9 ZNj 214 #[] ZPp g 0 cap qs.toArray W eg hcmp hH hgW (by simp; omega) ZOK
   rw [k1]
   have hsz:qs.toArray.size=xs.length:=by simp [hlen]
   rw [hsz] at hS
   refine hS.mono fun e W' h=>?_
   obtain ⟨rfl,d',n,os,hperm,hsort,rfl⟩:=h
   obtain ⟨d⟩:=d'
   obtain ⟨hp1,_,hp3⟩:=hperm
   have hdl:d.length=xs.length:=by simpa [hlen] using hp1
   have hp:qs.Perm d:=by
    have h:=hp3.symm
    simpa [hlen,hdl,List.take_of_length_le] using h
   obtain ⟨ys,G',q1,q2,q3⟩:∃ (ys:List ZaO) (G' : List Nat),xs.Perm ys∧Zdc W Zaj ys d G'∧G.Perm G':=Zdc.perm (t:=Zaj) hp hR
   have hnm:d.map (·.1)=ys.map (·.1):=ZBa q2
   have hys:srt ys:=by
    have hnd:(ys.map (·.1)).Nodup:=((q1.map (fun z:ZaO=>z.1)).nodup_iff).1 hpre.2
    have hpd:(ys.map (·.1)).Pairwise (fun a b=>Zh4 a b=true):=by
     rw [List.pairwise_iff_getElem]
     intro i j hi hj hij
     have hne:=List.pairwise_iff_getElem.1 hnd i j hi hj hij
     have hdi:i < d.length:=by rw [← hnm] at hi; simpa using hi
     have hdj:j < d.length:=by rw [← hnm] at hj; simpa using hj
     have hlt:=hsort i j (Nat.zero_le _) hij (by omega)
     rw [ltQ] at hlt
     have ei:(d.toArray[i]!).1=(ys.map (·.1))[i]:=by
      rw [getElem!_pos _ i (by simpa using hdi)]
      simp only [← hnm,List.getElem_map,List.getElem_toArray]
     have ej:(d.toArray[j]!).1=(ys.map (·.1))[j]:=by
      rw [getElem!_pos _ j (by simpa using hdj)]
      simp only [← hnm,List.getElem_map,List.getElem_toArray]
     rw [ei,ej] at hlt
     exact ZvM hlt (fun e=>hne e.symm)
    rw [List.pairwise_map] at hpd
    exact hpd
   have hyx:Ziu xs=ys:=ZoW hys q1.symm
   obtain ⟨cur',s1,s2,s3,s4,s5⟩:=ZH5 W g n d os cur T k3 (by rw [k6]; omega)
   have hfoot:foots [e0]=[g] ++ G:=by simp [foots,w3,k1,Value.ownBlock]
   have hnd:=hM.nodup
   rw [hfoot,List.nodup_append] at hnd
   have hGlt:∀ b ∈ G,b < W.heap.size∧b ≠ g:=fun b hb=>⟨hM.lt b (by rw [hfoot]; simp [hb]),fun e=>hnd.2.2 g (by simp) b hb e.symm⟩
   have hys2:Zb0 (Zbv (sortWorldK encQ 4 W g 0 n d.toArray os) Zaj) ys ((d.map encQ).flatten) G':=by
    refine ZqR (t:=Zaj) (qs:=d) (Zw4 (fun q hq=>?_)) (q2.keep (fun b hb=>?_))
    ·exact Zbv.keep Zds (hel q (hp.mem_iff.2 hq)) (fun b hb=>by cases hb)
    ·have:=hGlt b (q3.mem_iff.2 hb)
     exact s4 b this.1 this.2
   refine ⟨_,[⟨e0.blk,e0.val,[g] ++ G'⟩],rfl,⟨rfl,rfl,rfl,s5,fun b hb hnb=>?_,fun b hb=>?_⟩,(fun i l e hi=>by match i with | 0=>cases hi | n + 1=>cases hi),(fun i hi e he=>?_),⟨rfl,?_,fun i b e hb he=>?_,fun b hb=>?_,fun b hb=>?_,fun b hb=>Nat.lt_of_lt_of_le (hM.xsz b hb) s5⟩,[],rfl,rfl⟩
   ·exact s4 b hb (fun e=>hnb (by rw [hfoot,e]; simp))
   ·left
    rw [hfoot]
    have hb:b ∈ [g] ++ G':=by simpa [foots] using hb
    rcases List.mem_append.1 hb with hb | hb
    ·exact Zkf
    ·exact List.mem_append_right _ (q3.mem_iff.2 hb)
   ·obtain rfl:=List.mem_singleton.1 (show i ∈ [0] from hi)
    obtain rfl:e0=e:=Option.some.inj he
    exact ⟨_,rfl,rfl⟩
   ·have:foots [⟨e0.blk,e0.val,[g] ++ G'⟩]=[g] ++ G':=by simp [foots]
    rw [this,List.nodup_append]
    exact ⟨by simp,q3.nodup_iff.1 hnd.2.1,fun a ha b hb=>hnd.2.2 a ha b (q3.mem_iff.2 hb)⟩
   ·match i,hb,he with
    | 0,hb,he =>
     obtain rfl:=Option.some.inj hb
     obtain rfl:=Option.some.inj he
     show Zcj _ (Zbv _ Zaj) Zaj.n (Ziu xs) e0.val ([g] ++ G')
     rw [hyx]
     have hyl:ys.length=xs.length:=q1.length_eq.symm
     refine ⟨T,(d.map encQ).flatten,G',⟨?_, .inr ⟨g,cap,cur',by rw [k1]; exact congrArg (fun z=>Value.slice (some ⟨g,0,none⟩) z cap) hyl.symm,Nat.zero_le _,s1,(by show @List.length ZaO ys≤cap; omega),k5,by rw [s2,k6]; rfl,?_⟩⟩,hys2,by simp [k1,Value.ownBlock]⟩
     ·have:=hys2.len (fun x cs F h=>Zbv.len Zaj h)
      exact this
     ·have e4:ys.length * Zaj.n=d.length * 4:=by rw [hyl,hdl]; rfl
      exact (congrArg (fun z=>List.take z cur'.toList) e4).trans s3
    | n + 1,hb,_=>cases hb
   ·have hb:b ∈ [g] ++ G':=by simpa [foots] using hb
    rcases List.mem_append.1 hb with hb | hb
    ·obtain rfl:=List.mem_singleton.1 hb
     exact Nat.lt_of_lt_of_le hgW s5
    ·exact Nat.lt_of_lt_of_le (hGlt b (q3.mem_iff.2 hb)).1 s5
   ·intro hb'
    have hb' : b ∈ [g] ++ G':=by simpa [foots] using hb'
    refine hM.xlt b hb (by
     rw [hfoot]
     rcases List.mem_append.1 hb' with h | h
     ·exact List.mem_append_left _ h
     ·exact List.mem_append_right _ (q3.mem_iff.2 h))
def ZMh (xs:List ZaO):Prop:=xs.length≤12∧ZGQ xs
def ZjD:Zdb Tryz.prog:=⟨213,[(.q false (.list Zaj)),(.f 214 [])],fun x=>ZMh x.1,fun x=>(Ziu x.1,(),()),fun x=>.tp [],fun _=>[],fun x hx=>ZjC x.1 hx,Tryz.call213⟩
end
end Go.Proofs.YtafhbjjcpncfnaaGreat
