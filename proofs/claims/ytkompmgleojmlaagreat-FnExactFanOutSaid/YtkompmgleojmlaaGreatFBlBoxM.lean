import Derived.Test.YtkompmgleojmlaaGreatFBxPerf
import Derived.Test.YtkompmgleojmlaaGreatFBmQ
set_option linter.unusedSimpArgs false
set_option linter.unusedVariables false
set_option maxRecDepth 100000
set_option maxHeartbeats 4000000
namespace Go.Proofs.YtkompmgleojmlaaGreat
open Go.ChangeShapes Go.WideShapes Go.ChangeAt Go.RowKit Go.Joins Go.Deep
open GoRep (rep bulk)
abbrev ZCV (l:List ZbT) (k:Nat):List ZbT:=l.take k ++ l.drop (k + 1)
def posQ:List ZbT→ByteArray→Nat
  | [],_=>0
  | x :: l,n=>if Zg5 x.1 n=true then posQ l n + 1 else 0
theorem Zrv:∀ (l:List ZbT) (k:List ZaM) (n:ByteArray),l.map (·.1)=k.map (·.1)→posQ l n=ZHq k n
  | [],[],_,_=>rfl
  | [],_ :: _,_,h=>by simp at h
  | _ :: _,[],_,h=>by simp at h
  | x :: l,y :: k,n,h=>by
    simp only [List.map_cons,List.cons.injEq] at h
    unfold posQ ZHq
    rw [h.1,Zrv l k n h.2]
theorem ZDi:∀ (l:List ZbT) (n:ByteArray),posQ l n≤l.length
  | [],_=>Nat.le_refl _
  | x :: l,n=>by
    unfold posQ
    have:=ZDi l n
    split <;> simp <;> omega
theorem ZDj:∀ (l:List ZbT) (n:ByteArray) (j:Nat),j < posQ l n→Zg5 (Zdk l j).1 n=true
  | [],_,_,h=>absurd h (Nat.not_lt_zero _)
  | x :: l,n,j,h=>by
    unfold posQ at h
    split at h
    · rename_i hx
      cases j with
      | zero=>exact hx
      | succ j=>exact ZDj l n j (by omega)
    · omega
theorem ZDk:∀ (l:List ZbT) (n:ByteArray),posQ l n < l.length→Zg5 (Zdk l (posQ l n)).1 n=false
  | [],_,h=>absurd h (Nat.not_lt_zero _)
  | x :: l,n,h=>by
    unfold posQ at h ⊢
    split
    · rename_i hx
      rw [if_pos hx] at h
      exact ZDk l n (by simpa using h)
    · rename_i hx
      have:Zg5 x.1 n=false:=by simpa using hx
      exact this
theorem ZDl {l:List ZbT} {n:ByteArray} {k:Nat} (hk:k≤l.length) (h1:∀ j,j < k→Zg5 (Zdk l j).1 n=true) (h2:k < l.length→Zg5 (Zdk l k).1 n=false):k=posQ l n:=by
  rcases Nat.lt_trichotomy k (posQ l n) with h | h | h
  · have:=ZDj l n k h
    have hp:=ZDi l n
    rw [h2 (by omega)] at this
    cases this
  · exact h
  · have:=h1 _ h
    rw [ZDk l n (by omega)] at this
    cases this
def ZKh (qs:List ZbT) (k:Int):Prop:=0≤k∧k < ((List.length qs:Nat):Int)∧List.length qs≤1048576
def ZHy (l:List ZbT) (b:ZbT):List ZbT:=l.take (posQ l b.1) ++ b :: l.drop (posQ l b.1)
def ZhJ (k:Int) (qs:List ZbT):Prop:=((True∧List.length (([]:List ZbT) ++ (List.drop (Int.toNat 0) (List.take (Int.toNat k) qs))) + List.length (List.drop (Int.toNat (w64 (k + 1))) (List.take (List.length qs) qs))≤rowMax)∧(True∧(pt (((([]:List ZbT) ++ (List.drop (Int.toNat 0) (List.take (Int.toNat k) qs))) ++ (List.drop (Int.toNat (w64 (k + 1))) (List.take (List.length qs) qs)))=(ZCV qs (Int.toNat k))))))
def Zix (k:Int) (qs:List ZbT):Prop:=((4:Nat)=4∧((0:Int)≤(w64 (k + 1))∧((w64 (k + 1)):Int)≤(List.length qs:Int)∧((List.length qs:Int):Int)≤(List.length qs:Int)))
def ZhK (k:Int) (qs:List ZbT):Prop:=(True∧List.length ([]:List ZbT) + List.length (List.drop (Int.toNat 0) (List.take (Int.toNat k) qs))≤rowMax)
def ZlK (k:Int) (qs:List ZbT):Prop:=(((ZhK k qs)∧((Zix k qs)∧(ZhJ k qs)))∧(((Zix k qs)∧((ZhK k qs)∧(ZhJ k qs)))))
def Zj7 (k:Int) (qs:List ZbT):Prop:=((4:Nat)=4∧((0:Int)≤0∧(0:Int)≤k∧(k:Int)≤(List.length qs:Int)))
theorem ZkK (qs:List ZbT) (k:Int) (hpre:ZKh qs k):Zat Tryz.prog 219 [.c (.hs .no ZcL qs), .c (.int .i64 k)] (.c (.row 0 0)) [.row ZcL (ZCV qs (Int.toNat k)) 0 0 none]:=by
  refine bc0 [] [] [] [] L0 Tryz.func219 (fun hwf=>?_)
  refine Eq.mpr (β:=(True∧((pt (true=true))∧(T4 ((True∧((Zj7 k qs)∧(((ZhK k qs)∧(True∧((Zix k qs)∧(ZhJ k qs))))∧((True∧(ZlK k qs))))))∧(((Zj7 k qs)∧((True∧(((ZhK k qs)∧(True∧((Zix k qs)∧(ZhJ k qs))))∧((True∧(ZlK k qs)))))∧((True∧((True∧(ZlK k qs))∧(((Zix k qs)∧(True∧((ZhK k qs)∧(ZhJ k qs))))))))))∧((True∧((True∧((Zj7 k qs)∧(ZlK k qs)))∧(((Zj7 k qs)∧((True∧(ZlK k qs))∧(((Zix k qs)∧(True∧((ZhK k qs)∧(ZhJ k qs)))))))∧(((Zix k qs)∧((True∧((Zj7 k qs)∧((ZhK k qs)∧(ZhJ k qs))))∧(((Zj7 k qs)∧(True∧((ZhK k qs)∧(ZhJ k qs)))))))))))))))))) (by kernel_rfl) ?_
  unfold Zj7 ZlK ZhK Zix ZhJ T4
  obtain ⟨h0,h1,h2⟩:=hpre
  have w1:IntKind.wrap .i64 (k + 1)=k + 1:=ZaR (by omega) (by omega)
  have e1:Int.toNat (k + 1)=Int.toNat k + 1:=by omega
  have e2:List.take (Int.toNat ((List.length qs:Nat):Int)) qs=qs:=by rw [Int.toNat_natCast,List.take_length]
  simp only [Zd0,eq_self]
  simp only [w1,e1,e2,List.nil_append,List.length_nil,Nat.zero_add,List.length_append,List.length_take,List.length_drop]
  repeat' (first | apply And.intro | intro _)
  all_goals first
    | trivial
    | omega
    | (unfold rowMax; omega)
    | (rw [List.take_length]; rfl)
def ZDm (qs:List ZbT) (b:ZbT):Nat→List AV→Mem→Zbn
  | 2,tm,M=>⟨Nat,fun y=>(ZcN (ZcV tm [(5, .c (.int .i64 ((y:Nat):Int)))]) 7 16,M),fun y=>(y≤List.length qs∧∀ j,j < y→Zg5 (Zdk qs j).1 b.1=true),fun y=>(List.length qs - y)⟩
  | _,_,_=>⟨Unit,fun _=>([],[]),fun _=>False,fun _=>0⟩
def ZfF (y0:Nat) (qs:List ZbT) (b:ZbT):Prop:=((True∧List.length (([]:List ZbT) ++ (List.drop (Int.toNat 0) (List.take y0 qs))) + List.length ([b])≤rowMax)∧(T4 (((4:Nat)=4∧((0:Int)≤(y0:Int)∧((y0:Int):Int)≤(List.length qs:Int)∧((List.length qs:Int):Int)≤(List.length qs:Int)))∧((True∧List.length ((([]:List ZbT) ++ (List.drop (Int.toNat 0) (List.take y0 qs))) ++ [b]) + List.length (List.drop y0 (List.take (List.length qs) qs))≤rowMax)∧(True∧(pt ((((([]:List ZbT) ++ (List.drop (Int.toNat 0) (List.take y0 qs))) ++ [b]) ++ (List.drop y0 (List.take (List.length qs) qs)))=(ZHy qs b))))))))
def ZfG (y0:Nat) (qs:List ZbT):Prop:=(True∧List.length ([]:List ZbT) + List.length (List.drop (Int.toNat 0) (List.take y0 qs))≤rowMax)
def ZgN (y0:Nat) (qs:List ZbT):Prop:=((4:Nat)=4∧((0:Int)≤0∧(0:Int)≤(y0:Int)∧((y0:Int):Int)≤(List.length qs:Int)))
def Zj8 (y0:Nat) (qs:List ZbT) (b:ZbT):Prop:=(((ZfG y0 qs)∧(True∧(ZfF y0 qs b)))∧((True∧((ZfG y0 qs)∧(ZfF y0 qs b)))))
def ZxG (y0:Nat) (qs:List ZbT) (b:ZbT):Prop:=((pt (true=true))∧(T2 ((True∧(((ZgN y0 qs)∧(((ZfG y0 qs)∧(T2 (ZfF y0 qs b)))∧((True∧(Zj8 y0 qs b)))))∧((True∧(((ZgN y0 qs)∧(Zj8 y0 qs b))∧((True∧((ZgN y0 qs)∧((ZfG y0 qs)∧(ZfF y0 qs b))))))))))∧(((ZgN y0 qs)∧((True∧(((ZfG y0 qs)∧(T2 (ZfF y0 qs b)))∧((True∧(Zj8 y0 qs b)))))∧((True∧((True∧(Zj8 y0 qs b))∧((T2 ((ZfG y0 qs)∧(ZfF y0 qs b)))))))))∧((True∧((True∧(((ZgN y0 qs)∧(Zj8 y0 qs b))∧((True∧((ZgN y0 qs)∧((ZfG y0 qs)∧(ZfF y0 qs b)))))))∧(((ZgN y0 qs)∧((True∧(Zj8 y0 qs b))∧((T2 ((ZfG y0 qs)∧(ZfF y0 qs b))))))∧((True∧((True∧((ZgN y0 qs)∧((ZfG y0 qs)∧(ZfF y0 qs b))))∧(((ZgN y0 qs)∧(True∧((ZfG y0 qs)∧(ZfF y0 qs b))))))))))))))))
theorem Ztg (qs:List ZbT) (b:ZbT) (hpre:List.length qs≤1048576):Zat Tryz.prog 218 [.c (.hs .no ZcL qs), .ag (cellsOf ZcL b)] (.c (.row 0 0)) [.row ZcL (ZHy qs b) 0 0 none]:=by
  refine bc0 [] [] [] [] (ZDm qs b) Tryz.func218 (fun hwf=>?_)
  refine Eq.mpr (β:=(T3 ((∃ q:Nat,(q≤List.length qs∧∀ j,j < q→Zg5 (Zdk qs j).1 b.1=true)∧((lxs [hn ZcL qs, .ag [.str b.1, .int .i64 b.2.1, .int .i64 b.2.2.1, .opq b.2.2.2], .tp [], .c (.bp 0 0), .c (.raw (.slice none 0 0))] (vI 0 q∧lxs [.tp []] (TN 16 (tpn 13 True))))∧pt (lb (.box [.str b.1, .int .i64 b.2.1, .int .i64 b.2.2.1, .opq b.2.2.2])∧True)))∧∀ y0:Nat,(y0≤List.length qs∧∀ j,j < y0→Zg5 (Zdk qs j).1 b.1=true)→((pt (true=true))∧(T5 (bif (ltI y0 (List.length qs)) then (T2 ((ix 4 y0 (List.length qs))∧(T6 (bif (Op.bytesLess (Zdk qs y0).1.toList b.1.toList) then (T3 (∃ y0' : Nat,(y0'≤List.length qs∧∀ j,j < y0'→Zg5 (Zdk qs j).1 b.1=true)∧(List.length qs - y0') < (List.length qs - y0)∧((lxs [hn ZcL qs, .ag [.str b.1, .int .i64 b.2.1, .int .i64 b.2.2.1, .opq b.2.2.2], .tp [], .c (.bp 0 0), .c (.raw (.slice none 0 0))] (vI (w64 ((y0:Int) + 1)) y0'∧lxs [.tp []] (TN 16 (tpn 13 True))))∧pt (lb (.box [.str b.1, .int .i64 b.2.1, .int .i64 b.2.2.1, .opq b.2.2.2])∧True)))) else (ZxG y0 qs b))))) else (True∧(ZxG y0 qs b)))))))) (by kernel_rfl) ?_
  unfold ZxG Zj8 ZgN ZfG ZfF T2 T3 T4 T5 T6
  have hm:List.length qs≤1048576:=hpre
  have e2:List.take (Int.toNat ((List.length qs:Nat):Int)) qs=qs:=by rw [Int.toNat_natCast,List.take_length]
  simp only [Zd0,eq_self]
  refine ⟨⟨0,⟨Nat.zero_le _,Zbl⟩,rfl⟩,fun k hk=>⟨fun hlt=>⟨by omega,fun hp=>?_,fun hp=>?_⟩,fun hge=>?_⟩⟩
  · exact ⟨k + 1,⟨by omega,ZbS hk.2 hp⟩,by omega,ZbN (by unfold maxLen; omega)⟩
  all_goals
    have e:k=posQ qs b.1:=ZDl hk.1 hk.2 (fun h=>by first | exact hp | (exfalso; omega))
    unfold ZHy
    rw [← e]
    simp only [List.nil_append,List.length_nil,List.length_cons,Nat.zero_add,List.length_append,List.length_take,List.length_drop,Int.toNat_zero,List.drop_zero]
    repeat' (first | apply And.intro | intro _)
    all_goals first
      | trivial
      | omega
      | (unfold rowMax; omega)
      | (rw [List.take_length,List.append_assoc]; rfl)
theorem ZxH {W:World} {xs:List ZaM} {qs:List ZbT} {G:List Nat} (h:ZcD W Zak xs qs G):qs.map (·.1)=xs.map (·.1) :=
  ZcD.map (t:=Zak) (fun x:ZaM=>x.1) (fun q:ZbT=>q.1) (fun x q F ⟨_,_,h1,_,_⟩=>h1.1.symm) h
theorem Ziy {X:List Nat} {W:World} {E:Env} {b:Blk} (hM:RepM X W E [b]):∃ e,E=[e]:=by
  have hl:E.length=1:=by rw [← hM.len]; rfl
  match E,hl with
  | [e],_=>exact ⟨e,rfl⟩
theorem ZHz {X:List Nat} {W:World} {E:Env} {b c:Blk} (hM:RepM X W E [b,c]):∃ e f,E=[e,f]:=by
  have hl:E.length=2:=by rw [← hM.len]; rfl
  match E,hl with
  | [e,f],_=>exact ⟨e,f,rfl⟩
theorem ZgO {W:World} {E:Env} {M:Mem} {X:List Nat} {i:Nat} {t:Ty} {xs:List t.den} {e:EB} {v:Value} (hv:ZbL X W E M (.row i 0) v) (hi:M[i]?=some (.row t xs 0 0 none)) (he:E[i]?=some e):v=e.val:=by
  have h:=hv.2
  unfold Zb8 at h
  rw [hi] at h
  obtain ⟨e',h1,h2⟩:=h.2 rfl
  obtain rfl:=Option.some.inj (he.symm.trans h1)
  exact h2
def ZIv (xs:List ZaM) (k:Int):Prop:=0≤k∧k < ((List.length xs:Nat):Int)∧List.length xs≤1048576
theorem ZpQ (xs:List ZaM) (k:Int) (hpre:ZIv xs k):Zc0 Tryz.prog 219 (ZcX 0 [(.g false (.list Zak)),(.a (.v ZaC))] (xs,k,())) (Zga 0 [(.g false (.list Zak)),(.a (.v ZaC))] (xs,k,())) (ZdF 0 [(.g false (.list Zak)),(.a (.v ZaC))] (xs,k,()) ++ [.row Zak (Zmi xs (Int.toNat k)) 0 0 none]) (inpM 0 [(.g false (.list Zak)),(.a (.v ZaC))]) (.c (.row 1 0)):=by
  intro X W E vs hgl hM hr
  have hM:RepM X W E [.row Zak xs 0 0 none]:=hM
  obtain ⟨v,r,rfl,hv,hr2⟩:=hr
  obtain ⟨kv,r3,rfl,hk,hn⟩:=hr2
  obtain rfl:r3=[]:=hn
  obtain ⟨e0,rfl⟩:=Ziy hM
  have hv:ZbL X W [e0] [.row Zak xs 0 0 none] (.row 0 0) v:=hv
  have hrow:ZbY W (Zbb W Zak) Zak.n xs e0.val e0.foot:=hM.row (i:=0) rfl rfl
  obtain rfl:v=e0.val:=ZgO hv rfl rfl
  obtain ⟨qs,G,hF,hq,hR⟩:=Zox hrow
  have hfoot:foots [e0]=e0.val.ownBlock.toList ++ G:=by simp [foots,hF]
  have hnd:=hM.nodup
  rw [hfoot,List.nodup_append] at hnd
  have hin:∀ b ∈ G,b ∈ foots [e0]:=fun b hb=>by rw [hfoot]; exact List.mem_append_right _ hb
  have hlen : @List.length ZbT qs=@List.length ZaM xs:=hR.len
  obtain ⟨p0,p1,p2⟩:=hpre
  have hx:∀ b ∈ e0.val.ownBlock.toList,b ∉ X ++ G:=fun b hb hm=>by
    exact Zws
  have hc:ZbL (X ++ G) W [] [] (.hs .no ZcL qs) e0.val:=Znh (t:=Zak) hq hx
  refine (ZkK qs k ⟨p0,by omega,by omega⟩ (X ++ G) W [e0.val,kv] (fun b hb=>(List.mem_append.1 hb).elim (hM.xsz b) (fun h=>hM.lt b (hin b h))) hgl.nil ⟨_,_,rfl,hc,_,_,rfl,hk,rfl⟩).mono fun e W' h=>?_
  obtain ⟨u,E',he,hg,hm,hu⟩:=h
  obtain ⟨G1,Gd,G3,e1,hqq⟩:=hR.out (Int.toNat k)
  obtain ⟨E2,g2,m2,c2⟩:=ZEu (t:=Zak) (ts:=[Zak]) (X2:=X ++ G) hM hg hm hu (fun b hb=>List.mem_append_left _ hb) hqq (by
    have hn2:=hnd.2.1
    rw [e1,List.nodup_append] at hn2
    have hn3:=hn2.2.1
    rw [List.nodup_append] at hn3
    rw [List.nodup_append]
    exact ⟨hn2.1,hn3.2.1,fun a ha b hb=>hn2.2.2 a ha b (List.mem_append_right _ hb)⟩) (fun b hb=>hin b (by
    rw [e1]
    rcases List.mem_append.1 hb with hb | hb
    · exact Zjh
    · exact List.mem_append_right _ (List.mem_append_right _ hb)))
  exact ⟨u,E2,he,g2,(fun i l e hi=>by match i with | 0=>cases hi | n + 1=>cases hi),(fun i hi=>by cases hi),m2,c2⟩
def ZpR:Zcd Tryz.prog:=⟨219,[(.g false (.list Zak)),(.a (.v ZaC))],fun x=>ZIv x.1 x.2.1,fun x=>(x.1,x.2.1,()),fun x=>.c (.row 1 0),fun x=>[.row Zak (Zmi x.1 (Int.toNat x.2.1)) 0 0 none],fun x hx=>ZpQ x.1 x.2.1 hx,Tryz.call219⟩
def ZJX (xs:List ZaM):Prop:=List.length xs≤1048576
theorem ZBd (xs:List ZaM) (b:ZaM) (hpre:ZJX xs):Zc0 Tryz.prog 218 (ZcX 0 [(.g false (.list Zak)),(.g true Zak)] (xs,b,())) (Zga 0 [(.g false (.list Zak)),(.g true Zak)] (xs,b,())) (ZdF 0 [(.g false (.list Zak)),(.g true Zak)] (xs,b,()) ++ [.row Zak (Zm7 xs b) 0 0 none]) (inpM 0 [(.g false (.list Zak)),(.g true Zak)]) (.c (.row 2 0)):=by
  intro X W E vs hgl hM hr
  have hM:RepM X W E [.row Zak xs 0 0 none, .row ZaT b.2.2.2 0 0 none]:=hM
  obtain ⟨v,r,rfl,hv,hr2⟩:=hr
  obtain ⟨bv,r3,rfl,hb,hn⟩:=hr2
  obtain rfl:r3=[]:=hn
  obtain ⟨e0,e1,rfl⟩:=ZHz hM
  have hv:ZbL X W [e0,e1] [.row Zak xs 0 0 none, .row ZaT b.2.2.2 0 0 none] (.row 0 0) v:=hv
  obtain ⟨cs,rfl,u1,s1,rfl,c1,u2,s2,rfl,c2,u3,s3,rfl,c3,u4,s4,rfl,c4,hs4⟩:=hb
  obtain rfl:s4=[]:=hs4
  have c4:ZbL X W [e0,e1] [.row Zak xs 0 0 none, .row ZaT b.2.2.2 0 0 none] (.row 1 0) u4:=c4
  have hone:=ZbL.one c4
  have hrow:ZbY W (Zbb W Zak) Zak.n xs e0.val e0.foot:=hM.row (i:=0) rfl rfl
  have hrow1:ZbY W (Zbb W ZaT) ZaT.n b.2.2.2 e1.val e1.foot:=hM.row (i:=1) rfl rfl
  obtain rfl:v=e0.val:=ZgO hv rfl rfl
  obtain rfl:u4=e1.val:=ZgO c4 rfl rfl
  obtain ⟨qs,G,hF,hq,hR⟩:=Zox hrow
  have hfoot:foots [e0,e1]=e0.val.ownBlock.toList ++ (G ++ e1.foot):=by simp [foots,hF]
  have hnd:=hM.nodup
  rw [hfoot,List.nodup_append] at hnd
  have hin:∀ b ∈ G ++ e1.foot,b ∈ foots [e0,e1]:=fun b hb=>by rw [hfoot]; exact List.mem_append_right _ hb
  have hlen : @List.length ZbT qs=@List.length ZaM xs:=hR.len
  have hpre:List.length xs≤1048576:=hpre
  have hx:∀ b ∈ e0.val.ownBlock.toList,b ∉ X ++ (G ++ e1.foot):=fun b hb hm=>by
    exact Zws
  have hc:ZbL (X ++ (G ++ e1.foot)) W [] [] (.hs .no ZcL qs) e0.val:=Znh (t:=Zak) hq hx
  have hbq:Zxk W Zak b (b.1,b.2.1,b.2.2.1,e1.val) e1.foot:=⟨[],e1.foot,⟨rfl,rfl⟩,⟨[],e1.foot,⟨rfl,rfl⟩,⟨[],e1.foot,⟨rfl,rfl⟩,hrow1,rfl⟩,rfl⟩,rfl⟩
  refine (Ztg qs (b.1,b.2.1,b.2.2.1,e1.val) (by omega) (X ++ (G ++ e1.foot)) W [e0.val, .agg [u1,u2,u3,e1.val].toArray] (fun b hb=>(List.mem_append.1 hb).elim (hM.xsz b) (fun h=>hM.lt b (hin b h))) hgl.nil ⟨_,_,rfl,hc,_,_,rfl,⟨_,rfl,_,_,rfl,c1,_,_,rfl,c2,_,_,rfl,c3,_,_,rfl,⟨rfl,hone⟩,rfl⟩,rfl⟩).mono fun e W' h=>?_
  obtain ⟨u,E',he,hg,hm,hu⟩:=h
  have hp:posQ qs b.1=ZHq xs b.1:=Zrv qs xs b.1 (ZxH hR)
  obtain ⟨G1,G2,e2,q1,q2⟩:=hR.split (posQ qs b.1)
  have hqq:ZcD W Zak (Zm7 xs b) (ZHy qs (b.1,b.2.1,b.2.2.1,e1.val)) (G1 ++ (e1.foot ++ G2)):=by
    rw [Znn,← hp]
    exact q1.app ⟨e1.foot,G2,hbq,q2,rfl⟩
  have hperm:(G1 ++ (e1.foot ++ G2)).Perm (G ++ e1.foot):=by
    rw [e2,List.append_assoc]
    exact List.Perm.append_left _ List.perm_append_comm
  obtain ⟨E2,g2,m2,c2⟩:=ZEu (t:=Zak) (ts:=[Zak,ZaT]) (X2:=X ++ (G ++ e1.foot)) hM hg hm hu (fun b hb=>List.mem_append_left _ hb) hqq (hperm.nodup_iff.2 hnd.2.1) (fun b hb=>hin b (hperm.mem_iff.1 hb))
  exact ⟨u,E2,he,g2,(fun i l e hi=>by match i with | 0=>cases hi | 1=>cases hi | n + 2=>cases hi),(fun i hi=>by cases hi),m2,c2⟩
def ZBe:Zcd Tryz.prog:=⟨218,[(.g false (.list Zak)),(.g true Zak)],fun x=>ZJX x.1,fun x=>(x.1,x.2.1,()),fun x=>.c (.row 2 0),fun x=>[.row Zak (Zm7 x.1 x.2.1) 0 0 none],fun x hx=>ZBd x.1 x.2.1 hx,Tryz.call218⟩
end Go.Proofs.YtkompmgleojmlaaGreat
