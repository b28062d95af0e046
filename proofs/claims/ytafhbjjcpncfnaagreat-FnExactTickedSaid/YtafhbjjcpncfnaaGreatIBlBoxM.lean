import Derived.Test.YtafhbjjcpncfnaaGreatIBxPerf
import Derived.Test.YtafhbjjcpncfnaaGreatIBmQ
set_option linter.unusedSimpArgs false
set_option linter.unusedVariables false
set_option maxRecDepth 100000
set_option maxHeartbeats 4000000
namespace Go.Proofs.YtafhbjjcpncfnaaGreat
open Go.ChangeShapes Go.WideShapes Go.ChangeAt Go.RowKit Go.Joins Go.Deep
open GoRep (rep bulk)
abbrev ZHk (l:List Zce) (k:Nat):List Zce:=l.take k ++ l.drop (k + 1)
def posQ:List Zce→ByteArray→Nat
 | [],_=>0
 | x :: l,n=>if Zh4 x.1 n=true then posQ l n + 1 else 0
theorem ZtF:∀ (l:List Zce) (k:List ZaO) (n:ByteArray),l.map (·.1)=k.map (·.1)→posQ l n=ZLW k n
 | [],[],_,_=>rfl
 | [],_ :: _,_,h=>by simp at h
 | _ :: _,[],_,h=>by simp at h
 | x :: l,y :: k,n,h=>by
  simp only [List.map_cons,List.cons.injEq] at h
  unfold posQ ZLW
  rw [h.1,ZtF l k n h.2]
theorem ZHy:∀ (l:List Zce) (n:ByteArray),posQ l n≤l.length
 | [],_=>Nat.le_refl _
 | x :: l,n=>by
  unfold posQ
  have:=ZHy l n
  split <;> simp <;> omega
theorem ZHz:∀ (l:List Zce) (n:ByteArray) (j:Nat),j < posQ l n→Zh4 (Zd1 l j).1 n=true
 | [],_,_,h=>absurd h (Nat.not_lt_zero _)
 | x :: l,n,j,h=>by
  unfold posQ at h
  split at h
  ·rename_i hx
   cases j with
   | zero=>exact hx
   | succ j=>exact ZHz l n j (by omega)
  ·omega
theorem ZHA:∀ (l:List Zce) (n:ByteArray),posQ l n < l.length→Zh4 (Zd1 l (posQ l n)).1 n=false
 | [],_,h=>absurd h (Nat.not_lt_zero _)
 | x :: l,n,h=>by
  unfold posQ at h ⊢
  split
  ·rename_i hx
   rw [if_pos hx] at h
   exact ZHA l n (by simpa using h)
  ·rename_i hx
   have:Zh4 x.1 n=false:=by simpa using hx
   exact this
theorem ZHB {l:List Zce} {n:ByteArray} {k:Nat} (hk:k≤l.length) (h1:∀ j,j < k→Zh4 (Zd1 l j).1 n=true) (h2:k < l.length→Zh4 (Zd1 l k).1 n=false):k=posQ l n:=by
 rcases Nat.lt_trichotomy k (posQ l n) with h | h | h
 ·have:=ZHz l n k h
  have hp:=ZHy l n
  rw [h2 (by omega)] at this
  cases this
 ·exact h
 ·have:=h1 _ h
  rw [ZHA l n (by omega)] at this
  cases this
def ZO2 (qs:List Zce) (k:Int):Prop:=0≤k∧k < (List.length qs:Int)∧List.length qs≤1048576
def ZL3 (l:List Zce) (b:Zce):List Zce:=l.take (posQ l b.1) ++ b :: l.drop (posQ l b.1)
def ZiA (k:Int) (qs:List Zce):Prop:=(True∧List.length (([]:List Zce) ++ (List.drop (Int.toNat 0) (List.take k.toNat qs))) + List.length (List.drop (Int.toNat (w64 (k + 1))) (List.take qs.length qs))≤rowMax)∧True∧pt (((([]:List Zce) ++ (List.drop (Int.toNat 0) (List.take k.toNat qs))) ++ (List.drop (Int.toNat (w64 (k + 1))) (List.take qs.length qs)))=ZHk qs k.toNat)
def Zjt (k:Int) (qs:List Zce):Prop:=(4:Nat)=4∧(0:Int)≤(w64 (k + 1))∧((w64 (k + 1)):Int)≤(qs.length:Int)∧(qs.length:Int)≤(qs.length:Int)
def ZiB (k:Int) (qs:List Zce):Prop:=True∧List.length ([]:List Zce) + List.length (List.drop (Int.toNat 0) (List.take k.toNat qs))≤rowMax
def Zm2 (k:Int) (qs:List Zce):Prop:=(ZiB k qs∧Zjt k qs∧ZiA k qs)∧(Zjt k qs∧ZiB k qs∧ZiA k qs)
def Zlh (k:Int) (qs:List Zce):Prop:=(4:Nat)=4∧(0:Int)≤0∧(0:Int)≤k∧(k:Int)≤(qs.length:Int)
theorem ZlV (qs:List Zce) (k:Int) (hpre:ZO2 qs k):Zao Tryz.prog 197 [.c (.hs .no Zds qs), .c (.int .i64 k)] (.c (.row 0 0)) [.row Zds (ZHk qs (Int.toNat k)) 0 0 none]:=by
 refine bc0 [] [] [] [] L0 Tryz.func197 (fun hwf=>?_)
 refine Eq.mpr (β:=True∧pt (true=true)∧T4 ((True∧Zlh k qs∧(ZiB k qs∧True∧Zjt k qs∧ZiA k qs)∧(True∧Zm2 k qs))∧(Zlh k qs∧(True∧(ZiB k qs∧True∧Zjt k qs∧ZiA k qs)∧(True∧Zm2 k qs))∧(True∧(True∧Zm2 k qs)∧(Zjt k qs∧True∧ZiB k qs∧ZiA k qs)))∧(True∧(True∧Zlh k qs∧Zm2 k qs)∧(Zlh k qs∧(True∧Zm2 k qs)∧(Zjt k qs∧True∧ZiB k qs∧ZiA k qs))∧(Zjt k qs∧(True∧Zlh k qs∧ZiB k qs∧ZiA k qs)∧(Zlh k qs∧True∧ZiB k qs∧ZiA k qs))))) (by kernel_rfl) ?_
 unfold Zlh Zm2 ZiB Zjt ZiA T4
 obtain ⟨h0,h1,h2⟩:=hpre
 have w1:IntKind.wrap .i64 (k + 1)=k + 1:=ZaX (by omega) (by omega)
 have e1:Int.toNat (k + 1)=Int.toNat k + 1:=by omega
 have e2:List.take (Int.toNat (List.length qs:Int)) qs=qs:=by rw [Int.toNat_natCast,List.take_length]
 simp only [Zeg,eq_self]
 simp only [w1,e1,e2,List.nil_append,List.length_nil,Nat.zero_add,List.length_append,List.length_take,List.length_drop]
 repeat' (first | apply And.intro | intro _)
 all_goals first
  | trivial
  | omega
  | (unfold rowMax; omega)
  | (rw [List.take_length]; rfl)
def ZHC (qs:List Zce) (b:Zce):Nat→List AV→Mem→Zbd
 | 2,tm,M=>⟨Nat,fun y=>(Zcf (Zct tm [(5, .c (.int .i64 ((y:Nat):Int)))]) 7 16,M),fun y=>(y≤List.length qs∧∀ j,j < y→Zh4 (Zd1 qs j).1 b.1=true),fun y=>(List.length qs - y)⟩
 | _,_,_=>⟨Unit,fun _=>([],[]),fun _=>False,fun _=>0⟩
def ZgB (y0:Nat) (qs:List Zce) (b:Zce):Prop:=(True∧List.length (([]:List Zce) ++ (List.drop (Int.toNat 0) (List.take y0 qs))) + List.length ([b])≤rowMax)∧T4 (((4:Nat)=4∧(0:Int)≤(y0:Int)∧(y0:Int)≤(qs.length:Int)∧(qs.length:Int)≤(qs.length:Int))∧(True∧List.length ((([]:List Zce) ++ (List.drop (Int.toNat 0) (List.take y0 qs))) ++ [b]) + List.length (List.drop y0 (List.take qs.length qs))≤rowMax)∧True∧pt ((((([]:List Zce) ++ (List.drop (Int.toNat 0) (List.take y0 qs))) ++ [b]) ++ (List.drop y0 (List.take qs.length qs)))=ZL3 qs b))
def ZgC (y0:Nat) (qs:List Zce):Prop:=True∧List.length ([]:List Zce) + List.length (List.drop (Int.toNat 0) (List.take y0 qs))≤rowMax
def ZhK (y0:Nat) (qs:List Zce):Prop:=(4:Nat)=4∧(0:Int)≤0∧(0:Int)≤(y0:Int)∧(y0:Int)≤(qs.length:Int)
def Zli (y0:Nat) (qs:List Zce) (b:Zce):Prop:=(ZgC y0 qs∧True∧ZgB y0 qs b)∧(True∧ZgC y0 qs∧ZgB y0 qs b)
def ZA9 (y0:Nat) (qs:List Zce) (b:Zce):Prop:=pt (true=true)∧T2 ((True∧(ZhK y0 qs∧(ZgC y0 qs∧T2 (ZgB y0 qs b))∧(True∧Zli y0 qs b))∧(True∧(ZhK y0 qs∧Zli y0 qs b)∧(True∧ZhK y0 qs∧ZgC y0 qs∧ZgB y0 qs b)))∧(ZhK y0 qs∧(True∧(ZgC y0 qs∧T2 (ZgB y0 qs b))∧(True∧Zli y0 qs b))∧(True∧(True∧Zli y0 qs b)∧(T2 (ZgC y0 qs∧ZgB y0 qs b))))∧(True∧(True∧(ZhK y0 qs∧Zli y0 qs b)∧(True∧ZhK y0 qs∧ZgC y0 qs∧ZgB y0 qs b))∧(ZhK y0 qs∧(True∧Zli y0 qs b)∧(T2 (ZgC y0 qs∧ZgB y0 qs b)))∧(True∧(True∧ZhK y0 qs∧ZgC y0 qs∧ZgB y0 qs b)∧(ZhK y0 qs∧True∧ZgC y0 qs∧ZgB y0 qs b))))
theorem Zv4 (qs:List Zce) (b:Zce) (hpre:List.length qs≤1048576):Zao Tryz.prog 196 [.c (.hs .no Zds qs), .ag (cellsOf Zds b)] (.c (.row 0 0)) [.row Zds (ZL3 qs b) 0 0 none]:=by
 refine bc0 [] [] [] [] (ZHC qs b) Tryz.func196 (fun hwf=>?_)
 refine Eq.mpr (β:=T3 ((∃ q:Nat,(q≤qs.length∧∀ j,j < q→Zh4 (Zd1 qs j).1 b.1=true)∧lxs [hn Zds qs, .ag [.str b.1, .int .i64 b.2.1, .int .i64 b.2.2.1, .opq b.2.2.2], .tp [], .c (.bp 0 0), .c (.raw (.slice none 0 0))] (vI 0 q∧lxs [.tp []] (TN 16 (tpn 13 True)))∧pt (lb (.box [.str b.1, .int .i64 b.2.1, .int .i64 b.2.2.1, .opq b.2.2.2])∧True))∧∀ y0:Nat,(y0≤qs.length∧∀ j,j < y0→Zh4 (Zd1 qs j).1 b.1=true)→pt (true=true)∧T5 (bif ltI y0 qs.length then T2 (ix 4 y0 qs.length∧T6 (bif Op.bytesLess (Zd1 qs y0).1.toList b.1.toList then T3 (∃ y0' : Nat,(y0'≤qs.length∧∀ j,j < y0'→Zh4 (Zd1 qs j).1 b.1=true)∧(qs.length - y0') < (qs.length - y0)∧lxs [hn Zds qs, .ag [.str b.1, .int .i64 b.2.1, .int .i64 b.2.2.1, .opq b.2.2.2], .tp [], .c (.bp 0 0), .c (.raw (.slice none 0 0))] (vI (w64 ((y0:Int) + 1)) y0'∧lxs [.tp []] (TN 16 (tpn 13 True)))∧pt (lb (.box [.str b.1, .int .i64 b.2.1, .int .i64 b.2.2.1, .opq b.2.2.2])∧True)) else ZA9 y0 qs b)) else True∧ZA9 y0 qs b))) (by kernel_rfl) ?_
 unfold ZA9 Zli ZhK ZgC ZgB T2 T3 T4 T5 T6
 have hm:List.length qs≤1048576:=hpre
 have e2:List.take (Int.toNat (List.length qs:Int)) qs=qs:=by rw [Int.toNat_natCast,List.take_length]
 simp only [Zeg,eq_self]
 refine ⟨⟨0,⟨Nat.zero_le _,Za3⟩,rfl⟩,fun k hk=>⟨fun hlt=>⟨by omega,fun hp=>?_,fun hp=>?_⟩,fun hge=>?_⟩⟩
 ·exact ⟨k + 1,⟨by omega,ZaU hk.2 hp⟩,by omega,Zbs (by unfold maxLen; omega)⟩
 all_goals
  have e:k=posQ qs b.1:=ZHB hk.1 hk.2 (fun h=>by first | exact hp | (exfalso; omega))
  unfold ZL3
  rw [← e]
  simp only [List.nil_append,List.length_nil,List.length_cons,Nat.zero_add,List.length_append,List.length_take,List.length_drop,Int.toNat_zero,List.drop_zero]
  repeat' (first | apply And.intro | intro _)
  all_goals first
   | trivial
   | omega
   | (unfold rowMax; omega)
   | (rw [List.take_length,List.append_assoc]; rfl)
theorem ZBa {W:World} {xs:List ZaO} {qs:List Zce} {G:List Nat} (h:Zdc W Zaj xs qs G):qs.map (·.1)=xs.map (·.1) :=
 Zdc.map (t:=Zaj) (fun x:ZaO=>x.1) (fun q:Zce=>q.1) (fun x q F ⟨_,_,h1,_,_⟩=>h1.1.symm) h
theorem Zju {X:List Nat} {W:World} {E:Env} {b:Blk} (hM:RepM X W E [b]):∃ e,E=[e]:=by
 have hl:E.length=1:=by rw [← hM.len]; rfl
 match E,hl with
 | [e],_=>exact ⟨e,rfl⟩
theorem ZL4 {X:List Nat} {W:World} {E:Env} {b c:Blk} (hM:RepM X W E [b,c]):∃ e f,E=[e,f]:=by
 have hl:E.length=2:=by rw [← hM.len]; rfl
 match E,hl with
 | [e,f],_=>exact ⟨e,f,rfl⟩
theorem ZhL {W:World} {E:Env} {M:Mem} {X:List Nat} {i:Nat} {t:Ty} {xs:List t.den} {e:EB} {v:Value} (hv:Zb3 X W E M (.row i 0) v) (hi:M[i]?=some (.row t xs 0 0 none)) (he:E[i]?=some e):v=e.val:=by
 have h:=hv.2
 unfold Zcz at h
 rw [hi] at h
 obtain ⟨e',h1,h2⟩:=h.2 rfl
 obtain rfl:=Option.some.inj (he.symm.trans h1)
 exact h2
def ZM8 (xs:List ZaO) (k:Int):Prop:=0≤k∧k < (List.length xs:Int)∧List.length xs≤1048576
theorem ZrP (xs:List ZaO) (k:Int) (hpre:ZM8 xs k):Zep Tryz.prog 197 (Zd7 0 [(.g false (.list Zaj)),(.a (.v Zax))] (xs,k,())) (Zh3 0 [(.g false (.list Zaj)),(.a (.v Zax))] (xs,k,())) (Zfj 0 [(.g false (.list Zaj)),(.a (.v Zax))] (xs,k,()) ++ [.row Zaj (ZnE xs (Int.toNat k)) 0 0 none]) (inpM 0 [(.g false (.list Zaj)),(.a (.v Zax))]) (.c (.row 1 0)):=by
 intro X W E vs hgl hM hr
 have hM:RepM X W E [.row Zaj xs 0 0 none]:=hM
 obtain ⟨v,r,rfl,hv,hr2⟩:=hr
 obtain ⟨kv,r3,rfl,hk,hn⟩:=hr2
 obtain rfl:r3=[]:=hn
 obtain ⟨e0,rfl⟩:=Zju hM
 have hv:Zb3 X W [e0] [.row Zaj xs 0 0 none] (.row 0 0) v:=hv
 have hrow:Zcj W (Zbv W Zaj) Zaj.n xs e0.val e0.foot:=hM.row (i:=0) rfl rfl
 obtain rfl:v=e0.val:=ZhL hv rfl rfl
 obtain ⟨qs,G,hF,hq,hR⟩:=ZqS hrow
 have hfoot:foots [e0]=e0.val.ownBlock.toList ++ G:=by simp [foots,hF]
 have hnd:=hM.nodup
 rw [hfoot,List.nodup_append] at hnd
 have hin:∀ b ∈ G,b ∈ foots [e0]:=fun b hb=>by rw [hfoot]; exact List.mem_append_right _ hb
 have hlen : @List.length Zce qs=@List.length ZaO xs:=hR.len
 obtain ⟨p0,p1,p2⟩:=hpre
 have hx:∀ b ∈ e0.val.ownBlock.toList,b ∉ X ++ G:=fun b hb hm=>by
  exact ZzO
 have hc:Zb3 (X ++ G) W [] [] (.hs .no Zds qs) e0.val:=ZoR (t:=Zaj) hq hx
 refine (ZlV qs k ⟨p0,by omega,by omega⟩ (X ++ G) W [e0.val,kv] (fun b hb=>(List.mem_append.1 hb).elim (hM.xsz b) (fun h=>hM.lt b (hin b h))) hgl.nil ⟨_,_,rfl,hc,_,_,rfl,hk,rfl⟩).mono fun e W' h=>?_
 obtain ⟨u,E',he,hg,hm,hu⟩:=h
 obtain ⟨G1,Gd,G3,e1,hqq⟩:=hR.out (Int.toNat k)
 obtain ⟨E2,g2,m2,c2⟩:=ZI7 (t:=Zaj) (ts:=[Zaj]) (X2:=X ++ G) hM hg hm hu (fun b hb=>List.mem_append_left _ hb) hqq (by
  have hn2:=hnd.2.1
  rw [e1,List.nodup_append] at hn2
  have hn3:=hn2.2.1
  rw [List.nodup_append] at hn3
  rw [List.nodup_append]
  exact ⟨hn2.1,hn3.2.1,fun a ha b hb=>hn2.2.2 a ha b (List.mem_append_right _ hb)⟩) (fun b hb=>hin b (by
  rw [e1]
  rcases List.mem_append.1 hb with hb | hb
  ·exact Zkf
  ·exact List.mem_append_right _ (List.mem_append_right _ hb)))
 exact ⟨u,E2,he,g2,(fun i l e hi=>by match i with | 0=>cases hi | n + 1=>cases hi),(fun i hi=>by cases hi),m2,c2⟩
def ZrQ:Zdb Tryz.prog:=⟨197,[(.g false (.list Zaj)),(.a (.v Zax))],fun x=>ZM8 x.1 x.2.1,fun x=>(x.1,x.2.1,()),fun x=>.c (.row 1 0),fun x=>[.row Zaj (ZnE x.1 (Int.toNat x.2.1)) 0 0 none],fun x hx=>ZrP x.1 x.2.1 hx,Tryz.call197⟩
def ZOE (xs:List ZaO):Prop:=List.length xs≤1048576
theorem ZFj (xs:List ZaO) (b:ZaO) (hpre:ZOE xs):Zep Tryz.prog 196 (Zd7 0 [(.g false (.list Zaj)),(.g true Zaj)] (xs,b,())) (Zh3 0 [(.g false (.list Zaj)),(.g true Zaj)] (xs,b,())) (Zfj 0 [(.g false (.list Zaj)),(.g true Zaj)] (xs,b,()) ++ [.row Zaj (Zoz xs b) 0 0 none]) (inpM 0 [(.g false (.list Zaj)),(.g true Zaj)]) (.c (.row 2 0)):=by
 intro X W E vs hgl hM hr
 have hM:RepM X W E [.row Zaj xs 0 0 none, .row ZaR b.2.2.2 0 0 none]:=hM
 obtain ⟨v,r,rfl,hv,hr2⟩:=hr
 obtain ⟨bv,r3,rfl,hb,hn⟩:=hr2
 obtain rfl:r3=[]:=hn
 obtain ⟨e0,e1,rfl⟩:=ZL4 hM
 have hv:Zb3 X W [e0,e1] [.row Zaj xs 0 0 none, .row ZaR b.2.2.2 0 0 none] (.row 0 0) v:=hv
 obtain ⟨cs,rfl,u1,s1,rfl,c1,u2,s2,rfl,c2,u3,s3,rfl,c3,u4,s4,rfl,c4,hs4⟩:=hb
 obtain rfl:s4=[]:=hs4
 have c4:Zb3 X W [e0,e1] [.row Zaj xs 0 0 none, .row ZaR b.2.2.2 0 0 none] (.row 1 0) u4:=c4
 have hone:=Zb3.one c4
 have hrow:Zcj W (Zbv W Zaj) Zaj.n xs e0.val e0.foot:=hM.row (i:=0) rfl rfl
 have hrow1:Zcj W (Zbv W ZaR) ZaR.n b.2.2.2 e1.val e1.foot:=hM.row (i:=1) rfl rfl
 obtain rfl:v=e0.val:=ZhL hv rfl rfl
 obtain rfl:u4=e1.val:=ZhL c4 rfl rfl
 obtain ⟨qs,G,hF,hq,hR⟩:=ZqS hrow
 have hfoot:foots [e0,e1]=e0.val.ownBlock.toList ++ (G ++ e1.foot):=by simp [foots,hF]
 have hnd:=hM.nodup
 rw [hfoot,List.nodup_append] at hnd
 have hin:∀ b ∈ G ++ e1.foot,b ∈ foots [e0,e1]:=fun b hb=>by rw [hfoot]; exact List.mem_append_right _ hb
 have hlen : @List.length Zce qs=@List.length ZaO xs:=hR.len
 have hpre:List.length xs≤1048576:=hpre
 have hx:∀ b ∈ e0.val.ownBlock.toList,b ∉ X ++ (G ++ e1.foot):=fun b hb hm=>by
  exact ZzO
 have hc:Zb3 (X ++ (G ++ e1.foot)) W [] [] (.hs .no Zds qs) e0.val:=ZoR (t:=Zaj) hq hx
 have hbq:ZAO W Zaj b (b.1,b.2.1,b.2.2.1,e1.val) e1.foot:=⟨[],e1.foot,⟨rfl,rfl⟩,⟨[],e1.foot,⟨rfl,rfl⟩,⟨[],e1.foot,⟨rfl,rfl⟩,hrow1,rfl⟩,rfl⟩,rfl⟩
 refine (Zv4 qs (b.1,b.2.1,b.2.2.1,e1.val) (by omega) (X ++ (G ++ e1.foot)) W [e0.val, .agg [u1,u2,u3,e1.val].toArray] (fun b hb=>(List.mem_append.1 hb).elim (hM.xsz b) (fun h=>hM.lt b (hin b h))) hgl.nil ⟨_,_,rfl,hc,_,_,rfl,⟨_,rfl,_,_,rfl,c1,_,_,rfl,c2,_,_,rfl,c3,_,_,rfl,⟨rfl,hone⟩,rfl⟩,rfl⟩).mono fun e W' h=>?_
 obtain ⟨u,E',he,hg,hm,hu⟩:=h
 have hp:posQ qs b.1=ZLW xs b.1:=ZtF qs xs b.1 (ZBa hR)
 obtain ⟨G1,G2,e2,q1,q2⟩:=hR.split (posQ qs b.1)
 have hqq:Zdc W Zaj (Zoz xs b) (ZL3 qs (b.1,b.2.1,b.2.2.1,e1.val)) (G1 ++ (e1.foot ++ G2)):=by
  rw [ZoV,← hp]
  exact q1.app ⟨e1.foot,G2,hbq,q2,rfl⟩
 have hperm:(G1 ++ (e1.foot ++ G2)).Perm (G ++ e1.foot):=by
  rw [e2,List.append_assoc]
  exact List.Perm.append_left _ List.perm_append_comm
 obtain ⟨E2,g2,m2,c2⟩:=ZI7 (t:=Zaj) (ts:=[Zaj,ZaR]) (X2:=X ++ (G ++ e1.foot)) hM hg hm hu (fun b hb=>List.mem_append_left _ hb) hqq (hperm.nodup_iff.2 hnd.2.1) (fun b hb=>hin b (hperm.mem_iff.1 hb))
 exact ⟨u,E2,he,g2,(fun i l e hi=>by match i with | 0=>cases hi | 1=>cases hi | n + 2=>cases hi),(fun i hi=>by cases hi),m2,c2⟩
def ZFk:Zdb Tryz.prog:=⟨196,[(.g false (.list Zaj)),(.g true Zaj)],fun x=>ZOE x.1,fun x=>(x.1,x.2.1,()),fun x=>.c (.row 2 0),fun x=>[.row Zaj (Zoz x.1 x.2.1) 0 0 none],fun x hx=>ZFj x.1 x.2.1 hx,Tryz.call196⟩
end Go.Proofs.YtafhbjjcpncfnaaGreat
