import Derived.Test.YtafhbjjcpncfnaaGreatIBlApd
import Derived.Deep.RegionLaw
import Derived.Deep.RegionWith
import Derived.WalkKit
set_option linter.unusedSimpArgs false
set_option linter.unusedVariables false
namespace Go.Proofs.YtafhbjjcpncfnaaGreat
open Go.Lib Go.ChangeShapes Go.WideShapes Go.ChangeAt Go.RowKit Go.Joins Go.Deep
open GoRep (rep bulk)
theorem Zkj (W:World) (o:Obj):ZbU W [] (W.alloc o) [] where
 os:=rfl
 tape:=rfl
 output:=rfl
 size:=by show W.heap.size≤(W.heap.push o).size; rw [Array.size_push]; omega
 keep b hb _:=by
  show (W.heap.push o)[b]?=_
  rw [Array.getElem?_push,if_neg (by omega)]
 new b hb:=by simp [foots] at hb
 blk i e he:=by simp at he
theorem Ztu {W W' : World} {E' : Env} (h:ZbU W [] W' E'):ZbU W [] W' []:=⟨h.os,h.tape,h.output,h.size,h.keep,fun b hb=>by simp [foots] at hb,fun i e he=>by simp at he⟩
theorem ZAP {X:List Nat} {W:World} {E:Env} (h:RepM X W E []):E=[]:=List.length_eq_zero_iff.1 h.len.symm
theorem ZnH (W W' : World) (E' : Env):Zbq W [] [] W' E' []:=fun i=>by simp
theorem ZcQ {W:World} {b o:Nat} {cur:Array Value} {T:TypeId} {v:Value} (h:W.heap[b]?=some (.cells cur T (0,0))) (hv:cur[o]?=some v):W.cell? ⟨b,o,none⟩=some v:=by
 rw [cell_of_row W b _ cur T (0,0) h]
 simpa using hv
theorem ZLF {x:Int} (h1 : -9223372036854775808≤x) (h2:x≤9223372036854775807):(Lit.int .i64 x).wf=true:=by
 rw [Zqe]
 have hmm:IntKind.i64.min=-9223372036854775808∧IntKind.i64.max=9223372036854775807:=by decide
 omega
theorem ZL0 {qs:List Zce} {l:List ZaO} {k:Nat} (h : @List.length Zce qs=@List.length ZaO l) (hl:l.length≤4):List.length (ZHk qs k)≤1048576:=by
 have:List.length (ZHk qs k)≤@List.length Zce qs:=by
  exact Zrz
 omega
theorem ZL1 {X:List Nat} {W:World} {e:EB} {rs:List Zce} (m:RepM X W [e] [.row Zds rs 0 0 none]):Zb3 X W [] [] (.hs .no Zds rs) e.val:=by
 obtain ⟨T6,c6,G6,r1,r2,r3⟩:Zcj W (Zbv W Zds) Zds.n rs e.val e.foot:=m.row (i:=0) rfl rfl
 have h6:G6=[]:=Zb0.flat (t:=Zds) rfl r2
 subst h6
 refine ZoR (t:=Zaj) ⟨T6,c6,[],r1,r2,by simp⟩ (fun b hb hm=>m.xlt b hm ?_)
 have:foots [e]=e.val.ownBlock.toList:=by simp [foots,r3]
 rw [this]
 exact hb
theorem Zdc.at {W:World} {t:Ty}:∀ (k:Nat) {xs:List t.den} {qs:List t.quo.den} {G:List Nat} {x:t.den} {q:t.quo.den},Zdc W t xs qs G→xs[k]?=some x→qs[k]?=some q →
 ∃ Ga Gd Gb,G=Ga ++ (Gd ++ Gb)∧ZAO W t x q Gd∧Zdc W t (xs.take k ++ xs.drop (k + 1)) (qs.take k ++ qs.drop (k + 1)) (Ga ++ Gb)
 | _,[],_,_,_,_,_,h,_=>by simp at h
 | _,_ :: _,[],_,_,_,h,_,_=>h.elim
 | 0,y :: ys,p :: ps,_,x,q,⟨G1,G2,h1,h2,e⟩,hx,hq=>by
  obtain rfl:y=x:=by simpa using hx
  obtain rfl:p=q:=by simpa using hq
  exact ⟨[],G1,G2,e,h1,by simpa using h2⟩
 | k + 1,y :: ys,p :: ps,_,x,q,⟨G1,G2,h1,h2,e⟩,hx,hq=>by
  obtain ⟨Ga,Gd,Gb,e2,h3,h4⟩:=Zdc.at k h2 (by simpa using hx) (by simpa using hq)
  refine ⟨G1 ++ Ga,Gd,Gb,by rw [e,e2,List.append_assoc],h3,⟨G1,Ga ++ Gb,h1,?_,by rw [List.append_assoc]⟩⟩
  simpa using h4
theorem ZL2 {X X7:List Nat} {W W2 W7:World} {e2 e7:EB} {l:List ZaO} {qs:List Zce} {Ga Gd Gb:List Nat} {b:ZaO} {qv:Value} {k:Nat}
 (m2:RepM X W2 [e2] [.row Zaj l 0 0 none]) (g2:ZbU W [] W2 [e2]) (hF:e2.foot=e2.val.ownBlock.toList ++ (Ga ++ (Gd ++ Gb)))
 (ho:Zdc W2 Zaj (ZnE l k) (ZHk qs k) (Ga ++ Gb)) (hb:ZAO W2 Zaj b (b.1,b.2.1,b.2.2.1,qv) Gd)
 (g7:ZbU W2 [] W7 [e7]) (m7:RepM X7 W7 [e7] [.row Zds (ZL3 (ZHk qs k) (b.1,b.2.1,b.2.2.1,qv)) 0 0 none]) (h7:Zb3 X7 W7 [e7] [.row Zds (ZL3 (ZHk qs k) (b.1,b.2.1,b.2.2.1,qv)) 0 0 none] (.row 0 0) e7.val) (hX:∀ b ∈ X,b ∈ X7) :
 ∃ E2,ZbU W [] W7 E2∧RepM X W7 E2 [.row Zaj (Zoz (ZnE l k) b) 0 0 none]∧Zb3 X W7 E2 [.row Zaj (Zoz (ZnE l k) b) 0 0 none] (.row 0 0) e7.val:=by
 have hfoot:foots [e2]=e2.val.ownBlock.toList ++ (Ga ++ (Gd ++ Gb)):=by simp [foots,hF]
 have hnd:=m2.nodup
 rw [hfoot,List.nodup_append] at hnd
 have hp:posQ (ZHk qs k) b.1=ZLW (ZnE l k) b.1:=ZtF (ZHk qs k) (ZnE l k) b.1 (ZBa ho)
 obtain ⟨G1,G2,eo,q1,q2⟩:=ho.split (posQ (ZHk qs k) b.1)
 have hqq:Zdc W2 Zaj (Zoz (ZnE l k) b) (ZL3 (ZHk qs k) (b.1,b.2.1,b.2.2.1,qv)) (G1 ++ (Gd ++ G2)):=by
  rw [ZoV,← hp]
  exact q1.app ⟨Gd,G2,hb,q2,rfl⟩
 have hperm:(G1 ++ (Gd ++ G2)).Perm (Ga ++ (Gd ++ Gb)):=by
  have h1:(G1 ++ (Gd ++ G2)).Perm (Gd ++ (G1 ++ G2)):=by
   exact ZAb
  have h2:(Ga ++ (Gd ++ Gb)).Perm (Gd ++ (Ga ++ Gb)):=by
   exact ZAb
  rw [← eo] at h1
  exact h1.trans h2.symm
 obtain ⟨E2,x2,mm,cc⟩:=ZI7 (t:=Zaj) (ts:=[]) (X2:=X7) m2 g7 m7 h7 hX hqq (hperm.nodup_iff.2 hnd.2.1) (fun b hb=>by rw [hfoot]; exact List.mem_append_right _ (hperm.mem_iff.1 hb))
 have hge:∀ b ∈ foots [e2],W.heap.size≤b:=fun b hb=>(g2.new b hb).resolve_left (by simp [foots])
 exact ⟨E2,⟨x2.os.trans g2.os,x2.tape.trans g2.tape,x2.output.trans g2.output,Nat.le_trans g2.size x2.size,
  fun b hb hn=>(x2.keep b (Nat.lt_of_lt_of_le hb g2.size) (fun hm=>by have:=hge b hm; omega)).trans (g2.keep b hb hn),
  fun b hb=>.inr ((x2.new b hb).elim (hge b) (fun h=>Nat.le_trans g2.size h)),fun i e he=>by simp at he⟩,mm,cc⟩
set_option maxHeartbeats 4000000 in
theorem Ztv (l:List ZaO) (m:ZaA) (hs:ZbZ l) (ha:ZfP l m=true) (h3:m.1=3):Zao Tryz.prog 146 [.c (.hs .no Zaj l), .ag [.int .i64 m.1, .int .i64 m.2.1, .int .i64 m.2.2.1, .int .i64 m.2.2.2.1, .str m.2.2.2.2.1, .str m.2.2.2.2.2]] (.tp [.c (.row 0 0), .c (.bool (ZfP l m))]) [.row Zaj (apB l m) 0 0 none]:=by
 intro X W vs hsz hgl hr
 obtain ⟨lv,r,rfl,hl,mv,r2,rfl,hm,hn⟩:=hr
 obtain rfl:r2=[]:=hn
 obtain ⟨cs,rfl,u1,s1,rfl,c1,u2,s2,rfl,c2,u3,s3,rfl,c3,u4,s4,rfl,c4,u5,s5,rfl,c5,u6,s6,rfl,c6,hs6⟩:=hm
 obtain rfl:s6=[]:=hs6
 obtain ⟨rfl,q1⟩:=c1
 obtain ⟨rfl,q2⟩:=c2
 obtain ⟨rfl,q3⟩:=c3
 obtain ⟨rfl,q4⟩:=c4
 obtain ⟨rfl,q5⟩:=c5
 obtain ⟨rfl,q6⟩:=c6
 show Calls _ _ #[lv, .agg #[.int .i64 m.1, .int .i64 m.2.1, .int .i64 m.2.2.1, .int .i64 m.2.2.2.1, .string m.2.2.2.2.1, .string m.2.2.2.2.2]] W _
 rw [h3]
 go_enter Tryz.func146,Tryz.ntmps146
 go_wp2_with fail
 obtain ⟨C,hC⟩:∃ C:Array Value,C=#[.int .i64 3, .int .i64 m.2.1, .int .i64 m.2.2.1, .int .i64 m.2.2.2.1, .string m.2.2.2.2.1, .string m.2.2.2.2.2]:=⟨_,rfl⟩
 rw [← hC]
 obtain ⟨W1,hW1⟩:∃ W1,W1=W.alloc (.cells C 127 (0,0)):=⟨_,rfl⟩
 obtain ⟨b0,hb0⟩:∃ b0,b0=W.heap.size:=⟨_,rfl⟩
 have g1:ZbU W [] W1 []:=by rw [hW1]; exact Zkj W _
 have k1:W1.heap[b0]?=some (.cells C 127 (0,0)):=by
  rw [hW1,hb0]
  show (W.heap.push _)[W.heap.size]?=_
  rw [Array.getElem?_push,if_pos rfl]
 have z1:b0 < W1.heap.size:=(Array.getElem?_eq_some_iff.1 k1).1
 rw [← hb0,← hW1]
 refine (ZnI l hs X W1 [lv] (fun b hb=>Nat.lt_of_lt_of_le (hsz b hb) g1.size) (hgl.grow g1) ⟨_,_,rfl,hl.mono g1 (ZnH _ _ _) rfl,rfl⟩).mono fun e W2 h=>?_
 obtain ⟨v2,E2,rfl,g2,m2,hv2⟩:=h
 obtain ⟨e2,rfl⟩:=Zju m2
 obtain rfl:v2=e2.val:=ZhL (show Zb3 X W2 [e2] _ (.row 0 0) v2 from hv2) rfl rfl
 have hfit:=Zkb.1 (Ziv ha).2.2.2.2
 have hw:=Zri l m.2.1
 obtain ⟨k,hk⟩:∃ k:Nat,boxW l m.2.1=(k:Int):=⟨(boxW l m.2.1).toNat,by omega⟩
 have hkl:k < l.length:=by omega
 obtain ⟨qs,G,hF,hq,hR⟩:=ZqS (t:=Zaj) (show Zcj W2 (Zbv W2 Zaj) Zaj.n l e2.val e2.foot from m2.row (i:=0) rfl rfl)
 obtain ⟨T,cells,Gz,w1,w2,w3⟩:=id hq
 have hlen : @List.length Zce qs=@List.length ZaO l:=hR.len
 have w1:W2.ownsRow 0 T 4 e2.val (@List.length Zce qs) cells:=w1
 rw [hlen] at w1
 have k2:W2.heap[b0]?=some (.cells C 127 (0,0)):=(g2.keep b0 z1 (by simp [foots])).trans k1
 have z2:b0 < W2.heap.size:=Nat.lt_of_lt_of_le z1 g2.size
 have l0:W2.cell? ⟨b0,0,none⟩=some (.int .i64 3):=ZcQ k2 (by rw [hC]; rfl)
 have l1:W2.cell? ⟨b0,1,none⟩=some (.int .i64 m.2.1):=ZcQ k2 (by rw [hC]; rfl)
 have l2:W2.cell? ⟨b0,2,none⟩=some (.int .i64 m.2.2.1):=ZcQ k2 (by rw [hC]; rfl)
 have l3:W2.cell? ⟨b0,3,none⟩=some (.int .i64 m.2.2.2.1):=ZcQ k2 (by rw [hC]; rfl)
 have l4:W2.cell? ⟨b0,4,none⟩=some (.string m.2.2.2.2.1):=ZcQ k2 (by rw [hC]; rfl)
 have l5:W2.cell? ⟨b0,5,none⟩=some (.string m.2.2.2.2.2):=ZcQ k2 (by rw [hC]; rfl)
 rcases w1.2 with ⟨_,j2⟩ | ⟨g,cap,cur,j1,j2,j3,j4,j5,j6,j7⟩
 ·exact absurd j2 (show l.length ≠ 0 by omega)
 rw [j1]
 have hg2:g < W2.heap.size:=(Array.getElem?_eq_some_iff.1 j3).1
 have hxk:l[k]?=some (Zab l k):=Zat (t:=Zaj) hkl
 have hqk:qs[k]?=some (Zd1 qs k):=Zat (t:=Zds) (show k < @List.length Zce qs by omega)
 obtain ⟨Ga,Gd,Gb,eG,hqd,hqo⟩:=hR.at k hxk hqk
 obtain ⟨F1,F2,⟨n1,rfl⟩,⟨F3,F4,⟨n2,rfl⟩,⟨F5,F6,⟨n3,rfl⟩,hms,rfl⟩,rfl⟩,rfl⟩:=id hqd
 obtain ⟨A,c,hA⟩:∃ A c,(Zd1 qs k).2.2.2=.slice A (Zab l k).2.2.2.length c:=by
  obtain ⟨Tm,cm,Gm,r1,r2,r3⟩:=hms
  obtain ⟨A,c,r4,_⟩:=Zg4 (t:=ZaR) r1
  exact ⟨A,c,r4⟩
 obtain ⟨c0,cx,cy,G0,G1,G2,y1,y2,y3,y4,y5,y6⟩:=w2.split (n:=4) (fun x cs F h=>Zbv.len Zds h) k hqk
 obtain ⟨ca,cb,Fa,Fb,⟨rfl,-,rfl⟩,⟨cc,cd,Fc,Fd,⟨rfl,-,rfl⟩,⟨ce,cf,Fe,Ff,⟨rfl,-,rfl⟩,⟨rfl,-,rfl⟩,rfl,rfl⟩,rfl,rfl⟩,rfl,rfl⟩:=y5
 have y3:c0.length=k * 4:=y3
 have m1:(Zab l k).1=(Zd1 qs k).1:=n1
 have m2' : (Zab l k).2.1=(Zd1 qs k).2.1:=n2
 have m3:(Zab l k).2.2.1=(Zd1 qs k).2.2.1:=n3
 have hcur:∀ q u,q < 4→[Value.string (Zab l k).1, .int .i64 (Zab l k).2.1, .int .i64 (Zab l k).2.2.1, .slice A (Zab l k).2.2.2.length c][q]?=some u→W2.cell? ⟨g,k * 4 + q,none⟩=some u:=fun q u hq hu=>by
  have h1:(cur.toList.take (l.length * 4))[k * 4 + q]?=some u:=by
   rw [m1,m2',m3,← hA] at hu
   rw [show List.take (l.length * 4) cur.toList=cells from j7,y1,List.append_assoc,List.getElem?_append_right (by omega),y3,Nat.add_sub_cancel_left,List.getElem?_append_left (by show q < 4; exact hq)]
   exact hu
  rw [List.getElem?_take] at h1
  split at h1
  ·exact ZcQ j3 (by simpa using h1)
  ·cases h1
 have H1:=Lib.hid hC
 have H2:=Lib.hid hW1
 have H3:=Lib.hid hb0
 have H4:=Lib.hid w1
 have H5:=Lib.hid w2
 have H6:=Lib.hid w3
 have H7:=Lib.hid k2
 have H8:=Lib.hid m2
 clear hC hW1 hb0 w1 w2 w3 k2 m2 hv2 k1
 have H9:=Lib.hid hcur
 have H10:=Lib.hid hqd
 have H13:=Lib.hid hqo
 have H14:=Lib.hid hq
 have H15:=Lib.hid hF
 have H16:=Lib.hid eG
 have H17:=Lib.hid hms
 have H18:=Lib.hid hA
 have H19:=Lib.hid j1
 have H20:=Lib.hid hlen
 have H21:=Lib.hid n1
 have H22:=Lib.hid n2
 have H23:=Lib.hid n3
 have H11:=Lib.hid j3
 have H12:=Lib.hid hfit
 clear hcur j3 hfit j2 j4 j5 j6 j7 y1 y3 y4 y6 hqd hqo hq hF eG hms hA hR n1 n2 n3 m1 m2' m3
 go_wp2_with fail
 have g3:=Ztu (g1.trans g2)
 refine (Zo0 l m X W2 [lv,_] (fun b hb=>Nat.lt_of_lt_of_le (hsz b hb) g3.size) (hgl.grow g3) ⟨_,_,rfl,hl.mono g3 (ZnH _ _ _) rfl,_,_,rfl,⟨_,rfl,_,_,rfl,⟨by rw [h3],q1⟩,_,_,rfl,⟨rfl,q2⟩,_,_,rfl,⟨rfl,q3⟩,_,_,rfl,⟨rfl,q4⟩,_,_,rfl,⟨rfl,q5⟩,_,_,rfl,⟨rfl,q6⟩,rfl⟩,rfl⟩).mono fun e W3 h=>?_
 obtain ⟨v3,E3,rfl,g4,m3,hv3⟩:=h
 obtain rfl:=ZAP m3
 obtain rfl:v3=.bool (ZfP l m):=hv3
 rw [ha]
 clear m3 l0 l1 l2 l3 l4 l5
 have k3:W3.heap[b0]?=some (.cells C 127 (0,0)):=(g4.keep b0 z2 (by simp [foots])).trans H7.out
 have z3:b0 < W3.heap.size:=Nat.lt_of_lt_of_le z2 g4.size
 have l1:W3.cell? ⟨b0,1,none⟩=some (.int .i64 m.2.1):=ZcQ k3 (by rw [H1.out]; rfl)
 have K3:=Lib.hid k3
 clear k3
 go_wp2_with fail
 have g5:=g3.trans g4
 refine (Zls l m.2.1 X W3 [lv,_] (fun b hb=>Nat.lt_of_lt_of_le (hsz b hb) g5.size) (hgl.grow g5) ⟨_,_,rfl,hl.mono g5 (ZnH _ _ _) rfl,_,_,rfl,⟨rfl,q2⟩,rfl⟩).mono fun e W4 h=>?_
 obtain ⟨v4,E4,rfl,g6,m4,hv4⟩:=h
 obtain rfl:=ZAP m4
 have hkw:(Lit.int .i64 (boxW l m.2.1)).wf=true:=hv4.2
 obtain rfl:v4=.int .i64 (boxW l m.2.1):=hv4.1
 rw [hk] at hkw
 rw [hk]
 clear m4 l1
 have k4:W4.heap[b0]?=some (.cells C 127 (0,0)):=(g6.keep b0 z3 (by simp [foots])).trans K3.out
 have z4:b0 < W4.heap.size:=Nat.lt_of_lt_of_le z3 g6.size
 have l0:W4.cell? ⟨b0,0,none⟩=some (.int .i64 3):=ZcQ k4 (by rw [H1.out]; rfl)
 have l4:W4.cell? ⟨b0,4,none⟩=some (.string m.2.2.2.2.1):=ZcQ k4 (by rw [H1.out]; rfl)
 have K4:=Lib.hid k4
 have g7:ZbU W2 [] W4 []:=g4.trans g6
 have n0:W4.cell? ⟨g,k * 4,none⟩=some (.string (Zab l k).1):=(Zdo (g7.keep g hg2 (by simp [foots]))).trans (H9.out 0 _ (by omega) rfl)
 have n1:W4.cell? ⟨g,k * 4 + 1,none⟩=some (.int .i64 (Zab l k).2.1):=(Zdo (g7.keep g hg2 (by simp [foots]))).trans (H9.out 1 _ (by omega) rfl)
 have n2:W4.cell? ⟨g,k * 4 + 2,none⟩=some (.int .i64 (Zab l k).2.2.1):=(Zdo (g7.keep g hg2 (by simp [foots]))).trans (H9.out 2 _ (by omega) rfl)
 have n3:W4.cell? ⟨g,k * 4 + 3,none⟩=some (.slice A (Zab l k).2.2.2.length c):=(Zdo (g7.keep g hg2 (by simp [foots]))).trans (H9.out 3 _ (by omega) rfl)
 have i0:(0:Int)≤(k:Int):=by omega
 have i1:(k:Int) < (l.length:Int):=by omega
 clear k4
 go_wp2_with fail
 obtain ⟨D,hD⟩:∃ D:Array Value,D=#[.string m.2.2.2.2.1, .int .i64 (Zab l k).2.1, .int .i64 (Zab l k).2.2.1, .slice A (Zab l k).2.2.2.length c]:=⟨_,rfl⟩
 obtain ⟨bB,hbB⟩:∃ bB,bB=W4.heap.size:=⟨_,rfl⟩
 obtain ⟨W5,hW5⟩:∃ W5,W5=W4.alloc (.cells D 138 (0,0)):=⟨_,rfl⟩
 have g8:ZbU W4 [] W5 []:=by rw [hW5]; exact Zkj W4 _
 have k5:W5.heap[bB]?=some (.cells D 138 (0,0)):=by
  rw [hW5,hbB]
  show (W4.heap.push _)[W4.heap.size]?=_
  rw [Array.getElem?_push,if_pos rfl]
 rw [← hD,← hbB,← hW5]
 have wfs:(Lit.int .i64 (Zab l k).2.1).wf=true∧(Lit.int .i64 (Zab l k).2.2.1).wf=true:=by
  have:=Zhg.1 ((Ziv ha).2.2.1 k hkl)
  exact ⟨ZLF (by omega) (by omega),ZLF (by omega) (by omega)⟩
 have mixed:Tryz.prog.follows .mixedOrders=true:=by decide
 have gd:ZbU W5 [] W5.drew []:=⟨rfl,rfl,rfl,Nat.le_refl _,fun _ _ _=>rfl,fun b hb=>by simp [foots] at hb,fun i e he=>by simp at he⟩
 have g9:ZbU W2 [] W5.drew []:=(g7.trans g8).trans gd
 have g10:ZbU W [] W5.drew []:=g3.trans g9
 have hfoot:foots [e2]=e2.val.ownBlock.toList ++ G:=by simp [foots,H15.out]
 have hnd:=H8.out.nodup
 rw [hfoot,List.nodup_append] at hnd
 have hin:∀ b ∈ G,b ∈ foots [e2]:=fun b hb=>by rw [hfoot]; exact List.mem_append_right _ hb
 have hX:∀ b ∈ X ++ G,b < W5.drew.heap.size:=fun b hb=>(List.mem_append.1 hb).elim (fun h=>Nat.lt_of_lt_of_le (hsz b h) g10.size) (fun h=>Nat.lt_of_lt_of_le (H8.out.lt b (hin b h)) g9.size)
 have hc2:Zb3 (X ++ G) W2 [] [] (.hs .no Zds qs) e2.val:=ZoR (t:=Zaj) H14.out (fun b hb hm=>by
  rcases List.mem_append.1 hm with hm | hm
  ·exact H8.out.xlt b hm (by rw [hfoot]; exact List.mem_append_left _ hb)
  ·exact hnd.2.2 b hb b hm rfl)
 have hc5:Zb3 (X ++ G) W5.drew [] [] (.hs .no Zds qs) (.slice (some ⟨g,0,none⟩) l.length cap):=by
  rw [← H19.out]
  exact Zb3.mono g9 (ZnH _ _ _) rfl hc2
 have hl4:=(Ziv ha).2.1
 have hpre:ZO2 qs (k:Int):=⟨i0,by rw [H20.out]; exact i1,by rw [H20.out]; omega⟩
 have zB:bB < W5.drew.heap.size:=(Array.getElem?_eq_some_iff.1 k5).1
 have p0:W5.drew.cell? ⟨bB,0,none⟩=some (.string m.2.2.2.2.1):=ZcQ (W:=W5.drew) k5 (by rw [hD]; rfl)
 have p1:W5.drew.cell? ⟨bB,1,none⟩=some (.int .i64 (Zab l k).2.1):=ZcQ (W:=W5.drew) k5 (by rw [hD]; rfl)
 have p2:W5.drew.cell? ⟨bB,2,none⟩=some (.int .i64 (Zab l k).2.2.1):=ZcQ (W:=W5.drew) k5 (by rw [hD]; rfl)
 have p3:W5.drew.cell? ⟨bB,3,none⟩=some (.slice A (Zab l k).2.2.2.length c):=ZcQ (W:=W5.drew) k5 (by rw [hD]; rfl)
 have P1:=Lib.hid k5
 have P2:=Lib.hid hD
 have P3:=Lib.hid hc5
 have P4:=Lib.hid hX
 have P5:=Lib.hid hnd
 clear hD hbB hW5 k5 hc2 hc5 hX hnd n0 n1 n2 n3 l0 l4
 go_region_with (first
  | (go_at_call 197
     refine (ZlV qs (k:Int) hpre (X ++ G) W5.drew [.slice (some ⟨g,0,none⟩) l.length cap, .int .i64 (k:Int)] P4.out (hgl.grow g10) ⟨_,_,rfl,P3.out,_,_,rfl,⟨rfl,hkw⟩,rfl⟩).mono ?_
     rintro e W6 ⟨v6,E6,rfl,g11,m6,hv6⟩
     obtain ⟨e6,rfl⟩:=Zju m6
     obtain rfl:v6=e6.val:=ZhL (show Zb3 (X ++ G) W6 [e6] _ (.row 0 0) v6 from hv6) rfl rfl
     have P6:=Lib.hid m6
     have P7:=Lib.hid hv6
     have k6:=(g11.keep bB zB (by simp [foots])).trans P1.out
     have t0:W6.cell? ⟨bB,0,none⟩=some (.string m.2.2.2.2.1):=ZcQ k6 (by rw [P2.out]; rfl)
     have t1:W6.cell? ⟨bB,1,none⟩=some (.int .i64 (Zab l k).2.1):=ZcQ k6 (by rw [P2.out]; rfl)
     have t2:W6.cell? ⟨bB,2,none⟩=some (.int .i64 (Zab l k).2.2.1):=ZcQ k6 (by rw [P2.out]; rfl)
     have t3:W6.cell? ⟨bB,3,none⟩=some (.slice A (Zab l k).2.2.2.length c):=ZcQ k6 (by rw [P2.out]; rfl)
     clear m6 hv6 k6
     skip)
  | (go_at_call 196
     refine (Zv4 (ZHk qs k) (m.2.2.2.2.1,(Zab l k).2.1,(Zab l k).2.2.1, .slice A (Zab l k).2.2.2.length c) (ZL0 H20.out hl4) (X ++ G) W6 [e6.val, .agg #[.string m.2.2.2.2.1, .int .i64 (Zab l k).2.1, .int .i64 (Zab l k).2.2.1, .slice A (Zab l k).2.2.2.length c]] P6.out.xsz ((hgl.grow g10).grow g11).nil ⟨_,_,rfl,ZL1 P6.out,_,_,rfl,⟨_,rfl,_,_,rfl,⟨rfl,q5⟩,_,_,rfl,⟨rfl,wfs.1⟩,_,_,rfl,⟨rfl,wfs.2⟩,_,_,rfl,⟨rfl,rfl⟩,rfl⟩,rfl⟩).mono ?_
     rintro e W7 ⟨v7,E7,rfl,g12,m7,hv7⟩
     obtain ⟨e7,rfl⟩:=Zju m7
     obtain rfl:v7=e7.val:=ZhL (show Zb3 (X ++ G) W7 [e7] _ (.row 0 0) v7 from hv7) rfl rfl
     have P8:=Lib.hid m7
     have P9:=Lib.hid hv7
     clear m7 hv7))
 all_goals
  go_wp2
  go_ret2
  have gW2:ZbU W [] W2 [e2]:=g1.trans g2
  obtain ⟨F1',F2',a1,⟨F3',F4',a2,⟨F5',F6',a3,hms',e3'⟩,e2'⟩,e1'⟩:=H10.out
  rw [H18.out] at hms'
  have hbq:=(show ZAO W2 Zaj (m.2.2.2.2.1,(Zab l k).2.1,(Zab l k).2.2.1,(Zab l k).2.2.2) (m.2.2.2.2.1,(Zab l k).2.1,(Zab l k).2.2.1, .slice A (Zab l k).2.2.2.length c) _ from ⟨F1',F2',⟨rfl,a1.2⟩,⟨F3',F4',⟨rfl,a2.2⟩,⟨F5',F6',⟨rfl,a3.2⟩,hms',e3'⟩,e2'⟩,e1'⟩)
  obtain ⟨E2,x1,x2,x3⟩:=ZL2 (b:=(m.2.2.2.2.1,(Zab l k).2.1,(Zab l k).2.2.1,(Zab l k).2.2.2)) H8.out gW2 (by rw [H15.out,H16.out]) H13.out hbq ((g9.trans (Ztu g11)).trans g12) P8.out P9.out (fun b hb=>List.mem_append_left _ hb)
  have hap:apB l m=Zoz (ZnE l k) (m.2.2.2.2.1,(Zab l k).2.1,(Zab l k).2.2.1,(Zab l k).2.2.2):=by
   unfold apB ZeU
   rw [ha,if_neg (by omega),if_neg (by omega),if_pos h3]
   simp only [bxK,bxB,hk,Int.toNat_natCast,cond_true]
  rw [hap]
  exact ⟨_,E2,rfl,x1,x2,⟨_,rfl,_,_,rfl,x3,_,_,rfl,(show Value.bool true=Value.bool (ZfP l m) by rw [ha]),rfl⟩⟩
def ZOD (l:List ZaO) (m:ZaA):Prop:=ZbZ l
theorem ZAQ (l:List ZaO) (m:ZaA) (hpre:ZOD l m):Zao Tryz.prog 146 [.c (.hs .no Zaj l), .ag [.int .i64 m.1, .int .i64 m.2.1, .int .i64 m.2.2.1, .int .i64 m.2.2.2.1, .str m.2.2.2.2.1, .str m.2.2.2.2.2]] (.tp [.c (.row 0 0), .c (.bool (ZfP l m))]) [.row Zaj (apB l m) 0 0 none]:=by
 by_cases h:ZfP l m=true∧m.1=3
 ·exact Ztv l m hpre h.1 h.2
 ·exact Zv1 l m ⟨hpre,h⟩
def ZAR:ZaE Tryz.prog:=⟨146,[.v (.list Zaj), .s Zag],fun x=>ZOD x.1 x.2.1,fun x=>.tp [.c (.row 0 0), .c (.bool (ZfP x.1 x.2.1))],fun x=>[.row Zaj (apB x.1 x.2.1) 0 0 none],fun x hx=>ZAQ x.1 x.2.1 hx,Tryz.call146⟩
set_option maxRecDepth 100000
set_option maxHeartbeats 4000000
open Go.ChangeShapes Go.WideShapes Go.ChangeAt Go.RowKit Go.Joins Go.Deep
theorem ZoY {l:List ZaO} (h1:l.length≤5) (h2:∀ x ∈ l,x.2.2.2.length≤7):ZbZ l:=⟨by omega,fun x hx=>by have:=h2 x hx; omega⟩
theorem Zle {l:List ZaO} {m:ZaA} (h:ZfP l m=true):ZbZ (ZeU l m):=by
 obtain ⟨h4,h6⟩:=ZGR h
 have hx:∀ x ∈ l,x.2.2.2.length≤6:=fun x hx=>by
  obtain ⟨k,hk,rfl⟩:=List.mem_iff_getElem.1 hx
  have:=h6 k
  rwa [show Zab l k=l[k] from Zcb (t:=Zaj) (List.getElem?_eq_getElem hk)] at this
 have hlay:∀ (k:List ZaO) (b:ZaO),k.length≤4→(∀ x ∈ k,x.2.2.2.length≤6)→b.2.2.2.length≤7→ZbZ (Zoz k b):=fun k b h1 h2 h3=>ZoY (by rw [(ZmN k b).length_eq,List.length_cons]; omega) (fun x hx=>by
  rcases lay_mem.1 hx with rfl | hx
  ·exact h3
  ·have:=h2 x hx; omega)
 have hset:∀ (k:Nat) (b:ZaO),b.2.2.2.length≤7→ZbZ (l.set k b):=fun k b h3=>ZoY (by rw [List.length_set]; omega) (fun x hx'=>by
  rcases List.mem_or_eq_of_mem_set hx' with hx' | rfl
  ·have:=hx x hx'; omega
  ·exact h3)
 have hso:∀ k x,x ∈ ZnE l k→x.2.2.2.length≤6:=fun k x hx'=>hx x ((ZmO l k).mem hx')
 have hlo:∀ k,(ZnE l k).length≤4:=fun k=>Nat.le_trans (ZmO l k).length_le h4
 have hb:=h6 (bxK l m)
 unfold ZeU
 split
 ·exact hlay l _ h4 hx (Nat.zero_le _)
 ·split
  ·exact ZoY (by have:=hlo (bxK l m); omega) (fun x hx'=>by have:=hso _ x hx'; omega)
  ·split
   ·exact hlay _ _ (hlo _) (hso _) (by show (bxB l m).2.2.2.length≤7; exact Nat.le_trans hb (by omega))
   ·split
    ·exact hset _ _ (by show (_ ++ _:List Zdr).length≤7; rw [List.length_append]; exact Nat.add_le_add hb (Nat.le_refl 1))
    ·split
     ·exact hset _ _ (by show (List.set _ _ _:List Zdr).length≤7; rw [List.length_set]; exact Nat.le_trans hb (by omega))
     ·refine hset _ _ ?_
      show (ZJM _ _).length≤7
      have:(ZJM (bxB l m).2.2.2 (Zb4 (bxB l m).2.2.2 m.2.2.1).toNat).length≤(bxB l m).2.2.2.length:=by
       unfold ZJM
       exact Zrz
      exact Nat.le_trans this (Nat.le_trans hb (by omega))
def Zgz (st:ZaI) (n:Int):List ZaO:=(Zdk [] (List.take (Int.toNat (min (max n 0) (List.length st.2.1:Int))) st.2.1)).1
def ZrL (l:List ZaO) (log:List ZaA):Nat→List AV→Mem→Zbd
 | 3,tm,M=>⟨Nat × (List ZaO),fun y=>(Zcf (Zct tm [(4, .any),(5, .any),(6, .c (.row 0 0)),(8, .any),(10, .any),(13, .c (.int .i64 ((y.1:Nat):Int)))]) 14 12,Zky M [(0, .row Zaj y.2 0 0 none)]),fun y=>(y.1≤List.length log∧ZbZ y.2∧Zdk y.2 (List.drop y.1 log)=Zdk l log),fun y=>(List.length log - y.1)⟩
 | _,_,_=>⟨Unit,fun _=>([],[]),fun _=>False,fun _=>0⟩
theorem ZrM (l:List ZaO) (log:List ZaA) (hpre:ZbZ l):Zao Tryz.prog 107 [.c (.hs .no Zaj l), .c (.hs .no Zag log)] (.tp [.c (.row 0 0), .c (.bool (Zdk l log).2)]) [.row Zaj ((Zdk l log).1) 0 0 none]:=by
 refine bc0 [ZlU,ZAX] [] [] [ZA4] (ZrL l log) Tryz.func107 (fun hwf=>?_)
 refine Eq.mpr (β:=T3 (pt (ZbZ l)∧T4 ((∃ q:Nat × (List ZaO),(q.1≤log.length∧ZbZ q.2∧Zdk q.2 (List.drop q.1 log)=Zdk l log)∧lxs [hn Zaj l,hn Zag log, .tp [], .tp []] (True∧True∧lxs [.c (.row 0 0), .tp []] (True∧lxs [hn Zaj l] (True∧lxs [hn Zag log,ci log.length] (vI 0 q.1∧TN 12 (lxs [.tp []] True)))))∧pt (leB (.row Zaj l 0 0 none) (.row Zaj q.2 0 0 none)∧True))∧∀ y0:Nat × (List ZaO),(y0.1≤log.length∧ZbZ y0.2∧Zdk y0.2 (List.drop y0.1 log)=Zdk l log)→True∧bif ltI y0.1 log.length then ix 6 y0.1 log.length∧T5 ((True∧pt (true=true))∧True∧bif !(ZfP y0.2 (Zac log y0.1)) then T3 (pt ((y0.2=((Zdk l log).1)∧cB false (Zdk l log).2∧True))) else T2 (pt (ZfP y0.2 (Zac log y0.1)=true∧y0.2=y0.2∧True)∧∀ r1:List ZaO,r1=([]:List ZaO)→T3 (∃ y0' : Nat × (List ZaO),(y0'.1≤log.length∧ZbZ y0'.2∧Zdk y0'.2 (List.drop y0'.1 log)=Zdk l log)∧(log.length - y0'.1) < (log.length - y0.1)∧lxs [hn Zaj l,hn Zag log, .tp [], .tp []] (True∧True∧lxs [.c (.row 0 0), .tp []] (True∧lxs [hn Zaj l] (True∧lxs [hn Zag log,ci log.length] (vI (w64 ((y0.1:Int) + 1)) y0'.1∧TN 12 (lxs [.tp []] True)))))∧pt (leB (.row Zaj (ZeU y0.2 (Zac log y0.1)) 0 0 none) (.row Zaj y0'.2 0 0 none)∧True)))) else T3 (pt ((y0.2=((Zdk l log).1)∧cB true (Zdk l log).2∧True)))))) (by kernel_rfl) ?_
 unfold T2 T3 T4 T5
 exact ZyQ
def ZkR:ZaE Tryz.prog:=⟨107,[.v (.list Zaj), .v (.list Zag)],fun x=>ZbZ x.1,fun x=>.tp [.c (.row 0 0), .c (.bool (Zdk x.1 x.2.1).2)],fun x=>[.row Zaj ((Zdk x.1 x.2.1).1) 0 0 none],fun x hx=>ZrM x.1 x.2.1 hx,Tryz.call107⟩
def ZrN (l:List ZaO) (log:List ZaA):Nat→List AV→Mem→Zbd
 | 3,tm,M=>⟨Nat × (List ZaO),fun y=>(Zcf (Zct tm [(4, .any),(5, .any),(6, .c (.row 0 0)),(7, .c (.int .i64 ((y.1:Nat):Int))),(8, .any),(9, .any)]) 11 20,Zky M [(0, .row Zaj y.2 0 0 none)]),fun y=>(y.1≤List.length log∧ZbZ y.2∧Zdk y.2 (List.drop y.1 log)=Zdk l log),fun y=>(List.length log - y.1)⟩
 | _,_,_=>⟨Unit,fun _=>([],[]),fun _=>False,fun _=>0⟩
theorem ZrO (l:List ZaO) (log:List ZaA) (hpre:ZbZ l):Zao Tryz.prog 78 [.c (.hs .no Zaj l), .c (.hs .no Zag log)] (.tp [.c (.row 0 0), .c (.bool (Zdk l log).2)]) [.row Zaj ((Zdk l log).1) 0 0 none]:=by
 refine bc0 [Zjr,ZAR] [] [] [] (ZrN l log) Tryz.func78 (fun hwf=>?_)
 refine Eq.mpr (β:=T3 (pt (ZbZ l)∧T2 ((∃ q:Nat × (List ZaO),(q.1≤log.length∧ZbZ q.2∧Zdk q.2 (List.drop q.1 log)=Zdk l log)∧lxs [hn Zaj l,hn Zag log, .tp [], .tp []] (True∧True∧lxs [.c (.row 0 0)] (vI 0 q.1∧True∧True∧lxs [hn Zaj l] (TN 20 (lxs [.tp []] True))))∧pt (leB (.row Zaj l 0 0 none) (.row Zaj q.2 0 0 none)∧True))∧∀ y0:Nat × (List ZaO),(y0.1≤log.length∧ZbZ y0.2∧Zdk y0.2 (List.drop y0.1 log)=Zdk l log)→T4 (bif ltI y0.1 log.length then T3 (ix 6 y0.1 log.length∧True∧(ZOD y0.2 (Zac log y0.1)∧pt (true=true))∧T7 (bif !(ZfP y0.2 (Zac log y0.1)) then T3 (pt ((y0.2=((Zdk l log).1)∧cB false (Zdk l log).2∧True))) else T5 (∃ y0' : Nat × (List ZaO),(y0'.1≤log.length∧ZbZ y0'.2∧Zdk y0'.2 (List.drop y0'.1 log)=Zdk l log)∧(log.length - y0'.1) < (log.length - y0.1)∧lxs [hn Zaj l,hn Zag log, .tp [], .tp []] (True∧True∧lxs [.c (.row 0 0)] (vI (w64 ((y0.1:Int) + 1)) y0'.1∧True∧True∧lxs [hn Zaj l] (TN 20 (lxs [.tp []] True))))∧pt (leB (.row Zaj (apB y0.2 (Zac log y0.1)) 0 0 none) (.row Zaj y0'.2 0 0 none)∧True)))) else T3 (pt ((y0.2=((Zdk l log).1)∧cB true (Zdk l log).2∧True))))))) (by kernel_rfl) ?_
 unfold T2 T3 T4 T5 T7
 exact ZyQ
def ZkS:ZaE Tryz.prog:=⟨78,[.v (.list Zaj), .v (.list Zag)],fun x=>ZbZ x.1,fun x=>.tp [.c (.row 0 0), .c (.bool (Zdk x.1 x.2.1).2)],fun x=>[.row Zaj ((Zdk x.1 x.2.1).1) 0 0 none],fun x hx=>ZrO x.1 x.2.1 hx,Tryz.call78⟩
theorem ZAS (st:ZaI) (n:Int):Zao Tryz.prog 181 [.ag (cellsOf ZbJ st), .c (.int .i64 n)] (.c (.row 0 0)) [.row Zaj (Zgz st n) 0 0 none]:=by
 refine bc0 [ZkR] [] [] [] L0 Tryz.func181 (fun hwf=>?_)
 refine Eq.mpr (β:=T5 (IntKind.i64=IntKind.i64∧T3 (IntKind.i64=IntKind.i64∧((6:Nat)=6∧(0:Int)≤0∧(0:Int)≤(if (st.2.1.length:Int) < (if (0:Int) > n then 0 else n) then (st.2.1.length:Int) else if (0:Int) > n then 0 else n)∧((if (st.2.1.length:Int) < (if (0:Int) > n then 0 else n) then (st.2.1.length:Int) else if (0:Int) > n then 0 else n):Int)≤(st.2.1.length:Int))∧pt (ZbZ ([]:List ZaO))∧T7 (pt (((Zdk ([]:List ZaO) (List.drop (Int.toNat 0) (List.take (Int.toNat (if (st.2.1.length:Int) < (if (0:Int) > n then 0 else n) then (st.2.1.length:Int) else if (0:Int) > n then 0 else n)) st.2.1))).1)=Zgz st n))))) (by kernel_rfl) ?_
 unfold T3 T5 T7
 exact Zzd
theorem ZAT (st:ZaI) (n:Int):Zao Tryz.prog 156 [.ag (cellsOf ZbJ st), .c (.int .i64 n)] (.c (.row 0 0)) [.row Zaj (Zgz st n) 0 0 none]:=by
 refine bc0 [ZHO,ZwG,ZkS] [] [] [] L0 Tryz.func156 (fun hwf=>?_)
 refine Eq.mpr (β:=T2 (pt (true=true)∧T6 (pt True∧pt True∧((6:Nat)=6∧(0:Int)≤0∧(0:Int)≤max 0 (min n (st.2.1.length:Int))∧(max 0 (min n (st.2.1.length:Int)):Int)≤(st.2.1.length:Int))∧pt (ZbZ ([]:List ZaO))∧T7 (pt (((Zdk ([]:List ZaO) (List.drop (Int.toNat 0) (List.take (Int.toNat (max 0 (min n (st.2.1.length:Int)))) st.2.1))).1)=Zgz st n))))) (by kernel_rfl) ?_
 exact Zzd
end Go.Proofs.YtafhbjjcpncfnaaGreat
