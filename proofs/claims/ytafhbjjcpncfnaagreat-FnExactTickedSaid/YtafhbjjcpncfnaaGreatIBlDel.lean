import Derived.Test.YtafhbjjcpncfnaaGreatIBlLib
import Derived.Test.YtafhbjjcpncfnaaGreatIBmQ
import Derived.Test.YtafhbjjcpncfnaaGreatIBlBoxM
import Derived.Deep.RegionLaw
import Derived.WalkKit
set_option linter.unusedSimpArgs false
set_option linter.unusedVariables false
set_option maxRecDepth 100000
set_option maxHeartbeats 4000000
namespace Go.Proofs.YtafhbjjcpncfnaaGreat
open Go.ChangeShapes Go.WideShapes Go.ChangeAt Go.RowKit Go.Joins Go.Deep
open GoRep (rep bulk)
theorem Zf4 (xs:List ZaM) (hpre:List.length xs≤rowMax):Zao Tryz.prog 165 [.c (.hs .no Zal xs)] (.c (.row 0 0)) [.row Zal xs 0 0 none]:=by
 refine bc0 [] [] [] [] L0 Tryz.func165 (fun hwf=>?_)
 refine Eq.mpr (β:=T2 (∀ n1:Bool,(n1=true→xs.length=0)→bif n1 then True∧pt (xs=[]) else T2 ((True∧List.length ([]:List ZaM) + xs.length≤rowMax)∧True∧pt ((([]:List ZaM) ++ xs)=xs)))) (by kernel_rfl) ?_
 exact ZeY
def Zf5:ZaE Tryz.prog:=⟨165,[.v (.list Zal)],fun x=>List.length x.1≤rowMax,fun x=>.c (.row 0 0),fun x=>[.row Zal x.1 0 0 none],fun x hx=>Zf4 x.1 hx,Tryz.call165⟩
theorem Zf6 (xs:List ZbT) (hpre:List.length xs≤rowMax):Zao Tryz.prog 163 [.c (.hs .no Zay xs)] (.c (.row 0 0)) [.row Zay xs 0 0 none]:=by
 refine bc0 [] [] [] [] L0 Tryz.func163 (fun hwf=>?_)
 refine Eq.mpr (β:=T2 (∀ n1:Bool,(n1=true→xs.length=0)→bif n1 then True∧pt (xs=[]) else T2 ((True∧List.length ([]:List ZbT) + xs.length≤rowMax)∧True∧pt ((([]:List ZbT) ++ xs)=xs)))) (by kernel_rfl) ?_
 exact ZeY
def Zf7:ZaE Tryz.prog:=⟨163,[.v (.list Zay)],fun x=>List.length x.1≤rowMax,fun x=>.c (.row 0 0),fun x=>[.row Zay x.1 0 0 none],fun x hx=>Zf6 x.1 hx,Tryz.call163⟩
theorem Zhl (xs:List Zdr) (hpre:List.length xs≤rowMax):Zao Tryz.prog 206 [.c (.hs .no ZaR xs)] (.c (.row 0 0)) [.row ZaR xs 0 0 none]:=by
 refine bc0 [] [] [] [] L0 Tryz.func206 (fun hwf=>?_)
 refine Eq.mpr (β:=T2 (∀ n1:Bool,(n1=true→xs.length=0)→bif n1 then True∧pt (xs=[]) else T2 ((True∧List.length ([]:List Zdr) + xs.length≤rowMax)∧True∧pt ((([]:List Zdr) ++ xs)=xs)))) (by kernel_rfl) ?_
 exact ZeY
def Zhm:ZaE Tryz.prog:=⟨206,[.v (.list ZaR)],fun x=>List.length x.1≤rowMax,fun x=>.c (.row 0 0),fun x=>[.row ZaR x.1 0 0 none],fun x hx=>Zhl x.1 hx,Tryz.call206⟩
theorem Ze3 (xs:List ZaA) (hpre:List.length xs≤rowMax):Zao Tryz.prog 103 [.c (.hs .no Zag xs)] (.c (.row 0 0)) [.row Zag xs 0 0 none]:=by
 refine bc0 [] [] [] [] L0 Tryz.func103 (fun hwf=>?_)
 refine Eq.mpr (β:=T2 (∀ n1:Bool,(n1=true→xs.length=0)→bif n1 then True∧pt (xs=[]) else T2 ((True∧List.length ([]:List ZaA) + xs.length≤rowMax)∧True∧pt ((([]:List ZaA) ++ xs)=xs)))) (by kernel_rfl) ?_
 exact ZeY
def Ze4:ZaE Tryz.prog:=⟨103,[.v (.list Zag)],fun x=>List.length x.1≤rowMax,fun x=>.c (.row 0 0),fun x=>[.row Zag x.1 0 0 none],fun x hx=>Ze3 x.1 hx,Tryz.call103⟩
theorem Zf8 (xs:List ByteArray) (hpre:List.length xs≤rowMax):Zao Tryz.prog 164 [.c (.hs .no Za1 xs)] (.c (.row 0 0)) [.row Za1 xs 0 0 none]:=by
 refine bc0 [] [] [] [] L0 Tryz.func164 (fun hwf=>?_)
 refine Eq.mpr (β:=T2 (∀ n1:Bool,(n1=true→xs.length=0)→bif n1 then True∧pt (xs=[]) else T2 ((True∧List.length ([]:List ByteArray) + xs.length≤rowMax)∧True∧pt ((([]:List ByteArray) ++ xs)=xs)))) (by kernel_rfl) ?_
 exact ZeY
def Zf9:ZaE Tryz.prog:=⟨164,[.v (.list Za1)],fun x=>List.length x.1≤rowMax,fun x=>.c (.row 0 0),fun x=>[.row Za1 x.1 0 0 none],fun x hx=>Zf8 x.1 hx,Tryz.call164⟩
theorem Zt1 (q:ZbH) (hpre:List.length q.1≤rowMax):Zao Tryz.prog 106 [.ag [.hs .no Zal q.1, .bool q.2.1, .bool q.2.2]] (.ag [.row 0 0, .bool q.2.1, .bool q.2.2]) [.row Zal q.1 0 0 none]:=by
 refine bc0 [Zf5] [] [] [] L0 Tryz.func106 (fun hwf=>?_)
 refine Eq.mpr (β:=T4 (pt (q.1.length≤rowMax)∧T4 (pt ((q.1=q.1∧cB q.2.1 q.2.1∧cB q.2.2 q.2.2∧True))))) (by kernel_rfl) ?_
 exact ZeY
def Zt2:ZaE Tryz.prog:=⟨106,[.s Zdv],fun x=>List.length x.1.1≤rowMax,fun x=>.ag [.row 0 0, .bool x.1.2.1, .bool x.1.2.2],fun x=>[.row Zal x.1.1 0 0 none],fun x hx=>Zt1 x.1 hx,Tryz.call106⟩
theorem ZBJ (q:ZbH) (hpre:List.length q.1≤rowMax):Zao Tryz.prog 75 [.ag [.hs .no Zal q.1, .bool q.2.1, .bool q.2.2]] (.ag [.row 0 0, .bool q.2.1, .bool q.2.2]) [.row Zal q.1 0 0 none]:=by
 refine bc0 [] [] [] [] L0 Tryz.func75 (fun hwf=>?_)
 refine Eq.mpr (β:=T5 ((True∧List.length ([]:List ZaM) + q.1.length≤rowMax)∧T4 (pt (((([]:List ZaM) ++ q.1)=q.1∧cB q.2.1 q.2.1∧cB q.2.2 q.2.2∧True))))) (by kernel_rfl) ?_
 exact ZeY
def ZBK:ZaE Tryz.prog:=⟨75,[.s Zdv],fun x=>List.length x.1.1≤rowMax,fun x=>.ag [.row 0 0, .bool x.1.2.1, .bool x.1.2.2],fun x=>[.row Zal x.1.1 0 0 none],fun x hx=>ZBJ x.1 hx,Tryz.call75⟩
open Go.Lib Go.ChangeShapes Go.WideShapes Go.ChangeAt Go.RowKit Go.Joins Go.Deep
theorem Zjw {P:Program} {ops:Array Oper} {o:Oper} {a:Act} {w:World} {K:Act→World→Prop} {Q:Exit→Act→World→Prop} {E:Prop}
 (hg:o.guard=none) (s x:Operand) (t:TypeId) (hop:o.op=Op.call { callee:=Callee.builtin Builtin.append,args:=#[s,x],argTypes:=#[t,t] })
 (e T:TypeId) (i:TypeInfo) (size:Nat) (h1:P.underlying t=some (.slice e)) (h2:P.info? e=some i) (h4:i.size=size)
 (b n cap:Nat) (cur:Array Value) (hb:w.heap[b]?=some (.cells cur T (0,0))) (hs:a.eval s=.slice (some ⟨b,0,none⟩) n cap)
 (ad:Addr) (m c:Nat) (news:List Value) (hx:a.eval x=.slice (some ad) m c) (hn:news.length=m * size) (hc:∀ j u,news[j]?=some u→w.cell? (ad.add j)=some u) (h1c:∀ u ∈ news,u.oneCell'=true)
 (hroom:n + m≤cap) (hfit:n * size + news.length≤cur.size)
 (hK:K (a.put o.dst (.slice (some ⟨b,0,none⟩) (n + m) cap)) (w.setRow b (cur.toList.take (n * size) ++ news ++ cur.toList.drop (n * size + news.length)).toArray)) :
 if Region.wanted o (yielded ops a.tmps)=true then Oper.wp P o a w K Q else E:=by
 have hw:Region.wanted o (yielded ops a.tmps)=true:=by simp [Region.wanted,hg]
 rw [if_pos hw]
 subst h4
 have hrun:(Builtin.append_ #[t,t] o.type #[.slice (some ⟨b,0,none⟩) n cap, .slice (some ad) m c]).run P w =
  .ok (.slice (some ⟨b,0,none⟩) (n + m) cap) (w.setRow b (cur.toList.take (n * i.size) ++ news ++ cur.toList.drop (n * i.size + news.length)).toArray):=by
  have hf:=run_firstCells_some (P:=P) w i.size m ad m c news hn hc
  have hst:=run_storeCells_at P b (n * i.size) T news 0 cur w hb (by simpa using hfit) h1c
  simp only [Nat.add_zero] at hst
  simp [Builtin.append_,run_underlying h1,sizeOf,typeInfo,h2,Builtin.lenOf,hroom,hf,Addr.add_lit,hst]
 unfold Oper.wp
 rw [List.append_assoc] at hK
 simp [execOp,hop,resolve,invoke,builtin,hs,hx,hrun,Result.andThen]
 exact hK
theorem Zwc (w:World) (b:Nat) (x y:Array Value):(w.setRow b x).setRow b y=w.setRow b y:=by
 have e:(w.heap.modify b (fun | .cells _ elem frozen=>Obj.cells x elem frozen | o=>o)).modify b (fun | .cells _ elem frozen=>Obj.cells y elem frozen | o=>o)=w.heap.modify b (fun | .cells _ elem frozen=>Obj.cells y elem frozen | o=>o):=by
  apply Array.ext
  ·simp
  ·intro i h1 h2
   simp only [Array.getElem_modify]
   split
   ·cases w.heap[i]'(by simpa using h2) <;> rfl
   ·rfl
 unfold World.setRow
 exact congrArg (fun h=>({ w with heap:=h }:World)) e
section
variable {α:Type} {R:α→List Value→List Nat→Prop}
theorem Zb0.cut {n:Nat} (hn:∀ x cs F,R x cs F→cs.length=n):∀ (k:Nat) {xs:List α} {cs:List Value} {G:List Nat},Zb0 R xs cs G →
 ∃ G1 G2,G=G1 ++ G2∧Zb0 R (xs.take k) (cs.take (k * n)) G1∧Zb0 R (xs.drop k) (cs.drop (k * n)) G2
 | 0,_,_,G,h=>⟨[],G,rfl,by rw [Nat.zero_mul]; exact ⟨rfl,rfl⟩,by rw [Nat.zero_mul]; exact h⟩
 | k + 1,[],_,_,⟨h1,h2⟩=>⟨[],[],by rw [h2]; rfl,by rw [h1]; exact ⟨by simp,rfl⟩,by rw [h1]; exact ⟨by simp,rfl⟩⟩
 | k + 1,y :: ys,_,_,⟨c1,c2,G1,G2,h1,h2,e1,e2⟩=>by
  obtain ⟨A,B,e,q1,q2⟩:=Zb0.cut hn k h2
  have hc:=hn _ _ _ h1
  have e3:(k + 1) * n=c1.length + k * n:=by rw [hc,Nat.add_mul,Nat.one_mul,Nat.add_comm]
  refine ⟨G1 ++ A,B,by rw [e2,e,List.append_assoc],⟨c1,_,G1,A,h1,q1,?_,rfl⟩,?_⟩
  ·rw [e1,e3,List.take_length_add_append]
  ·rw [e1,e3,List.drop_length_add_append]
   exact q2
theorem Zb0.out {n:Nat} (hn:∀ x cs F,R x cs F→cs.length=n) (k:Nat) {xs:List α} {cs:List Value} {G:List Nat} (h:Zb0 R xs cs G) :
 ∃ G1 Gd G3,G=G1 ++ (Gd ++ G3)∧Zb0 R (xs.take k ++ xs.drop (k + 1)) (cs.take (k * n) ++ cs.drop ((k + 1) * n)) (G1 ++ G3):=by
 obtain ⟨G1,G2,e1,q1,q2⟩:=h.cut hn k
 obtain ⟨Gd,G3,e2,q3,q4⟩:=q2.cut hn 1
 rw [List.drop_drop,List.drop_drop,Nat.one_mul] at q4
 refine ⟨G1,Gd,G3,by rw [e1,e2],?_⟩
 have:=q1.app q4
 rwa [show k * n + n=(k + 1) * n by rw [Nat.add_mul,Nat.one_mul]] at this
end
def ZHG (n:Nat) (k j:Int):Prop:=0≤k∧k < (n:Int)∧j=k + 1
theorem ZNb {P:Program} {f:FuncId} (t:Ty) (hd:∀ (W:World) (b n cap i:Nat) (cur:Array Value) (T:TypeId),W.heap[b]?=some (.cells cur T (0,0))→cur.size=cap * t.n→n≤cap→cap≤9223372036854775807→i < n→(∀ u ∈ cur.toList.take (n * t.n),u.oneCell'=true) →
 Calls P f #[.slice (some ⟨b,0,none⟩) n cap, .int .i64 i, .int .i64 (i + 1:Nat)] W (fun e w'=>e=.returned (.slice (some ⟨b,0,none⟩) (n - 1) cap)∧∃ cur' : Array Value,w'=W.drew.setRow b cur'∧cur'.size=cur.size∧cur'.toList.take ((n - 1) * t.n)=cur.toList.take (i * t.n) ++ (cur.toList.drop ((i + 1) * t.n)).take ((n - (i + 1)) * t.n)))
 (xs:List t.den) (k j:Int) (hpre:ZHG xs.length k j) :
 Zep P f (Zd7 0 [(.g false (.list t)),(.a (.v Zax)),(.a (.v Zax))] (xs,k,j,())) (Zh3 0 [(.g false (.list t)),(.a (.v Zax)),(.a (.v Zax))] (xs,k,j,())) (Zfj 0 [(.g false (.list t)),(.a (.v Zax)),(.a (.v Zax))] (xs,k,j,()) ++ [.row t (xs.take (Int.toNat k) ++ xs.drop (Int.toNat k + 1)) 0 0 none]) (inpM 0 [(.g false (.list t)),(.a (.v Zax)),(.a (.v Zax))]) (.c (.row 1 0)):=by
 intro X W E vs hgl hM hr
 have hM:RepM X W E [.row t xs 0 0 none]:=hM
 obtain ⟨v,r,rfl,hv,kv,r2,rfl,hk,jv,r3,rfl,hj,hn⟩:=hr
 obtain rfl:r3=[]:=hn
 obtain ⟨e0,rfl⟩:=Zju hM
 have hv:Zb3 X W [e0] [.row t xs 0 0 none] (.row 0 0) v:=hv
 have hrow:Zcj W (Zbv W t) t.n xs e0.val e0.foot:=hM.row (i:=0) rfl rfl
 obtain rfl:v=e0.val:=ZhL hv rfl rfl
 obtain ⟨T,cells,G,w1,w2,w3⟩:=hrow
 obtain ⟨p0,p1,p2⟩:=hpre
 obtain ⟨i,hi⟩:∃ i:Nat,i=Int.toNat k:=⟨_,rfl⟩
 obtain rfl:k=(i:Int):=by omega
 obtain rfl:j=((i + 1:Nat):Int):=by omega
 have hin:i < xs.length:=by omega
 rcases w1.2 with ⟨_,k2⟩ | ⟨g,cap,cur,k1,k2,k3,k4,k5,k6,k7⟩
 ·omega
 obtain rfl:kv=.int .i64 (i:Int):=hk.1
 obtain rfl:jv=.int .i64 ((i + 1:Nat):Int):=hj.1
 have hcl:∀ u ∈ cur.toList.take (xs.length * t.n),u.oneCell'=true:=fun u hu=>by
  rw [k7] at hu
  exact w2.ones u hu
 have hw:=hd W g xs.length cap i cur T k3 k6 k4 k5 hin hcl
 rw [k1]
 refine hw.mono fun e W' h=>?_
 obtain ⟨rfl,cur',rfl,s2,s3⟩:=h
 have hgW:g < W.heap.size:=(Array.getElem?_eq_some_iff.1 k3).1
 obtain ⟨G1,Gd,G3,eG,q⟩:=w2.out (n:=t.n) (fun x cs F h=>Zbv.len t h) i
 have hfoot:foots [e0]=[g] ++ G:=by simp [foots,w3,k1,Value.ownBlock]
 have hnd:=hM.nodup
 rw [hfoot,List.nodup_append] at hnd
 have hsub:∀ b ∈ G1 ++ G3,b ∈ G:=fun b hb=>by
  rw [eG]
  rcases List.mem_append.1 hb with hb | hb
  ·exact Zkf
  ·exact List.mem_append_right _ (List.mem_append_right _ hb)
 have hGlt:∀ b ∈ G,b < W.heap.size∧b ≠ g:=fun b hb=>⟨hM.lt b (by rw [hfoot]; simp [hb]),fun e=>hnd.2.2 g (by simp) b hb e.symm⟩
 have hkeep:∀ b,b ≠ g→(W.drew.setRow g cur').heap[b]?=W.heap[b]?:=fun b hb=>by
  show (W.heap.modify g _)[b]?=_
  rw [Array.getElem?_modify,if_neg (fun e=>hb e.symm)]
 have hat:(W.drew.setRow g cur').heap[g]?=some (.cells cur' T (0,0)):=setRow_heap W.drew g cur _ T _ k3
 have hsz:(W.drew.setRow g cur').heap.size=W.heap.size:=by
  show (W.heap.modify g _).size=_
  simp
 have hlen:(xs.take i ++ xs.drop (i + 1)).length=xs.length - 1:=by
  exact Zrz
 have hcells:cells.length=xs.length * t.n:=w1.1
 have hcut:cur.toList.take (i * t.n) ++ (cur.toList.drop ((i + 1) * t.n)).take ((xs.length - (i + 1)) * t.n)=cells.take (i * t.n) ++ cells.drop ((i + 1) * t.n):=by
  rw [← k7,List.take_take,Nat.min_eq_left (Nat.mul_le_mul_right _ (by omega)),List.drop_take,Nat.sub_mul]
 have hq2:Zb0 (Zbv (W.drew.setRow g cur') t) (xs.take i ++ xs.drop (i + 1)) (cells.take (i * t.n) ++ cells.drop ((i + 1) * t.n)) (G1 ++ G3):=q.keep (fun b hb=>hkeep b (hGlt b (hsub b hb)).2)
 have hnd2:(G1 ++ G3).Nodup:=by
  have h2:=hnd.2.1
  rw [eG,List.nodup_append] at h2
  have h3:=h2.2.1
  rw [List.nodup_append] at h3
  rw [List.nodup_append]
  exact ⟨h2.1,h3.2.1,fun a ha b hb=>h2.2.2 a ha b (List.mem_append_right _ hb)⟩
 obtain ⟨e1,he1⟩:∃ e1:EB,e1=⟨0, .slice (some ⟨g,0,none⟩) (xs.length - 1) cap,[g] ++ (G1 ++ G3)⟩:=⟨_,rfl⟩
 have hf2:foots [⟨0, .slice none 0 0,[]⟩,e1]=[g] ++ (G1 ++ G3):=by simp [foots,he1]
 have hmem:∀ b ∈ [g] ++ (G1 ++ G3),b ∈ foots [e0]:=fun b hb=>by
  rw [hfoot]
  rcases List.mem_append.1 hb with hb | hb
  ·exact Zkf
  ·exact List.mem_append_right _ (hsub b hb)
 refine ⟨_,[⟨0, .slice none 0 0,[]⟩,e1],rfl,⟨rfl,rfl,rfl,by rw [hsz]; exact Nat.le_refl _,fun b hb hnb=>?_,fun b hb=>?_⟩,(fun i l e hi=>by match i with | 0=>cases hi | n + 1=>cases hi),(fun i hi=>by cases hi),⟨rfl,?_,fun q b e hb he=>?_,fun b hb=>?_,fun b hb=>?_,fun b hb=>by rw [hsz]; exact hM.xsz b hb⟩,?_⟩
 ·exact hkeep b (fun e=>hnb (by rw [hfoot,e]; simp))
 ·rw [hf2] at hb
  exact .inl (hmem b hb)
 ·rw [hf2,List.nodup_append]
  exact ⟨by simp,hnd2,fun a ha b hb=>hnd.2.2 a ha b (hsub b hb)⟩
 ·match q,hb,he with
  | 0,hb,he =>
   obtain rfl:=Option.some.inj hb
   obtain rfl:=Option.some.inj he
   exact ⟨0,[],[],World.ownsRow_nil _ 0 0 _,⟨rfl,rfl⟩,rfl⟩
  | 1,hb,he =>
   obtain rfl:=Option.some.inj hb
   obtain rfl:=Option.some.inj he
   subst he1
   exact ⟨T,_,G1 ++ G3,⟨hq2.len (fun x cs F h=>Zbv.len t h), .inr ⟨g,cap,cur',congrArg (fun z=>Value.slice (some ⟨g,0,none⟩) z cap) hlen.symm,Nat.zero_le _,hat,(by show (xs.take i ++ xs.drop (i + 1)).length≤cap; omega),k5,by rw [s2,k6],(by show List.take ((xs.take i ++ xs.drop (i + 1)).length * t.n) _=_; rw [hlen,s3,hcut])⟩⟩,hq2,by simp [Value.ownBlock]⟩
  | k + 2,hb,_=>cases hb
 ·rw [hf2] at hb
  rw [hsz]
  exact hM.lt b (hmem b hb)
 ·intro hb'
  rw [hf2] at hb'
  exact hM.xlt b hb (hmem b hb')
 ·subst he1
  refine ⟨rfl,?_⟩
  unfold Zcz
  exact ⟨by first | exact Nat.le_refl _ | trivial | rfl,fun _=>⟨_,rfl,rfl⟩⟩
theorem Zwd {P:Program} (W:World) (t ty e T:TypeId) (z:Value) (hu:P.underlying t=some (.slice e)) (hz:(zeroValue e).run P W=.ok z W) (b o c:Nat) (cur:Array Value) (hb:W.heap[b]?=some (.cells cur T (0,0)))
 (hone:∀ v ∈ z.cells.toList,v.oneCell'=true) (hz0:0 < z.cells.size) (hfit:o + z.cells.size≤cur.size) :
 (Builtin.clear_ #[t] ty #[.slice (some ⟨b,o,none⟩) 1 c]).run P W=.ok (.tuple #[]) (W.setRow b (cur.toList.take o ++ z.cells.toList ++ cur.toList.drop (o + z.cells.size)).toArray):=by
 have hst:=run_storeCells_at (P:=P) b o T z.cells.toList 0 cur W hb (by simpa using hfit) hone
 simp only [Nat.add_zero,Array.length_toList] at hst
 have hzc:(Builtin.zeroCells z.cells 1).toList=z.cells.toList:=by
  unfold Builtin.zeroCells
  rw [Zrc (zs:=z.cells) (s:=z.cells.size) (n:=1) rfl hz0]
  simp
 unfold Builtin.clear_
 simp [Sem.run_bind,run_underlying hu,Result.andThen_ok,hz,hzc,hst]
set_option maxHeartbeats 4000000 in
theorem Zwe (W:World) (b n cap i:Nat) (cur:Array Value) (T:TypeId) (hg:W.heap[b]?=some (.cells cur T (0,0))) (hsz:cur.size=cap * 4) (hn:n≤cap) (hcm:cap≤9223372036854775807) (hi:i < n) (h1:∀ u ∈ cur.toList.take (n * 4),u.oneCell'=true) :
 Calls Tryz.prog 210 #[.slice (some ⟨b,0,none⟩) n cap, .int .i64 i, .int .i64 (i + 1:Nat)] W (fun e w'=>e=.returned (.slice (some ⟨b,0,none⟩) (n - 1) cap)∧∃ cur' : Array Value,w'=W.drew.setRow b cur'∧cur'.size=cur.size∧cur'.toList.take ((n - 1) * 4)=cur.toList.take (i * 4) ++ (cur.toList.drop ((i + 1) * 4)).take ((n - (i + 1)) * 4)):=by
 obtain ⟨news,hnews⟩:∃ news,news=(cur.toList.drop ((i + 1) * 4)).take ((n - (i + 1)) * 4):=⟨_,rfl⟩
 have hnl:news.length=(n - (i + 1)) * 4:=by
  exact ZAw
 have s1:Hid (news.length=(n - (i + 1)) * 4):=hnl
 have s2:Hid (∀ u ∈ news,u.oneCell'=true):=fun u hu=>by
  rw [hnews] at hu
  refine h1 u ?_
  have e:(cur.toList.drop ((i + 1) * 4)).take ((n - (i + 1)) * 4)=(cur.toList.take (n * 4)).drop ((i + 1) * 4):=by
   rw [List.drop_take]
   congr 1
   omega
  rw [e] at hu
  exact List.mem_of_mem_drop hu
 have s3:Hid (i * 4 + news.length≤cur.size):=by show _≤_; rw [hnl,hsz]; omega
 have s4:Hid (W.drew.heap[b]?=some (.cells cur T (0,0))):=hg
 obtain ⟨A,hA,s5⟩:∃ A:Addr,(if cap=i + 1 then (some ⟨b,0,none⟩:Option Addr) else some ⟨b,(i + 1) * 4,none⟩)=some A∧Hid (∀ j u,news[j]?=some u→W.drew.cell? (A.add j)=some u):=by
  by_cases h:cap=i + 1
  ·exact ZzE
  ·refine ⟨⟨b,(i + 1) * 4,none⟩,by simp [h],fun j u hj=>?_⟩
   exact Zzr
 obtain ⟨W1,hW1⟩:∃ W1,W1=W.drew.setRow b (cur.toList.take (i * 4) ++ news ++ cur.toList.drop (i * 4 + news.length)).toArray:=⟨_,rfl⟩
 have hW:Hid (W1=W.drew.setRow b (cur.toList.take (i * 4) ++ news ++ cur.toList.drop (i * 4 + news.length)).toArray):=hW1
 have hic:i≤cap:=by omega
 have hjc:i + 1≤cap:=by omega
 have mixed:Tryz.prog.follows .mixedOrders=true:=by decide
 have hb1:(0:Int)≤(i:Int) + 1:=by omega
 have hb2:(i:Int) + 1≤(n:Int):=by omega
 have hq:i + (n - (i + 1))=n - 1:=by omega
 have hLl:(cur.toList.take (i * 4) ++ news ++ cur.toList.drop (i * 4 + news.length)).length=cur.size:=by
  simp [hnl]
  omega
 obtain ⟨cur2,hc2⟩:∃ cur2,cur2=((cur.toList.take (i * 4) ++ news ++ cur.toList.drop (i * 4 + news.length)).toArray.toList.take ((n - 1) * 4) ++ (Value.agg #[.string ⟨#[]⟩, .int .i64 0, .int .i64 0, .slice none 0 0]).cells.toList ++ (cur.toList.take (i * 4) ++ news ++ cur.toList.drop (i * 4 + news.length)).toArray.toList.drop ((n - 1) * 4 + (Value.agg #[.string ⟨#[]⟩, .int .i64 0, .int .i64 0, .slice none 0 0]).cells.size)).toArray:=⟨_,rfl⟩
 have hcl:∀ ty c,(Builtin.clear_ #[30] ty #[.slice (some ⟨b,(n - 1) * 4,none⟩) (n - (n - 1)) c]).run Tryz.prog W1=.ok (.tuple #[]) (W1.setRow b cur2):=fun ty c=>by
  rw [show n - (n - 1)=1 by omega,hc2]
  exact Zwd W1 _ ty 138 T _ Tryz.underlying30 (Tryz.zeroValue138 _) b ((n - 1) * 4) c _ (by rw [hW1]; exact setRow_heap W.drew b cur _ T _ hg) (by intro v hv; simp [Value.cells] at hv; rcases hv with rfl | rfl | rfl <;> rfl) (by simp [Value.cells]) (by
   show (n - 1) * 4 + 4≤List.length _
   rw [hLl,hsz]
   omega)
 have X:Hid (cur2.size=cur.size∧cur2.toList.take ((n - 1) * 4)=cur.toList.take (i * 4) ++ news):=by
  have hk:(Value.agg #[.string ⟨#[]⟩, .int .i64 0, .int .i64 0, .slice none 0 0]).cells.size=4:=rfl
  have hk2:(Value.agg #[.string ⟨#[]⟩, .int .i64 0, .int .i64 0, .slice none 0 0]).cells.toList.length=4:=rfl
  have ht:(n - 1) * 4=i * 4 + news.length:=by rw [hnl]; omega
  refine ⟨?_,?_⟩
  ·exact ZzW
  ·rw [hc2]
   simp only [List.append_assoc]
   have hlt:(cur.toList.take (i * 4)).length=i * 4:=by rw [List.length_take,Array.length_toList,hsz]; omega
   have hl2:(cur.toList.take (i * 4) ++ news).length=i * 4 + news.length:=by rw [List.length_append,hlt]
   exact Zzk
 have Y:Hid (news=(cur.toList.drop ((i + 1) * 4)).take ((n - (i + 1)) * 4)):=hnews
 clear hc2 hLl
 clear hW1 hnews hg hnl
 go_enter Tryz.func210,Tryz.ntmps210
 go_wp2_with fail
 go_region_law_o (refine Zjw rfl (.tmp 22) (.tmp 25) 30 rfl 138 T _ 4 Tryz.underlying30 (by rfl) rfl b i cap cur s4.out (by simp [Act.eval,Act.put]) A (n - (i + 1)) (cap - (i + 1)) news (by simp [Act.eval,Act.put]) s1.out s5.out s2.out (by omega) s3.out ?_; rw [← hW.out])
 go_wp2
 go_ret
 exact ZAj
theorem Zlo (xs:List ZaO) (k j:Int) (hpre:ZHG xs.length k j):Zep Tryz.prog 210 (Zd7 0 [(.g false (.list Zaj)),(.a (.v Zax)),(.a (.v Zax))] (xs,k,j,())) (Zh3 0 [(.g false (.list Zaj)),(.a (.v Zax)),(.a (.v Zax))] (xs,k,j,())) (Zfj 0 [(.g false (.list Zaj)),(.a (.v Zax)),(.a (.v Zax))] (xs,k,j,()) ++ [.row Zaj (ZnE xs (Int.toNat k)) 0 0 none]) (inpM 0 [(.g false (.list Zaj)),(.a (.v Zax)),(.a (.v Zax))]) (.c (.row 1 0)) :=
 ZNb Zaj (fun W b n cap i cur T h1 h2 h3 h4 h5 h6=>Zwe W b n cap i cur T h1 h2 h3 h4 h5 h6) xs k j hpre
def ZNc (xs:List ZaO) (k j:Int):Prop:=ZHG xs.length k j
def Zlp:Zdb Tryz.prog:=⟨210,[(.g false (.list Zaj)),(.a (.v Zax)),(.a (.v Zax))],fun x=>ZNc x.1 x.2.1 x.2.2.1,fun x=>(x.1,x.2.1,x.2.2.1,()),fun x=>.c (.row 1 0),fun x=>[.row Zaj (ZnE x.1 (Int.toNat x.2.1)) 0 0 none],fun x hx=>Zlo x.1 x.2.1 x.2.2.1 hx,Tryz.call210⟩
set_option maxHeartbeats 4000000 in
theorem Zwf (W:World) (b n cap i:Nat) (cur:Array Value) (T:TypeId) (hg:W.heap[b]?=some (.cells cur T (0,0))) (hsz:cur.size=cap * 3) (hn:n≤cap) (hcm:cap≤9223372036854775807) (hi:i < n) (h1:∀ u ∈ cur.toList.take (n * 3),u.oneCell'=true) :
 Calls Tryz.prog 212 #[.slice (some ⟨b,0,none⟩) n cap, .int .i64 i, .int .i64 (i + 1:Nat)] W (fun e w'=>e=.returned (.slice (some ⟨b,0,none⟩) (n - 1) cap)∧∃ cur' : Array Value,w'=W.drew.setRow b cur'∧cur'.size=cur.size∧cur'.toList.take ((n - 1) * 3)=cur.toList.take (i * 3) ++ (cur.toList.drop ((i + 1) * 3)).take ((n - (i + 1)) * 3)):=by
 obtain ⟨news,hnews⟩:∃ news,news=(cur.toList.drop ((i + 1) * 3)).take ((n - (i + 1)) * 3):=⟨_,rfl⟩
 have hnl:news.length=(n - (i + 1)) * 3:=by
  exact ZAw
 have s1:Hid (news.length=(n - (i + 1)) * 3):=hnl
 have s2:Hid (∀ u ∈ news,u.oneCell'=true):=fun u hu=>by
  rw [hnews] at hu
  refine h1 u ?_
  have e:(cur.toList.drop ((i + 1) * 3)).take ((n - (i + 1)) * 3)=(cur.toList.take (n * 3)).drop ((i + 1) * 3):=by
   rw [List.drop_take]
   congr 1
   omega
  rw [e] at hu
  exact List.mem_of_mem_drop hu
 have s3:Hid (i * 3 + news.length≤cur.size):=by show _≤_; rw [hnl,hsz]; omega
 have s4:Hid (W.drew.heap[b]?=some (.cells cur T (0,0))):=hg
 obtain ⟨A,hA,s5⟩:∃ A:Addr,(if cap=i + 1 then (some ⟨b,0,none⟩:Option Addr) else some ⟨b,(i + 1) * 3,none⟩)=some A∧Hid (∀ j u,news[j]?=some u→W.drew.cell? (A.add j)=some u):=by
  by_cases h:cap=i + 1
  ·exact ZzE
  ·refine ⟨⟨b,(i + 1) * 3,none⟩,by simp [h],fun j u hj=>?_⟩
   exact Zzr
 obtain ⟨W1,hW1⟩:∃ W1,W1=W.drew.setRow b (cur.toList.take (i * 3) ++ news ++ cur.toList.drop (i * 3 + news.length)).toArray:=⟨_,rfl⟩
 have hW:Hid (W1=W.drew.setRow b (cur.toList.take (i * 3) ++ news ++ cur.toList.drop (i * 3 + news.length)).toArray):=hW1
 have hic:i≤cap:=by omega
 have hjc:i + 1≤cap:=by omega
 have mixed:Tryz.prog.follows .mixedOrders=true:=by decide
 have hb1:(0:Int)≤(i:Int) + 1:=by omega
 have hb2:(i:Int) + 1≤(n:Int):=by omega
 have hq:i + (n - (i + 1))=n - 1:=by omega
 have hLl:(cur.toList.take (i * 3) ++ news ++ cur.toList.drop (i * 3 + news.length)).length=cur.size:=by
  simp [hnl]
  omega
 obtain ⟨cur2,hc2⟩:∃ cur2,cur2=((cur.toList.take (i * 3) ++ news ++ cur.toList.drop (i * 3 + news.length)).toArray.toList.take ((n - 1) * 3) ++ (Value.agg #[.int .i64 0, .int .i64 0, .string ⟨#[]⟩]).cells.toList ++ (cur.toList.take (i * 3) ++ news ++ cur.toList.drop (i * 3 + news.length)).toArray.toList.drop ((n - 1) * 3 + (Value.agg #[.int .i64 0, .int .i64 0, .string ⟨#[]⟩]).cells.size)).toArray:=⟨_,rfl⟩
 have hcl:∀ ty c,(Builtin.clear_ #[136] ty #[.slice (some ⟨b,(n - 1) * 3,none⟩) (n - (n - 1)) c]).run Tryz.prog W1=.ok (.tuple #[]) (W1.setRow b cur2):=fun ty c=>by
  rw [show n - (n - 1)=1 by omega,hc2]
  exact Zwd W1 _ ty 187 T _ Tryz.underlying136 (Tryz.zeroValue187 _) b ((n - 1) * 3) c _ (by rw [hW1]; exact setRow_heap W.drew b cur _ T _ hg) (by intro v hv; simp [Value.cells] at hv; rcases hv with rfl | rfl <;> rfl) (by simp [Value.cells]) (by
   show (n - 1) * 3 + 3≤List.length _
   rw [hLl,hsz]
   omega)
 have X:Hid (cur2.size=cur.size∧cur2.toList.take ((n - 1) * 3)=cur.toList.take (i * 3) ++ news):=by
  have hk:(Value.agg #[.int .i64 0, .int .i64 0, .string ⟨#[]⟩]).cells.size=3:=rfl
  have hk2:(Value.agg #[.int .i64 0, .int .i64 0, .string ⟨#[]⟩]).cells.toList.length=3:=rfl
  have ht:(n - 1) * 3=i * 3 + news.length:=by rw [hnl]; omega
  refine ⟨?_,?_⟩
  ·exact ZzW
  ·rw [hc2]
   simp only [List.append_assoc]
   have hlt:(cur.toList.take (i * 3)).length=i * 3:=by rw [List.length_take,Array.length_toList,hsz]; omega
   have hl2:(cur.toList.take (i * 3) ++ news).length=i * 3 + news.length:=by rw [List.length_append,hlt]
   exact Zzk
 have Y:Hid (news=(cur.toList.drop ((i + 1) * 3)).take ((n - (i + 1)) * 3)):=hnews
 clear hc2 hLl
 clear hW1 hnews hg hnl
 go_enter Tryz.func212,Tryz.ntmps212
 go_wp2_with fail
 go_region_law_o (refine Zjw rfl (.tmp 22) (.tmp 25) 136 rfl 187 T _ 3 Tryz.underlying136 (by rfl) rfl b i cap cur s4.out (by simp [Act.eval,Act.put]) A (n - (i + 1)) (cap - (i + 1)) news (by simp [Act.eval,Act.put]) s1.out s5.out s2.out (by omega) s3.out ?_; rw [← hW.out])
 go_wp2
 go_ret
 exact ZAj
theorem Zlq (xs:List Zdr) (k j:Int) (hpre:ZHG xs.length k j):Zep Tryz.prog 212 (Zd7 0 [(.g false (.list ZaR)),(.a (.v Zax)),(.a (.v Zax))] (xs,k,j,())) (Zh3 0 [(.g false (.list ZaR)),(.a (.v Zax)),(.a (.v Zax))] (xs,k,j,())) (Zfj 0 [(.g false (.list ZaR)),(.a (.v Zax)),(.a (.v Zax))] (xs,k,j,()) ++ [.row ZaR (ZJM xs (Int.toNat k)) 0 0 none]) (inpM 0 [(.g false (.list ZaR)),(.a (.v Zax)),(.a (.v Zax))]) (.c (.row 1 0)) :=
 ZNb ZaR (fun W b n cap i cur T h1 h2 h3 h4 h5 h6=>Zwf W b n cap i cur T h1 h2 h3 h4 h5 h6) xs k j hpre
def ZNd (xs:List Zdr) (k j:Int):Prop:=ZHG xs.length k j
def Zlr:Zdb Tryz.prog:=⟨212,[(.g false (.list ZaR)),(.a (.v Zax)),(.a (.v Zax))],fun x=>ZNd x.1 x.2.1 x.2.2.1,fun x=>(x.1,x.2.1,x.2.2.1,()),fun x=>.c (.row 1 0),fun x=>[.row ZaR (ZJM x.1 (Int.toNat x.2.1)) 0 0 none],fun x hx=>Zlq x.1 x.2.1 x.2.2.1 hx,Tryz.call212⟩
end Go.Proofs.YtafhbjjcpncfnaaGreat
