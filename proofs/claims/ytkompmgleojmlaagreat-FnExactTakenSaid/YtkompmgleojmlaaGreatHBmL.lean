import Derived.Test.YtkompmgleojmlaaGreatHBmW
import Derived.Test.YtkompmgleojmlaaGreatHBmE
import Derived.MapKept
import Derived.Deep.LoopGhost
import Derived.Still
import Derived.Laws.Cover3
set_option linter.unusedSimpArgs false
set_option linter.unusedVariables false
namespace Go.Proofs.YtkompmgleojmlaaGreat
open Go.ChangeShapes Go.WideShapes Go.ChangeAt Go.RowKit Go.Joins Go.Deep
open GoRep (rep bulk)
section
variable {P:Program} {X X' : List Nat} {W:World} {E:Env} {M:Mem} {a:Act} {tm:List AV} {o:Oper}
theorem ZlJ:∀ {pm qm:Mem} {j:Nat} {l:List AC},Zg2 pm qm=true→pm[j]?=some (.box l)→∃ l',qm[j]?=some (.box l')
 | [],_,_,_,_,h=>by simp at h
 | .row _ _ _ _ none :: pm, .row _ _ _ _ none :: qm,0,l,hs,h=>by cases h
 | .row _ _ _ _ none :: pm, .row _ _ _ _ none :: qm,j + 1,l,hs,h=>by
  unfold Zg2 at hs
  rw [Bool.and_eq_true] at hs
  obtain ⟨l',hq⟩:=ZlJ hs.2 (show pm[j]?=some _ by simpa using h)
  exact Zm2
 | .box _ :: pm, .box l' :: qm,0,l,hs,h=>⟨l',rfl⟩
 | .box _ :: pm, .box _ :: qm,j + 1,l,hs,h=>by
  unfold Zg2 at hs
  obtain ⟨l',hq⟩:=ZlJ hs (show pm[j]?=some _ by simpa using h)
  exact Zm2
 | .row _ _ _ _ none :: _,[],_,_,hs,_=>by cases hs
 | .row _ _ _ _ none :: _, .box _ :: _,_,_,hs,_=>by cases hs
 | .row _ _ _ _ none :: _, .mp _ :: _,_,_,hs,_=>by cases hs
 | .row _ _ _ _ none :: _, .dead :: _,_,_,hs,_=>by cases hs
 | .box _ :: _,[],_,_,hs,_=>by cases hs
 | .box _ :: _, .row _ _ _ _ none :: _,_,_,hs,_=>by cases hs
 | .box _ :: _, .mp _ :: _,_,_,hs,_=>by cases hs
 | .box _ :: _, .dead :: _,_,_,hs,_=>by cases hs
 | .mp _ :: _,_,_,_,hs,_=>by cases hs
 | .dead :: _,_,_,_,hs,_=>by cases hs
theorem ZIX {new:Mem} {us:List (Option Nat)} (hu:Zdv X X' W E M new us 0 us):∀ i ∈ somes us,i < E.length:=fun i hi=>by
 obtain ⟨j,hj⟩:=ZmN hi
 obtain ⟨e,he,_⟩:=hu.get hj
 exact (List.getElem?_eq_some_iff.1 he).1
theorem ZGL {us:List (Option Nat)} (hM:RepM X W E M) (hd:ZbS (somes us)=true) (hl:∀ i ∈ somes us,i < E.length):(foots (pickE E us)).Nodup:=by
 refine Zdk fun x=>?_
 rw [Zg7]
 have c1:=ZhB (E:=E) x hd hl
 have c2:=ZmQ hM x
 omega
theorem Zqk {new:Mem} {us:List (Option Nat)} (hM:RepM X W E M) (hu:Zdv X X' W E M new us 0 us) (hl:us.length=new.length) (hd:ZbS (somes us)=true) (hx:∀ b ∈ X',b ∉ foots (pickE E us)) (hsz:∀ b ∈ X',b < W.heap.size):RepM X' W (pickE E us) new:=by
 refine ⟨by rw [Zre]; exact hl.symm,ZGL hM hd (ZIX hu),fun i b e hb he=>?_,fun b hb=>hM.lt b (Zey b hb),hx,hsz⟩
 rw [Zka] at he
 cases hq:us[i]? with
 | none=>rw [hq] at he; cases he
 | some u =>
  rw [hq] at he
  have hget:=hu.get hq
  rw [Nat.zero_add] at hget
  cases u with
  | none =>
   obtain ⟨t,ht⟩:=hget
   rw [ht] at hb
   obtain rfl:=Option.some.inj hb
   obtain rfl:=Option.some.inj he
   exact ⟨0,[],[],World.ownsRow_nil W 0 0 t.n,⟨rfl,rfl⟩,rfl⟩
  | some j =>
   obtain ⟨e',h2,h3⟩:=hget
   have he:some (E.getD j ⟨0,undef,[]⟩)=some e:=he
   rw [List.getD_eq_getElem?_getD,h2] at he
   obtain rfl:=Option.some.inj he
   rcases h3 with ⟨t,xs,v',c,h1,h4⟩ | ⟨l,l',h1,h4,h5⟩
   ·rw [h4] at hb
    obtain rfl:=Option.some.inj hb
    exact hM.at_ j _ e' h1 h2
   ·rw [h4] at hb
    obtain rfl:=Option.some.inj hb
    obtain ⟨q1,cs,T,q2,q3⟩:=hM.at_ j _ e' h1 h2
    exact ⟨q1,cs,T,q2,h5 _ q3⟩
def ZOB (E:Env) (n:Nat) (ρ:List Nat) (E' : Env):Env:=ZMk (fun i=>match ZvF i ρ with
 | some j=>(E'[j]?).map (fun e'=>(⟨(match E[i]? with | some e=>e.blk | none=>e'.blk),e'.val,e'.foot⟩:EB))
 | none=>none) 0 (E ++ List.replicate n ⟨0,undef,[]⟩)
set_option maxHeartbeats 1000000 in
theorem ZDK {e:Zdj P} {args:List AV} {vs:List Value} (hgl:Zjp W E) (hM:RepM X W E M) (hr:Zcv X W E M args vs) (hn:(ZDZ e M args).need) :
 Calls P e.f vs.toArray W (fun en W'=>∃ u E',en=.returned u∧ZbW W E W' E'∧Zbr W E M W' E' (ZDZ e M args).mem∧RepM X W' E' (ZDZ e M args).mem∧Zdt X W' E' (ZDZ e M args).mem (ZDZ e M args).val u):=by
 unfold ZDZ at hn ⊢
 cases hd:ZLv M e.ins args with
 | none=>rw [hd] at hn; exact hn.elim
 | some x =>
 rw [hd] at hn
 simp only at hn ⊢
 obtain ⟨⟨hpre,hneed⟩,hchk⟩:=hn
 simp only [Bool.and_eq_true] at hchk
 obtain ⟨⟨⟨c1,c2⟩,c3,c4⟩,⟨c5,c6⟩,c7⟩:=hchk
 have c2:=Nat.eq_of_beq_eq_true c2
 have c3:=Nat.eq_of_beq_eq_true c3
 obtain ⟨pm,hpm⟩:∃ pm,pm=Zh2 0 e.ins x:=⟨_,rfl⟩
 rw [← hpm] at hneed c1 c2 c3 c4 c5 c6 c7 ⊢
 obtain ⟨us0,hus0⟩:∃ us,us=(Zg1 M pm [] e.ins args (Zea 0 e.ins x)).used:=⟨_,rfl⟩
 rw [← hus0] at c1 c2 c3 c4 ⊢
 obtain ⟨qm,hqm⟩:∃ qm,qm=Zfm 0 e.ins (e.post x) ++ e.new x:=⟨_,rfl⟩
 rw [← hqm] at c3 c6 c7 ⊢
 obtain ⟨nam,hnam⟩:∃ nam,nam=namA M e.ins args:=⟨_,rfl⟩
 rw [← hnam] at c4 c5 c6
 obtain ⟨us,hus⟩:∃ us,us=us0 ++ List.replicate (e.new x).length none:=⟨_,rfl⟩
 rw [← hus] at c3 ⊢
 obtain ⟨inp,hinp⟩:∃ inp,inp=inpM 0 e.ins:=⟨_,rfl⟩
 rw [← hinp]
 obtain ⟨Xc,hXc⟩:∃ Xc,Xc=if nam.isEmpty=true then X ++ (foots E).filter (fun b=>!(foots (pickE E us0)).contains b) else X:=⟨_,rfl⟩
 have hXin:∀ b ∈ Xc,b ∈ X∨b ∈ foots E:=fun b hb=>by
  rw [hXc] at hb
  split at hb
  ·rcases List.mem_append.1 hb with h | h
   ·exact .inl h
   ·exact .inr (List.mem_filter.1 h).1
  ·exact .inl hb
 have hXX:∀ b ∈ X,b ∈ Xc:=fun b hb=>by
  rw [hXc]; split
  ·exact Zkj
  ·exact hb
 have hXp:∀ b ∈ Xc,b ∉ foots (pickE E us0):=fun b hb hf=>by
  rw [hXc] at hb
  split at hb
  ·rcases List.mem_append.1 hb with h | h
   ·exact hM.xlt b h (Zey b hf)
   ·have:=(List.mem_filter.1 h).2
    simp [hf] at this
  ·exact hM.xlt b hb (Zey b hf)
 have hXsz:∀ b ∈ Xc,b < W.heap.size:=fun b hb=>(hXin b hb).elim (hM.xsz b) (hM.lt b)
 have disj:∀ (i:Nat) (ei:EB),E[i]?=some ei→i ∉ somes us0→∀ b ∈ ei.foot,b ∉ foots (pickE E us0):=fun i ei hi hni b hb hf=>by
  rw [Zg7] at hf
  obtain ⟨j,hj,ej,hej,hbj⟩:=ZmP hf
  exact ZdN hM.nodup hi hej (fun h=>hni (h ▸ hj)) hb hbj
 have c4' : ∀ i ∈ nam,i ∉ somes us0:=fun i hi hs=>by
  have h1:=List.all_eq_true.1 c4 i hi
  have h2:=List.all_eq_true.1 h1 i hs
  simp at h2
 have hS:∀ b ∈ Xc ++ foots (pickE E us0),b ∈ X∨(b ∈ foots E∧∀ i ∈ namA M e.ins args,∀ e,E[i]?=some e→b ∉ e.foot):=fun b hb=>by
  rw [← hnam]
  rcases List.mem_append.1 hb with h | h
  ·rw [hXc] at h
   split at h
   ·rename_i hem
    have:nam=[]:=List.isEmpty_iff.1 hem
    rcases List.mem_append.1 h with h | h
    ·exact .inl h
    ·exact .inr ⟨(List.mem_filter.1 h).1,fun i hi=>by rw [this] at hi; cases hi⟩
   ·exact .inl h
  ·exact .inr ⟨Zey b h,fun i hi ei hei hbe=>disj i ei hei (c4' i hi) b hbe h⟩
 obtain ⟨hu,hargs⟩:=ZlV (X':=Xc) (new:=pm) (us:=us0) (k:=0) (acc:=[]) hM hXin (fun q u h=>by simp at h) hd hneed hr (fun q u h=>by rw [← hus0] at h; simpa using h) hS
 rw [← hus0] at hu
 have hu:Zdv X Xc W E M pm us0 0 us0:=hu
 have hlt:=ZIX hu
 have hpick:=Zqk hM hu c2 c1 hXp hXsz
 have hml:M.length=E.length:=hM.len
 have hok:=e.ok x hpre Xc W (pickE E us0) vs (hgl.sub (fun b hb=>Zey b hb)) (by rw [← hpm]; exact hpick) (by rw [← hpm]; exact hargs)
 rw [← hpm,← hqm,← hinp] at hok
 refine hok.mono fun en W' hq=>?_
 obtain ⟨v,E',rfl,g,hblk,hval,rm,rv⟩:=hq
 have hsn:somes us=somes us0:=by
  rw [hus]
  have:∀ (l:List (Option Nat)) (n:Nat),somes (l ++ List.replicate n none)=somes l:=fun l n=>by
   induction l with
   | nil=>induction n with
    | zero=>rfl
    | succ n ih=>simpa [List.replicate_succ,somes] using ih
   | cons q l ih=>cases q <;> simp [somes,ih]
  exact this _ _
 have hus_lt:∀ (j:Nat) (u:Option Nat),us0[j]?=some u→us[j]?=some u:=fun j u h=>by rw [hus,List.getElem?_append_left (List.getElem?_eq_some_iff.1 h).1]; exact h
 have hpl:pm.length=us0.length:=c2.symm
 have hus_some:∀ (j i:Nat),us[j]?=some (some i)→us0[j]?=some (some i):=fun j i h=>by
  rw [hus] at h
  by_cases hl:j < us0.length
  ·rwa [List.getElem?_append_left hl] at h
  ·rw [List.getElem?_append_right (by omega)] at h
   have:=List.mem_of_getElem? h
   rw [List.mem_replicate] at this
   cases this.2
 have hinj:∀ {j k i:Nat},(Zx4 M.length us)[j]?=some i→(Zx4 M.length us)[k]?=some i→j=k:=fun {j k i}=>ZLF (by rw [hsn]; exact c1) (fun i hi=>by rw [hsn] at hi; rw [hml]; exact hlt i hi)
 have hrlen:(Zx4 M.length us).length=qm.length:=by rw [ZmO,c3]
 have hE'len:E'.length=qm.length:=rm.len.symm
 have hrange:∀ (j i:Nat),(Zx4 M.length us)[j]?=some i→i < M.length + ZeT us∧(i < M.length→us0[j]?=some (some i))∧(¬ i < M.length→us[j]?=some none):=fun j i h=>by
  have lj:=(List.getElem?_eq_some_iff.1 h).1
  rw [ZmO] at lj
  have gj:=ZkC (n:=M.length) (List.getElem?_eq_getElem lj)
  rw [h] at gj
  cases hu' : us[j] with
  | some p =>
   rw [hu'] at gj
   obtain rfl:i=p:=Option.some.inj gj
   have h1:us[j]?=some (some i):=by rw [List.getElem?_eq_getElem lj,hu']
   have h2:=hus_some j i h1
   have h3:=hlt i (Zg8 h2)
   exact ⟨by omega,fun _=>h2,fun h=>absurd (by omega) h⟩
  | none =>
   rw [hu'] at gj
   have e1:i=M.length + ZeT (us.take j):=Option.some.inj gj
   have h1:us[j]?=some none:=by rw [List.getElem?_eq_getElem lj,hu']
   have h2:=ZLE h1
   exact ⟨by omega,fun h=>by omega,fun _=>h1⟩
 obtain ⟨ρ,hρ⟩:∃ ρ,ρ=Zx4 M.length us:=⟨_,rfl⟩
 rw [← hρ] at hrlen
 simp only [← hρ] at hinj hrange ⊢
 obtain ⟨ws,hws⟩:∃ ws,ws=ZN8 M inp 0 ρ:=⟨_,rfl⟩
 obtain ⟨cs,hcs⟩:∃ cs,cs=ZJm M ρ:=⟨_,rfl⟩
 rw [← hws,← hcs]
 obtain ⟨Mc,hMc⟩:∃ Mc,Mc=ZOc M (ZeT us) ρ ws cs qm:=⟨_,rfl⟩
 obtain ⟨Ec,hEc⟩:∃ Ec,Ec=ZOB E (ZeT us) ρ E':=⟨_,rfl⟩
 rw [← hMc]
 have hMclen:Mc.length=M.length + ZeT us:=by rw [hMc]; unfold ZOc; rw [ZvP]; simp
 have hEclen:Ec.length=M.length + ZeT us:=by rw [hEc]; unfold ZOB; rw [ZvP]; simp [hml]
 have atM:∀ (i j:Nat),ρ[j]?=some i→∃ (b:Blk) (e' : EB),qm[j]?=some b∧E'[j]?=some e'∧Mc[i]?=some (ZPC ρ ws (ws.getD j 0) (cs.getD j 0) b)∧Ec[i]?=some ⟨(match E[i]? with | some e=>e.blk | none=>e'.blk),e'.val,e'.foot⟩:=fun i j hj=>by
  have lj:=(List.getElem?_eq_some_iff.1 hj).1
  have hqj:qm[j]?=some qm[j]:=List.getElem?_eq_getElem (by omega)
  have hej:E'[j]?=some E'[j]:=List.getElem?_eq_getElem (by omega)
  have hi:=(hrange j i hj).1
  have hlk:ZvF i ρ=some j:=by
   cases hq:ZvF i ρ with
   | none=>exact absurd hj (Zrh hq j)
   | some k=>rw [hinj (ZhA hq) hj]
  refine ⟨_,_,hqj,hej,?_,?_⟩
  ·rw [hMc]
   unfold ZOc
   rw [ZoX,Nat.zero_add,hlk]
   simp only [hqj,Option.map_some]
   rw [List.getElem?_eq_getElem (by simpa using hi)]
   rfl
  ·rw [hEc]
   unfold ZOB
   rw [ZoX,Nat.zero_add,hlk]
   simp only [hej,Option.map_some]
   have hlE:i < (E ++ List.replicate (ZeT us) (⟨0,undef,[]⟩:EB)).length:=by rw [List.length_append,List.length_replicate]; omega
   rw [List.getElem?_eq_getElem hlE]
   rfl
 have offM:∀ i:Nat,ZvF i ρ=none→Mc[i]?=(M ++ List.replicate (ZeT us) .dead)[i]?∧Ec[i]?=(E ++ List.replicate (ZeT us) ⟨0,undef,[]⟩)[i]?:=fun i hlk=>by
  refine ⟨?_,?_⟩
  ·rw [hMc]
   unfold ZOc
   exact ZAx
  ·rw [hEc]
   unfold ZOB
   exact ZAx
 have notin:∀ i:Nat,ZvF i ρ=none→i < M.length→i ∉ somes us0:=fun i hlk hi hs=>by
  obtain ⟨j,hj⟩:=ZmN hs
  have h1:=hus_lt j _ hj
  have:=ZkC (n:=M.length) h1
  rw [← hρ] at this
  exact Zrh hlk j this
 have keepR:∀ b,b < W.heap.size→b ∉ foots (pickE E us0)→W'.heap[b]?=W.heap[b]?:=g.keep
 have footR:∀ (i:Nat) (ei:EB),Ec[i]?=some ei→(∃ (j:Nat) (e' : EB),ρ[j]?=some i∧E'[j]?=some e'∧ei.foot=e'.foot)∨(ZvF i ρ=none∧E[i]?=some ei∧i < M.length)∨ei.foot=[]:=fun i ei hi=>by
  cases hlk:ZvF i ρ with
  | some j =>
   obtain ⟨b,e',_,h2,_,h4⟩:=atM i j (ZhA hlk)
   rw [hi] at h4
   obtain rfl:=Option.some.inj h4
   exact .inl ⟨j,e',ZhA hlk,h2,rfl⟩
  | none =>
   rw [(offM i hlk).2] at hi
   by_cases hl:i < E.length
   ·rw [List.getElem?_append_left hl] at hi
    exact .inr (.inl ⟨rfl,hi,by omega⟩)
   ·rw [List.getElem?_append_right (by omega)] at hi
    have:=List.mem_of_getElem? hi
    rw [List.mem_replicate] at this
    exact .inr (.inr (by rw [this.2]))
 have inEc:∀ b ∈ foots Ec,b ∈ foots E'∨(b ∈ foots E∧b ∉ foots (pickE E us0)):=fun b hb=>by
  obtain ⟨ei,hm,hbe⟩:=Zbd.1 hb
  obtain ⟨i,hi⟩:=List.mem_iff_getElem?.1 hm
  rcases footR i ei hi with ⟨j,e',_,h2,h3⟩ | ⟨h1,h2,h3⟩ | h
  ·rw [h3] at hbe
   exact .inl (Zbd.2 ⟨e',List.mem_of_getElem? h2,hbe⟩)
  ·exact .inr ⟨Zbd.2 ⟨ei,List.mem_of_getElem? h2,hbe⟩,disj i ei h2 (notin i h1 h3) b hbe⟩
  ·rw [h] at hbe; cases hbe
 have hgrow:ZbW W E W' Ec:=⟨g.os,g.tape,g.output,g.size,fun b hb hnb=>g.keep b hb (fun h=>hnb (Zey b h)),fun b hb=>(inEc b hb).elim (fun h=>(g.new b h).imp (Zey b) id) (fun h=>.inl h.1),fun i ei hi=>by
  cases hlk:ZvF i ρ with
  | some j =>
   obtain ⟨b,e',_,h2,_,h4⟩:=atM i j (ZhA hlk)
   rw [hi] at h4
   exact ⟨_,h4,rfl⟩
  | none =>
   refine ⟨ei,?_,rfl⟩
   rw [(offM i hlk).2,List.getElem?_append_left (List.getElem?_eq_some_iff.1 hi).1]
   exact hi⟩
 have usedAt:∀ (i j:Nat),ρ[j]?=some i→i < M.length→∃ ei,E[i]?=some ei∧(pickE E us0)[j]?=some ei∧((∃ (t:Ty) (xs:List t.den) (v c:Nat),M[i]?=some (.row t xs v c none)∧pm[j]?=some (.row t xs 0 0 none))∨∃ l l',M[i]?=some (.box l)∧pm[j]?=some (.box l')):=fun i j hj hi=>by
  have h1:=(hrange j i hj).2.1 hi
  have h2:=hu.get h1
  rw [Nat.zero_add] at h2
  obtain ⟨ei,he,h3⟩:=h2
  refine ⟨ei,he,ZeF h1 he,h3.imp id (fun ⟨l,l',q1,q2,_⟩=>⟨l,l',q1,q2⟩)⟩
 have hmem:Zbr W E M W' Ec Mc:=Zha (fun i t xs v c hh hi=>by
  have hil:=(List.getElem?_eq_some_iff.1 hi).1
  cases hlk:ZvF i ρ with
  | some j =>
   have hj:=ZhA hlk
   obtain ⟨ei,he,hpe,h3⟩:=usedAt i j hj hil
   rcases h3 with ⟨t',xs',v',c',q1,q2⟩ | ⟨l,l',q1,_⟩
   ·rw [hi] at q1
    injection q1 with q1
    injection q1 with q1 q3 q4 q5 q6
    subst q1
    subst q4
    subst q5
    subst q6
    obtain ⟨ys,v2,c2',hq⟩:=ZnC c7 q2
    obtain ⟨b,e',r1,r2,r3,r4⟩:=atM i j hj
    rw [hq] at r1
    obtain rfl:=Option.some.inj r1
    have hv:=ZFp (M:=M) (inp:=inp) (k:=0) hj
    have hc:=Zyl (M:=M) hj
    rw [← hws,hi] at hv
    rw [← hcs,hi] at hc
    simp only [Nat.zero_add] at hv hc
    cases hin:inp.any (Nat.beq j) with
    | true =>
     rw [hin] at hv
     simp only [cond_true] at hv
     refine .inr (.inr (.inl ⟨ys,cs.getD j 0,none,by rw [r3,hv]; rfl,by omega,fun ei' hei'=>?_⟩))
     rw [he] at hei'
     obtain rfl:=Option.some.inj hei'
     have hjin:j ∈ inp:=by
      obtain ⟨z,hz1,hz2⟩:=List.any_eq_true.1 hin
      rw [Nat.eq_of_beq_eq_true hz2]
      exact hz1
     obtain ⟨e2,k1,k2⟩:=hval j hjin ei hpe
     rw [r2] at k1
     obtain rfl:=Option.some.inj k1
     exact ⟨_,r4,k2⟩
    | false =>
     rw [hin] at hv
     simp only [cond_false] at hv
     exact .inr (.inl ⟨ys,ws.getD j 0,cs.getD j 0,none,by rw [r3]; rfl,by omega⟩)
   ·rw [hi] at q1; cases q1
  | none =>
   obtain ⟨o1,o2⟩:=offM i hlk
   refine .inr (.inr (.inr ⟨by rw [o1,List.getElem?_append_left hil]; exact hi,fun ei hei=>⟨by rw [o2,List.getElem?_append_left (List.getElem?_eq_some_iff.1 hei).1]; exact hei,fun q hq=>?_⟩⟩))
   exact keepR q (hM.lt q (Zbd.2 ⟨ei,List.mem_of_getElem? hei,hq⟩)) (disj i ei hei (notin i hlk hil) q hq)) (fun i hi=>by
  have hil:=(List.getElem?_eq_some_iff.1 hi).1
  cases hlk:ZvF i ρ with
  | some j =>
   obtain ⟨ei,he,hpe,h3⟩:=usedAt i j (ZhA hlk) hil
   rcases h3 with ⟨t',xs',v',c',q1,q2⟩ | ⟨l,l',q1,_⟩
   ·rw [hi] at q1; cases q1
   ·rw [hi] at q1; cases q1
  | none =>
   rw [(offM i hlk).1,List.getElem?_append_left hil]
   exact hi)
 have blkOk:∀ (j:Nat) (l' : List AC) (e' : EB),pm[j]?=some (.box l')→E'[j]?=some e'→∀ i:Nat,ρ[j]?=some i→(match E[i]? with | some e=>e.blk | none=>e'.blk)=e'.blk:=fun j l' e' hb he' i hj=>by
  cases hEi:E[i]? with
  | none=>rfl
  | some ei =>
   have hi:i < M.length:=by rw [hml]; exact (List.getElem?_eq_some_iff.1 hEi).1
   obtain ⟨e2,k1,k2,_⟩:=usedAt i j hj hi
   rw [hEi] at k1
   obtain rfl:=Option.some.inj k1
   obtain ⟨e3,q1,q2⟩:=hblk j l' ei hb k2
   rw [he'] at q1
   obtain rfl:=Option.some.inj q1
   exact q2.symm
 have ρtot:∀ j:Nat,j < qm.length→ρ[j]?=some (ρ.getD j 0):=fun j hj=>by
  rw [List.getD_eq_getElem?_getD,List.getElem?_eq_getElem (by omega)]
  rfl
 have renC_rep:∀ {c:AC} {u:Value},Zx5 pm nam.isEmpty c=true→Zb7 Xc W' E' qm c u→Zb7 X W' Ec Mc (ZN9 ρ ws c) u:=fun {c u} ho h=>by
  cases c with
  | int k n=>exact h
  | bool b=>exact h
  | str s=>exact h
  | opq s=>exact h
  | raw r=>exact h
  | mp j=>cases ho
  | hs L t xs =>
   cases L with
   | «at» i v c=>cases ho
   | no =>
    obtain ⟨h0,F,h1,h2⟩:=h
    refine ⟨h0,F,h1,fun b hb=>⟨⟨fun hm=>?_,fun hm=>(h2 b hb).1.2 (hXX b hm)⟩,(h2 b hb).2⟩⟩
    rcases inEc b hm with h | ⟨h3,h4⟩
    ·exact (h2 b hb).1.1 h
    ·refine (h2 b hb).1.2 ?_
     have ho:nam.isEmpty=true:=ho
     rw [hXc,if_pos ho]
     exact List.mem_append_right _ (List.mem_filter.2 ⟨h3,by simp [h4]⟩)
  | row j w =>
   obtain rfl:=Nat.eq_of_beq_eq_true (show Nat.beq w 0=true from ho)
   refine ⟨h.1,?_⟩
   have h2:=h.2
   unfold ZcA at h2
   cases hq:qm[j]? with
   | none=>rw [hq] at h2; exact h2.elim
   | some b =>
    rw [hq] at h2
    have hj:=ρtot j (List.getElem?_eq_some_iff.1 hq).1
    obtain ⟨b',e',r1,r2,r3,r4⟩:=atM _ j hj
    rw [hq] at r1
    obtain rfl:=Option.some.inj r1
    have hob:=List.all_eq_true.1 c6 b (List.mem_of_getElem? hq)
    show ZcA Ec Mc (ρ.getD j 0) (ws.getD j 0) _
    unfold ZcA
    rw [r3]
    cases b with
    | box l=>exact h2.elim
    | mp _=>exact h2.elim
    | dead=>cases hob
    | row t xs v c hh =>
     cases hh with
     | some _=>cases hob
     | none =>
      have hob:(Nat.beq v 0 && Nat.beq c 0)=true:=hob
      rw [Bool.and_eq_true] at hob
      obtain rfl:=Nat.eq_of_beq_eq_true hob.1
      refine ⟨Nat.le_refl _,fun _=>⟨_,r4,?_⟩⟩
      obtain ⟨e2,k1,k2⟩:=h2.2 rfl
      rw [r2] at k1
      obtain rfl:=Option.some.inj k1
      exact k2
  | bp j o =>
   obtain ⟨e',h1,h2⟩:=(h:Zjo E' j u o)
   have ho:ZDX pm j=true:=ho
   unfold ZDX at ho
   split at ho
   ·rename_i l' hl'
    have hj:=ρtot j (by rw [← hE'len]; exact (List.getElem?_eq_some_iff.1 h1).1)
    obtain ⟨b',e2,r1,r2,r3,r4⟩:=atM _ j hj
    rw [h1] at r2
    obtain rfl:=Option.some.inj r2
    exact ⟨_,r4,by rw [h2]; simp only; rw [blkOk j l' e' hl' h1 _ hj]⟩
   ·cases ho
  | ep L t xs k o=>cases ho
  | rp i v n k o=>cases ho
  | sl i v c n k o=>cases ho
  | tl i v n k=>cases ho
  | sp i v c n k o m x q=>cases ho
  | fn f l=>cases ho
  | junk=>cases ho
 have renL_rep:∀ {l:List AC} {us:List Value},l.all (Zx5 pm nam.isEmpty)=true→ZcK Xc W' E' qm l us→ZcK X W' Ec Mc (l.map (ZN9 ρ ws)) us:=fun {l}=>by
  induction l with
  | nil=>intro us _ h; exact h
  | cons c l ih =>
   intro us ho h
   obtain ⟨v,r,e,h1,h2⟩:=h
   rw [List.all_cons,Bool.and_eq_true] at ho
   exact ⟨v,r,e,renC_rep ho.1 h1,ih ho.2 h2⟩
 have renW_rep:∀ {x:AW} {u:Value},ZFj pm nam.isEmpty x=true→Zk1 Xc W' E' qm x u→Zk1 X W' Ec Mc (ZOF ρ ws x) u:=fun {x u} ho h=>by
  cases x with
  | c c=>exact renC_rep ho h
  | ag l=>obtain ⟨us,e,h⟩:=h; exact ⟨us,e,renL_rep ho h⟩
 have renWs_rep:∀ {l:List AW} {us:List Value},l.all (ZFj pm nam.isEmpty)=true→Zd2 Xc W' E' qm l us→Zd2 X W' Ec Mc (l.map (ZOF ρ ws)) us:=fun {l}=>by
  induction l with
  | nil=>intro us _ h; exact h
  | cons c l ih =>
   intro us ho h
   obtain ⟨v,r,e,h1,h2⟩:=h
   rw [List.all_cons,Bool.and_eq_true] at ho
   exact ⟨v,r,e,renW_rep ho.1 h1,ih ho.2 h2⟩
 have hRepM:RepM X W' Ec Mc:=by
  refine ZiX hM hgrow hmem (by rw [hMclen,hEclen]) (Zrg (fun i ei hi=>?_) (fun i k ei ek hik hi hk b hb hbk=>?_)) (fun i b ei hb hi=>?_) (fun b hb=>?_)
  ·rcases footR i ei hi with ⟨j,e',_,h2,h3⟩ | ⟨_,h2,_⟩ | h
   ·rw [h3]; exact ZnB rm.nodup h2
   ·exact ZnB hM.nodup h2
   ·rw [h]; exact List.nodup_nil
  ·rcases footR i ei hi with ⟨j,e',j1,j2,j3⟩ | ⟨i1,i2,i3⟩ | h
   ·rcases footR k ek hk with ⟨j',e'',k1,k2,k3⟩ | ⟨k1,k2,k3⟩ | h
    ·rw [j3] at hb
     rw [k3] at hbk
     refine ZdN rm.nodup j2 k2 (fun h=>hik ?_) hb hbk
     subst h
     exact Option.some.inj (j1.symm.trans k1)
    ·rw [j3] at hb
     have hb' : b ∈ foots E':=Zbd.2 ⟨e',List.mem_of_getElem? j2,hb⟩
     have hkE:b ∈ foots E:=Zbd.2 ⟨ek,List.mem_of_getElem? k2,hbk⟩
     rcases g.new b hb' with h | h
     ·exact disj k ek k2 (notin k k1 k3) b hbk h
     ·have:=hM.lt b hkE; omega
    ·rw [h] at hbk; cases hbk
   ·rcases footR k ek hk with ⟨j',e'',k1,k2,k3⟩ | ⟨k1,k2,k3⟩ | h
    ·rw [k3] at hbk
     have hb' : b ∈ foots E':=Zbd.2 ⟨e'',List.mem_of_getElem? k2,hbk⟩
     have hkE:b ∈ foots E:=Zbd.2 ⟨ei,List.mem_of_getElem? i2,hb⟩
     rcases g.new b hb' with h | h
     ·exact disj i ei i2 (notin i i1 i3) b hb h
     ·have:=hM.lt b hkE; omega
    ·exact ZdN hM.nodup i2 k2 hik hb hbk
    ·rw [h] at hbk; cases hbk
   ·rw [h] at hb; cases hb
  ·cases hlk:ZvF i ρ with
   | some j =>
    have hj:=ZhA hlk
    obtain ⟨b',e',r1,r2,r3,r4⟩:=atM i j hj
    rw [hb] at r3
    rw [hi] at r4
    obtain rfl:=Option.some.inj r3
    obtain rfl:=Option.some.inj r4
    have h:=rm.at_ j b' e' r1 r2
    have hob:=List.all_eq_true.1 c6 b' (List.mem_of_getElem? r1)
    refine .inr ?_
    cases b' with
    | row t xs v c hh=>cases hh with
     | none=>exact h
     | some _=>cases hob
    | mp _=>cases hob
    | dead=>cases hob
    | box l =>
     obtain ⟨q1,cs',T,q2,q3⟩:=h
     obtain ⟨l',hl'⟩:=ZnD c7 r1
     have hbk:=blkOk j l' e' hl' r2 i hj
     refine ⟨by simp only; rw [hbk]; exact q1,cs',T,by simp only; rw [hbk]; exact q2,renL_rep hob q3⟩
   | none =>
    obtain ⟨o1,o2⟩:=offM i hlk
    rw [o1] at hb
    rw [o2] at hi
    by_cases hl:i < M.length
    ·rw [List.getElem?_append_left hl] at hb
     rw [List.getElem?_append_left (by omega)] at hi
     exact .inl ⟨hb,hi,fun q hq=>keepR q (hM.lt q (Zbd.2 ⟨ei,List.mem_of_getElem? hi,hq⟩)) (disj i ei hi (notin i hlk hl) q hq)⟩
    ·rw [List.getElem?_append_right (by omega)] at hb hi
     have h1:=List.mem_of_getElem? hb
     have h2:=List.mem_of_getElem? hi
     rw [List.mem_replicate] at h1 h2
     rw [h1.2,h2.2]
     exact .inr rfl
  ·rcases inEc b hb with h | h
   ·exact rm.lt b h
   ·exact Nat.lt_of_lt_of_le (hM.lt b h.1) g.size
 refine ⟨v,Ec,rfl,hgrow,hmem,hRepM,?_⟩
 cases hres:e.res x with
 | w z=>rw [hres] at rv c5; exact renW_rep c5 rv
 | tp l=>rw [hres] at rv c5; obtain ⟨us',e2,h⟩:=rv; exact ⟨us',e2,renWs_rep c5 h⟩
 | any=>trivial
end
section
variable {P:Program} {X:List Nat} {W:World} {E:Env} {M:Mem} {a:Act} {tm:List AV} {o:Oper}
theorem Zb2.take {α:Type} {R:α→List Value→List Nat→Prop} {n:Nat} (hn:∀ x cs F,R x cs F→cs.length=n):∀ (k:Nat) {xs:List α} {cs:List Value} {G:List Nat},Zb2 R xs cs G→∃ G',Zb2 R (xs.take k) (cs.take (k * n)) G'∧∀ z,G'.count z≤G.count z
 | 0,_,_,_,_=>⟨[],by rw [Nat.zero_mul]; exact ⟨rfl,rfl⟩,fun z=>by simp⟩
 | k + 1,[],_,_,⟨h1,h2⟩=>⟨[],by rw [h1]; exact ⟨by simp,rfl⟩,fun z=>by simp⟩
 | k + 1,y :: ys,_,_,⟨c1,c2,G1,G2,h1,h2,e1,e2⟩=>by
  obtain ⟨G',q1,q2⟩:=Zb2.take hn k h2
  have hc:=hn _ _ _ h1
  refine ⟨G1 ++ G',⟨c1,_,G1,G',h1,q1,?_,rfl⟩,fun z=>?_⟩
  ·rw [e1,Nat.add_mul,Nat.one_mul,Nat.add_comm,← hc,List.take_length_add_append]
  ·rw [e2,List.count_append,List.count_append]
   have:=q2 z
   omega
theorem Zs2 {i j:Nat} {t:Ty} {xs ys:List t.den} {ver cc v c:Nat} (hM:RepM X W E M) (hi:M[i]?=some (.row t xs ver cc none)) (hj:M[j]?=some (.row t ys v c none)) (hij:j ≠ i) :
 ∃ E',ZbW W E W E'∧Zbr W E M W E' ((Zdb M [j]).set i (.row t ys (ver + 1) (cc + 1) none))∧RepM X W E' ((Zdb M [j]).set i (.row t ys (ver + 1) (cc + 1) none))∧∀ ej,E[j]?=some ej→Zb7 X W E' ((Zdb M [j]).set i (.row t ys (ver + 1) (cc + 1) none)) (.row i (ver + 1)) ej.val:=by
 have hil:i < M.length:=(List.getElem?_eq_some_iff.1 hi).1
 have hjl:j < M.length:=(List.getElem?_eq_some_iff.1 hj).1
 have hie:i < E.length:=by rw [← hM.len]; exact hil
 have hje:j < E.length:=by rw [← hM.len]; exact hjl
 obtain ⟨ei,hei⟩:∃ ei,E[i]?=some ei:=⟨_,List.getElem?_eq_getElem hie⟩
 obtain ⟨ej,hej⟩:∃ ej,E[j]?=some ej:=⟨_,List.getElem?_eq_getElem hje⟩
 have hrow:ZPh W E M t ys none ej:=hM.at_ j _ ej hj hej
 obtain ⟨T,cells,G,ho,hr,hfe⟩:=hrow
 have hjs:∀ q ∈ [j],q < E.length:=fun q hq=>by rw [List.mem_singleton.1 hq]; exact hje
 have hkl:=Zip [j] E
 have hml:=Ziq [j] M
 have hft:feet E [j]=ej.foot:=by simp [feet,hej]
 have hki:(killE E [j])[i]?=some ei:=by
  rw [Zci (fun k hk e=>hij (by rw [← List.mem_singleton.1 hk]; exact e))]; exact hei
 have hin:∀ b ∈ ej.foot,b ∈ foots E:=fun b hb=>Zbd.2 ⟨ej,List.mem_of_getElem? hej,hb⟩
 have hcnt:∀ z,(foots ((killE E [j]).set i ⟨ei.blk,ej.val,ej.foot⟩)).count z≤(foots E).count z:=fun z=>by
  have c1:=Zkb (e':=⟨ei.blk,ej.val,ej.foot⟩) z hki
  have c2:=ZhB z (rfl:ZbS [j]=true) hjs
  rw [hft] at c2
  simp only at c1
  omega
 have hsub:∀ b ∈ foots ((killE E [j]).set i ⟨ei.blk,ej.val,ej.foot⟩),b ∈ foots E:=fun b hb =>
  List.count_pos_iff.1 (Nat.lt_of_lt_of_le (List.count_pos_iff.2 hb) (hcnt b))
 have g:ZbW W E W ((killE E [j]).set i ⟨ei.blk,ej.val,ej.foot⟩) :=
  ⟨rfl,rfl,rfl,Nat.le_refl _,fun _ _ _=>rfl,fun b hb=>.inl (hsub b hb),fun q e1 hq=>by
   by_cases hqi:i=q
   ·subst hqi
    obtain rfl:=Option.some.inj (hei.symm.trans hq)
    exact ⟨_,List.getElem?_set_self (by rw [hkl]; exact hie),rfl⟩
   ·rw [List.getElem?_set_ne hqi]
    exact Zg9 hq⟩
 have m:Zbr W E M W ((killE E [j]).set i ⟨ei.blk,ej.val,ej.foot⟩) ((Zdb M [j]).set i (.row t ys (ver + 1) (cc + 1) none)):=Zha (fun q t' xs' v' c' hh' hq=>by
  by_cases hqi:i=q
  ·subst hqi
   obtain ⟨rfl,hx,rfl,rfl,rfl⟩:=Blk.row.inj (Option.some.inj (hi.symm.trans hq))
   exact .inr (.inl ⟨ys,ver + 1,cc + 1,none,List.getElem?_set_self (by rw [hml]; exact hil),Nat.lt_succ_self _⟩)
  ·rw [List.getElem?_set_ne hqi]
   by_cases hqj:q=j
   ·subst hqj
    exact .inl (ZcJ List.mem_cons_self hjl)
   ·refine .inr (.inr (.inr ⟨by rw [Zb8 (fun k hk e=>hqj (by rw [← List.mem_singleton.1 hk]; exact e.symm))]; exact hq,fun e1 he1=>⟨?_,fun _ _=>rfl⟩⟩))
    rw [List.getElem?_set_ne hqi,Zci (fun k hk e=>hqj (by rw [← List.mem_singleton.1 hk]; exact e.symm))]
    exact he1) (fun q hq=>by
  have hqi:i ≠ q:=fun e=>by rw [← e,hi] at hq; cases hq
  have hqj:q ≠ j:=fun e=>by rw [e,hj] at hq; cases hq
  rw [List.getElem?_set_ne hqi,Zb8 (fun k hk e=>hqj (by rw [← List.mem_singleton.1 hk]; exact e.symm))]
  exact hq)
 have rm:RepM X W ((killE E [j]).set i ⟨ei.blk,ej.val,ej.foot⟩) ((Zdb M [j]).set i (.row t ys (ver + 1) (cc + 1) none)) :=
  ZiX hM g m (by simp [hml,hkl,hM.len]) (Zdk fun z=>Nat.le_trans (hcnt z) (ZmQ hM z)) (fun q b e1 hb he1=>by
   by_cases hqi:i=q
   ·subst hqi
    rw [List.getElem?_set_self (by rw [hml]; exact hil)] at hb
    rw [List.getElem?_set_self (by rw [hkl]; exact hie)] at he1
    obtain rfl:=Option.some.inj hb
    obtain rfl:=Option.some.inj he1
    exact .inr ⟨T,cells,G,ho,hr,hfe⟩
   ·rw [List.getElem?_set_ne hqi] at hb he1
    by_cases hqj:q=j
    ·subst hqj
     rw [ZcJ List.mem_cons_self hjl] at hb
     obtain rfl:=Option.some.inj hb
     exact .inr (Zit List.mem_cons_self he1)
    ·rw [Zb8 (fun k hk e=>hqj (by rw [← List.mem_singleton.1 hk]; exact e.symm))] at hb
     rw [Zci (fun k hk e=>hqj (by rw [← List.mem_singleton.1 hk]; exact e.symm))] at he1
     exact .inl ⟨hb,he1,fun _ _=>rfl⟩) (fun b hb=>hM.lt b (hsub b hb))
 refine ⟨_,g,m,rm,fun ej' hej'=>?_⟩
 obtain rfl:=Option.some.inj (hej.symm.trans hej')
 refine ⟨Zd6 ho,?_⟩
 unfold ZcA
 rw [List.getElem?_set_self (by rw [hml]; exact hil)]
 exact ⟨Nat.le_refl _,fun _=>⟨_,List.getElem?_set_self (by rw [hkl]; exact hie),rfl⟩⟩
theorem ZgU {t:Ty} {xs:List t.den} {v:Value} {T:TypeId} {cells:List Value} (h:W.ownsRow 0 T t.n v xs.length cells):∃ A c,v=.slice A xs.length c∧xs.length≤c∧c≤maxLen∧((A=none∧xs.length=0∧c=0)∨∃ b,A=some ⟨b,0,none⟩):=by
 rcases h.2 with ⟨h1,h2⟩ | ⟨g,cap,cur,h1,h2,h3,h4,h5,h6,h7⟩
 ·exact ⟨none,0,by rw [h1,h2],by omega,Nat.zero_le _, .inl ⟨rfl,h2,rfl⟩⟩
 ·exact ⟨_,cap,h1,h4,h5, .inr ⟨g,rfl⟩⟩
theorem Zmp {t e:TypeId} {tt:Ty} {A:Option Addr} {len c:Nat} {lo hi:Option Value} {l h:Int} (hu:P.underlying t=some (.slice e)) (hs:Zcd P e=tt.n)
 (q1:(lo=none∧l=0)∨∃ k,lo=some (.int k l)) (q2:(hi=none∧h=len)∨∃ k,hi=some (.int k h)) (h0:0≤l) (h1:l≤h) (h2:h≤c) :
 (Instr.sliceAt t (.slice A len c) lo hi none).run P W=.ok (.slice (if c=l.toNat then A else A.map (·.add (l.toNat * tt.n))) (h.toNat - l.toNat) (c - l.toNat)) W:=by
 have hsl:=Znp (P:=P) (W:=W) (b:=true) (len:=len) (cap:=c) (lo:=lo) (hi:=hi) q1 q2 h0 h1 h2
 obtain ⟨inf,hinf⟩:∃ i,P.info? e=some i:=by
  have hpos:0 < Zcd P e:=by rw [hs]; exact ZjO tt
  unfold Zcd at hpos
  cases hq:P.info? e with
  | none=>rw [hq] at hpos; exact absurd hpos (Nat.lt_irrefl 0)
  | some i=>exact ⟨i,rfl⟩
 have hsz:inf.size=tt.n:=by rw [← hs]; unfold Zcd; rw [hinf]
 exact Zzm
theorem ZKV {t:TypeId} {x:Operand} {lo hi:Option Operand} (hM:RepM X W E M) (ht:Zcv X W E M tm a.tmps.toList) (ho:o.op=.slice t x lo hi none)
 (hn:(ZOe P M t (evalA tm x) (lo.map (evalA tm)) (hi.map (evalA tm))).need):ZeZ X P o a W E M (ZOe P M t (evalA tm x) (lo.map (evalA tm)) (hi.map (evalA tm))).val (ZOe P M t (evalA tm x) (lo.map (evalA tm)) (hi.map (evalA tm))).mem:=by
 have hp:=ZaK ht x
 have hlo:=Zs1 (M:=M) ht lo
 have hhi:=Zs1 (M:=M) ht hi
 have hex:execOp a.eval o=(do pure (.value (← Instr.sliceAt t (a.eval x) (lo.map a.eval) (hi.map a.eval) none))):=by unfold execOp; rw [ho]; rfl
 generalize evalA tm x=x' at *
 generalize lo.map (evalA tm)=lo' at *
 generalize hi.map (evalA tm)=hi' at *
 unfold ZOe at hn ⊢
 split at hn
 ·rename_i e i v hu
  cases hra:ZdC M i v with
  | none=>rw [hra] at hn; exact hn.elim
  | some r =>
   simp only [hra] at hn ⊢
   cases hs:Nat.beq (Zcd P e) r.t.n with
   | false=>rw [hs] at hn; exact hn.elim
   | true =>
    simp only [hs,cond_true] at hn ⊢
    have hs:=Nat.eq_of_beq_eq_true hs
    obtain ⟨t',xs,cc⟩:=r
    obtain ⟨e0,he0,hv0,T0,cells,G,w1,w2,w3⟩:=Zi4 hM hra (hp:Zb7 X W E M (.row i v) _).2
    simp only at hs w1 w2 w3
    obtain ⟨A,c,hvs,hlc,hcm,hA⟩:=ZgU w1
    have hone:e0.val.oneCell'=true:=by rw [hvs]; rfl
    split at hn
    ·rename_i h
     obtain ⟨h0,h1⟩:=hn
     simp only at h0 h1 ⊢
     have q1:(lo.map a.eval=none∧(0:Int)=0)∨∃ k,lo.map a.eval=some (.int k 0):=(Zvo (l:=0) rfl hlo).imp (fun h=>⟨h.2.1,h.2.2⟩) id
     have q2:(hi.map a.eval=none∧h=(xs.length:Nat))∨∃ k,hi.map a.eval=some (.int k h):=(Zvp (n:=xs.length) rfl hhi).imp (fun h=>⟨h.2.1,h.2.2⟩) id
     have hrun:=Zmp (P:=P) (W:=W) (tt:=t') (A:=A) (len:=xs.length) (c:=c) hu hs q1 q2 (Int.le_refl 0) h0 (by omega)
     have hv:(Value.slice (if c=(0:Int).toNat then A else A.map (·.add ((0:Int).toNat * t'.n))) (h.toNat - (0:Int).toNat) (c - (0:Int).toNat))=.slice A h.toNat c:=by
      rcases hA with ⟨rfl,_,rfl⟩ | ⟨b,rfl⟩
      ·rfl
      ·have:(⟨b,0,none⟩:Addr).add 0=⟨b,0,none⟩:=ZkE b 0 0
       simp [this]
     rw [hv] at hrun
     have hcl:cells.length=xs.length * t'.n:=w2.len (fun x cs F h=>Zbx.len t' h)
     obtain ⟨G',g1,g2⟩:=Zb2.take (fun x cs F h=>Zbx.len t' h) h.toNat w2
     have hle:h.toNat≤xs.length:=by omega
     have hlen:(xs.take h.toNat).length=h.toNat:=by rw [List.length_take]; omega
     have hown:W.ownsRow 0 T0 t'.n (.slice A h.toNat c) (xs.take h.toNat).length (cells.take (h.toNat * t'.n)):=by
      have hmul:h.toNat * t'.n≤xs.length * t'.n:=Nat.mul_le_mul_right _ hle
      refine ⟨by rw [List.length_take,hlen,hcl]; omega,?_⟩
      rcases w1.2 with ⟨k1,k2⟩ | ⟨b,cap,cur,k1,k2,k3,k4,k5,k6,k7⟩
      ·left
       rw [hvs] at k1
       injection k1 with k3 _ k4
       exact ⟨by rw [k3,k4,show h.toNat=0 by omega],by omega⟩
      ·right
       rw [hvs] at k1
       injection k1 with k8 _ k9
       refine ⟨b,cap,cur,by rw [k8,k9,hlen],k2,k3,by omega,k5,k6,?_⟩
       rw [hlen,← k7,List.take_take,Nat.min_eq_left hmul]
     obtain ⟨E',g,m,rm,rc⟩:=Zyu hM (ZdG hra) he0 hown g1 (fun z=>by
      have hb:(Value.slice A h.toNat c).ownBlock=e0.val.ownBlock:=by rw [hvs]; cases A <;> rfl
      rw [w3,hb,List.count_append,List.count_append]
      have:=g2 z
      omega)
     refine ⟨_,W,E', .inl ?_,g,m,rm,rc⟩
     rw [hex,hv0,hvs]
     simp only [Sem.run_bind,hrun,Result.andThen_ok,Sem.run_pure]
    ·rename_i l
     obtain ⟨h0,h1⟩:=hn
     simp only at h0 h1 ⊢
     have q1:(lo.map a.eval=none∧l=0)∨∃ k,lo.map a.eval=some (.int k l):=(Zvo (l:=l) rfl hlo).imp (fun h=>⟨h.2.1,h.2.2⟩) id
     have q2:(hi.map a.eval=none∧((xs.length:Nat):Int)=(xs.length:Nat))∨∃ k,hi.map a.eval=some (.int k ((xs.length:Nat):Int)):=(Zvp (n:=xs.length) rfl hhi).imp (fun h=>⟨h.2.1,h.2.2⟩) id
     have hrun:=Zmp (P:=P) (W:=W) (tt:=t') (A:=A) (len:=xs.length) (c:=c) hu hs q1 q2 h0 h1 (by omega)
     rw [Int.toNat_natCast] at hrun
     refine ZcR hM (Instr.sliceAt t (a.eval x) (lo.map a.eval) (hi.map a.eval) none) (u:=.slice (if c=l.toNat then A else A.map (·.add (l.toNat * t'.n))) (xs.length - l.toNat) (c - l.toNat)) hex (by rw [hv0,hvs]; exact hrun) ⟨rfl,?_⟩
     unfold ZcA
     rw [ZdG hra]
     refine ⟨Nat.le_refl _,fun _=>⟨e0,he0,_,xs.length,_,A,c,rfl,by omega,hvs,fun hk=>?_⟩⟩
     rcases hA with ⟨rfl,hz,_⟩ | ⟨b,rfl⟩
     ·omega
     ·exact ⟨b,rfl,by rw [if_neg (by omega)]; simp [ZkE]⟩
    ·exact hn.elim
 ·exact hn.elim
theorem ZGM {t:TypeId} {x:Operand} {xs:Array Operand} {ts:Array TypeId} (hM:RepM X W E M) (ht:Zcv X W E M tm a.tmps.toList) (ho:o.op=.call ⟨.builtin .clear,xs,ts⟩) (hxs:xs.toList=[x]) (hts:ts.toList=[t])
 (hn:(Zx8 P M t (evalA tm x)).need):ZeZ X P o a W E M (Zx8 P M t (evalA tm x)).val (Zx8 P M t (evalA tm x)).mem:=by
 have e1:xs=#[x]:=Array.toList_inj.1 (by simpa using hxs)
 have e2:ts=#[t]:=Array.toList_inj.1 (by simpa using hts)
 subst e1
 subst e2
 have hp:=ZaK ht x
 generalize evalA tm x=x' at *
 unfold Zx8 at hn ⊢
 split at hn
 ·rename_i e i v n k hu
  split at hn
  ·rename_i r z hra hz
   cases hc:(z.cells.toList.all ZjL && Zh7 P e r.t.n) && Nat.beq n r.t.n with
   | false=>rw [hc] at hn; exact hn.elim
   | true =>
    simp only [hc,cond_true] at hn ⊢
    rw [Bool.and_eq_true,Bool.and_eq_true] at hc
    obtain ⟨⟨hok,hty⟩,hnn⟩:=hc
    obtain rfl:=Nat.eq_of_beq_eq_true hnn
    split at hn
    ·rename_i d hd
     obtain ⟨t',l,cc⟩:=r
     simp only at hd hty hp ⊢
     have hi:=ZdG hra
     simp only at hi
     have hp2:=(hp:Zb7 X W E M (.tl i v t'.n k) _).2
     obtain ⟨e0,he0,hv0,T0,cells,G,w1,w2,w3⟩:=Zi4 hM hra hp2
     simp only at w1 w2 w3
     obtain ⟨A,l0,c,A0,c0,hv,hkl,hev,hA⟩:=hv0
     obtain ⟨A1,c1,hvs,hlc,hcm,hA1⟩:=ZgU w1
     obtain rfl:l.length=l0:=by rw [hvs] at hev; injection hev with _ q _
     obtain ⟨inf,z',i1,i2,i3,i4,i5⟩:=Zgx hty
     obtain rfl:z'=z:=by rw [i1] at hz; simpa [i4] using hz
     have hpos:=ZjO t'
     have hrep:Zbx W t' d z'.cells.toList []:=by
      unfold ZcH at hd
      split at hd
      ·rename_i y js ho'
       obtain ⟨rfl,rfl⟩:=Prod.mk.inj (Option.some.inj hd)
       obtain ⟨c1,u1,e1,q1,q2,q3⟩:=ZiY hM t' ho' (Zkq hok)
       exact ZAe
      ·cases hd
     have hzv:∀ w,(zeroValue e).run P w=.ok z' w:=fun w=>by simp [zeroValue,typeInfo,i1,i4]
     by_cases hk:k < l.length
     ·obtain ⟨b,rfl,rfl⟩:=hA hk
      rw [hev] at w1
      obtain ⟨cur,q1,q2,q3,q4,q5⟩:=ZeP w1
      have hfoot:e0.foot=b :: G:=by rw [w3,hev]; rfl
      obtain ⟨zs,hzs⟩:∃ zs,zs=(List.replicate (l.length - k) z'.cells.toList).flatten:=⟨_,rfl⟩
      have hzl:zs.length=(l.length - k) * t'.n:=by rw [hzs,Zhb (s:=t'.n) _ (fun l hl=>by rw [List.eq_of_mem_replicate hl]; simpa using i5)]; simp
      have hzr:Zb2 (Zbx W t') (List.replicate (l.length - k) d) zs []:=by rw [hzs]; exact Zh0 hrep _
      have hmul:k * t'.n + (l.length - k) * t'.n=l.length * t'.n:=by rw [← Nat.add_mul]; congr 1; omega
      have hcap:l.length * t'.n≤c0 * t'.n:=Nat.mul_le_mul_right _ q3
      have hst:=run_storeCells_at (P:=P) b (k * t'.n) T0 zs 0 cur W q1 (by simp; omega) hzr.ones
      simp only [Nat.add_zero] at hst
      obtain ⟨W',hW'⟩:∃ W',W'=W.setRow b (cur.toList.take (k * t'.n) ++ zs ++ cur.toList.drop (k * t'.n + zs.length)).toArray:=⟨_,rfl⟩
      rw [← hW'] at hst
      have keep:∀ p,p ≠ b→W'.heap[p]?=W.heap[p]?:=fun p hp=>by rw [hW']; exact setRow_other W b p _ (fun e=>hp e)
      have hnd:e0.foot.Nodup:=by
       refine Zdk fun x=>?_
       have c1:=Zkb (e':={ e0 with foot:=[] }) x he0
       have c2:=ZmQ hM x
       have c3:({ e0 with foot:=[] }:EB).foot.count x=0:=rfl
       omega
      rw [hfoot,List.nodup_cons] at hnd
      have hbG:∀ p ∈ G,p ≠ b:=fun p hp e=>hnd.1 (e ▸ hp)
      obtain ⟨G',g1,g2⟩:=Zb2.take (fun x cs F h=>Zbx.len t' h) k w2
      have hcl:cells.length=l.length * t'.n:=w2.len (fun x cs F h=>Zbx.len t' h)
      have hrows:Zb2 (Zbx W t') (l.take k ++ List.replicate (l.length - k) d) (cells.take (k * t'.n) ++ zs) (G' ++ []):=g1.app hzr
      rw [List.append_nil] at hrows
      have hln:(l.take k ++ List.replicate (l.length - k) d).length=l.length:=by simp; omega
      have hol:Zck W' (Zbx W' t') t'.n (l.take k ++ List.replicate (l.length - k) d) e0.val (b :: G'):=by
       refine ⟨T0,_,G',?_,hrows.imp (fun x cs F h hF=>Zbx.keep t' h (fun p hp=>keep p (hbG p (List.count_pos_iff.1 (Nat.lt_of_lt_of_le (List.count_pos_iff.2 (hF p hp)) (g2 p)))))),by rw [hev]; rfl⟩
       rw [hev,hln]
       refine ⟨by rw [List.length_append,List.length_take,hzl,hcl]; omega, .inr ⟨b,c0,_,rfl,Nat.zero_le _,by rw [hW']; exact setRow_heap W b cur _ T0 _ q1,q3,q4,?_,?_⟩⟩
       ·simp
        omega
       ·simp only [List.toList_toArray]
        have f1:cur.toList.take (k * t'.n)=cells.take (k * t'.n):=by rw [← q2,List.take_take,Nat.min_eq_left (by omega)]
        rw [f1]
        refine List.take_left' ?_
        rw [List.length_append,List.length_take,hzl,hcl]
        omega
      obtain ⟨E',g,m,rm⟩:=Zkc (js:=[]) (h1:=none) (ys:=l.take k ++ List.replicate (l.length - k) d) (F2:=b :: G') hM hi he0 rfl (by simp) (by simp) (fun p hp=>by rw [hev] at hp; simp [Value.ownBlock] at hp; rw [hfoot,hp]; simp) ⟨by rw [hW']; rfl,by rw [hW']; rfl,by rw [hW']; rfl,by rw [hW']; simp,fun p _ hne=>keep p (fun e'=>hne (by rw [hev,e']; rfl))⟩ (fun _ _ _ _=>hol) (fun w=>by
       have:=g2 w
       rw [hfoot,List.count_cons,List.count_cons]
       omega)
      refine ⟨.tuple #[],W',E', .inl ?_,g,m,rm,trivial⟩
      unfold execOp
      simp only [ho,resolve,invoke,builtin,Sem.run_bind,Sem.run_pure,Result.andThen_ok,List.map_toArray,List.map_cons,List.map_nil,hv]
      have hrun:(Builtin.clear_ #[t] o.type #[.slice (some ⟨b,k * t'.n,none⟩) (l.length - k) c]).run P W=.ok (.tuple #[]) W':=by
       obtain ⟨m,hm⟩:∃ m,l.length - k=m + 1:=⟨l.length - k - 1,by omega⟩
       have hzc:(Builtin.zeroCells z'.cells (m + 1)).toList=zs:=by
        unfold Builtin.zeroCells
        rw [Zrl (zs:=z'.cells) (s:=z'.cells.size) (n:=m + 1) rfl (by omega),hzs,hm]
       rw [hm]
       unfold Builtin.clear_
       simp [Sem.run_bind,run_underlying hu,Result.andThen_ok,hzv,hzc,hst]
      rw [hrun]
      rfl
     ·obtain rfl:k=l.length:=by omega
      have hsame:l.take l.length ++ List.replicate (l.length - l.length) d=l:=by simp
      obtain ⟨E',g,m,rm⟩:=Zkc (W':=W) (js:=[]) (h1:=none) (ys:=l.take l.length ++ List.replicate (l.length - l.length) d) (F2:=e0.foot) hM hi he0 rfl (by simp) (by simp) (fun p hp=>by rw [w3,List.mem_append]; exact .inl hp) ⟨rfl,rfl,rfl,Nat.le_refl _,fun _ _ _=>rfl⟩ (fun _ _ _ _=>by rw [hsame]; exact ⟨T0,cells,G,w1,w2,w3⟩) (fun w=>by omega)
      refine ⟨.tuple #[],W,E', .inl ?_,g,m,rm,trivial⟩
      unfold execOp
      simp only [ho,resolve,invoke,builtin,Sem.run_bind,Sem.run_pure,Result.andThen_ok,List.map_toArray,List.map_cons,List.map_nil,hv,Nat.sub_self]
      have hrun:(Builtin.clear_ #[t] o.type #[.slice A 0 c]).run P W=.ok (.tuple #[]) W:=by
       unfold Builtin.clear_
       cases A <;> simp [Sem.run_bind,run_underlying hu,Result.andThen_ok]
      rw [hrun]
      rfl
    ·exact hn.elim
  ·exact hn.elim
 ·exact hn.elim
end
open Go.ChangeShapes Go.WideShapes Go.ChangeAt Go.RowKit Go.Joins Go.Deep Go.MapKept
section
variable {X:List Nat} {P:Program} {W:World} {E:Env} {M:Mem} {tm:List AV} {a:Act} {o:Oper}
theorem ZxI {t:TypeId} (hM:RepM X W E M) (ho:o.op=.makeMap t none):ZeZ X P o a W E M (.c (.mp M.length)) (M ++ [.mp []]):=by
 have g:=ZsY hM (.map #[] 0) ⟨W.heap.size,undef,[W.heap.size]⟩ (fun b hb=>by simpa using hb)
 have hm:=ZfE (W:=W) (W':=W.alloc (.map #[] 0)) ⟨rfl,rfl,rfl,by simp,fun b hb _=>Below.heap_alloc W _ b hb,fun b hb=>.inl hb,fun _ e h=>⟨e,h,rfl⟩⟩ hM (fun b hb=>Below.heap_alloc W _ b (hM.lt b hb)) [.mp []] [⟨W.heap.size,undef,[W.heap.size]⟩]
 refine ⟨.map (some W.heap.size),_,_, .inl ?_,g,hm,⟨by simp [hM.len],ZgT hM.nodup (by simp [foots]) hM.lt (fun b hb=>by simp [foots] at hb; omega),fun i b e hb he=>?_,fun b hb=>?_,fun b hb hf=>?_,fun b hb=>by rw [World.size_alloc]; have:=hM.xsz b hb; omega⟩,⟨⟨W.heap.size,undef,[W.heap.size]⟩,?_,rfl⟩⟩
 ·unfold execOp
  simp only [ho,Sem.run_bind]
  rfl
 ·by_cases hi:i < M.length
  ·exact Zzl
  ·have hi' : i=M.length:=by
    exact ZrJ
   subst hi'
   rw [List.getElem?_append_right (Nat.le_refl _),Nat.sub_self] at hb
   rw [hM.len,List.getElem?_append_right (Nat.le_refl _),Nat.sub_self] at he
   simp at hb he
   subst hb
   subst he
   exact ⟨rfl,#[],0,heap_alloc_new W _,rfl,fun e he=>by simp at he⟩
 ·exact ZzH
 ·exact ZzO
 ·exact ZAz
theorem map_keys {es:List MapEntry} {xs:List Int} (h:es.map (·.key)=xs.map (fun x=>Value.int .i64 x)):∀ x ∈ es,IsKey (.int .i64) x.key:=fun x hx=>by
 have:x.key ∈ es.map (·.key):=List.mem_map.2 ⟨x,hx,rfl⟩
 rw [h] at this
 obtain ⟨y,_,e⟩:=List.mem_map.1 this
 rw [← e]
 simp [IsKey]
theorem ZIY {n:Int} {xs:List Int}:ZFm n xs=true↔n ∈ xs:=by
 exact ZzB
theorem ZDL {es:List MapEntry} {xs:List Int} {n:Int} (h:es.map (·.key)=xs.map (fun x=>Value.int .i64 x)):(∃ e ∈ es,e.key=.int .i64 n)↔ZFm n xs=true:=by
 rw [ZIY]
 constructor
 ·rintro ⟨e,h1,h2⟩
  have:e.key ∈ es.map (·.key):=List.mem_map.2 ⟨e,h1,rfl⟩
  rw [h,h2] at this
  obtain ⟨y,q1,q2⟩:=List.mem_map.1 this
  injection q2 with _ q3
  rw [← q3]
  exact q1
 ·intro hn
  have:Value.int .i64 n ∈ xs.map (fun x=>Value.int .i64 x):=List.mem_map.2 ⟨n,hn,rfl⟩
  rw [← h] at this
  obtain ⟨e,q1,q2⟩:=List.mem_map.1 this
  exact ⟨e,q1,q2⟩
theorem ZEW {t:TypeId} (h:ZGX P t=true):P.underlying t=some (.int .i64):=by
 unfold ZGX at h
 split at h
 ·assumption
 ·cases h
theorem Zvq {t:TypeId} (h:ZvI P t=true):(zeroValue t).run P W=.ok (.bool false) W:=by
 unfold ZvI at h
 split at h
 ·rename_i hz
  cases hi:P.info? t with
  | none=>rw [hi] at hz; cases hz
  | some i =>
   rw [hi] at hz
   have hz:i.zero=some (.bool false):=hz
   simp [zeroValue,typeInfo,run_program,hi,hz,Result.andThen]
 ·cases h
theorem ZIZ {t:TypeId} {m k:Operand} (hM:RepM X W E M) (ht:Zcv X W E M tm a.tmps.toList) (ho:o.op=.lookup t m k false) (hn:(ZD0 P M t (evalA tm m) (evalA tm k)).need):ZeZ X P o a W E M (ZD0 P M t (evalA tm m) (evalA tm k)).val (ZD0 P M t (evalA tm m) (evalA tm k)).mem:=by
 have pm:=ZaK (M:=M) (W:=W) (E:=E) ht m
 have pk:=ZaK (M:=M) (W:=W) (E:=E) ht k
 generalize evalA tm m=m' at *
 generalize evalA tm k=k' at *
 unfold ZD0 at hn ⊢
 split at hn
 ·rename_i kt et i n hu
  split at hn
  ·rename_i xs hi
   cases hc:ZGX P kt && ZvI P et with
   | false=>rw [hc] at hn; exact hn.elim
   | true =>
    simp only [hc,cond_true]
    rw [Bool.and_eq_true] at hc
    have hd:=ZEW hc.1
    obtain ⟨e,he,hv⟩:=(pm:∃ e,E[i]?=some e∧a.eval m=.map (some e.blk))
    obtain ⟨ek,_⟩:=Ze8 pk
    obtain ⟨hf,es,ck,hg,hkeys,hvals⟩:=hM.at_ i _ e hi he
    have hk:IsKey (.int .i64) (Value.int .i64 n):=by simp [IsKey]
    refine ZeZ.stay hM ?_ rfl
    unfold execOp
    simp only [ho,hv,ek,Sem.run_bind]
    rcases findNow_spec hk es.toList 0 (map_keys hkeys) with ⟨h1,h2⟩ | ⟨j,e',h1,h2,h3⟩
    ·have hm:ZFm n xs=false:=by
      cases hq:ZFm n xs with
      | false=>rfl
      | true =>
       exact ZAr
     rw [hm]
     simp [Instr.lookup,run_underlying hu,Go.MapKept.run_getObj_map hg,Go.MapKept.run_checkKey hd hk,Go.MapKept.run_findKey hd h1,Zvq hc.2,Result.andThen]
    ·have hm:ZFm n xs=true:=(ZDL hkeys).1 ⟨e',List.mem_of_getElem? h2,h3⟩
     have hval:=hvals e' (List.mem_of_getElem? h2)
     rw [hm]
     simp [Instr.lookup,run_underlying hu,Go.MapKept.run_getObj_map hg,Go.MapKept.run_checkKey hd hk,Go.MapKept.run_findKey hd h1,hval,Result.andThen]
  ·exact hn.elim
 ·exact hn.elim
theorem ZEX {i:Nat} {xs xs' : List Int} {e:EB} {ob ob' : Obj} (hM:RepM X W E M) (hb:M[i]?=some (.mp xs)) (he:E[i]?=some e) (hf:e.foot=[e.blk]) (hg:W.heap[e.blk]?=some ob)
 (hn:ZNT { W with heap:=W.heap.setIfInBounds e.blk ob' } e.blk xs') :
 ZbW W E { W with heap:=W.heap.setIfInBounds e.blk ob' } E∧Zbr W E M { W with heap:=W.heap.setIfInBounds e.blk ob' } E (M.set i (.mp xs'))∧RepM X { W with heap:=W.heap.setIfInBounds e.blk ob' } E (M.set i (.mp xs')):=by
 have hmem:e.blk ∈ foots E:=Zbd.2 ⟨e,List.mem_of_getElem? he,by simp [hf]⟩
 have hoth:∀ b,b ≠ e.blk→(W.heap.setIfInBounds e.blk ob')[b]?=W.heap[b]?:=fun b hne=>(Go.MapKept.heap_set hg).2 b hne
 have g:ZbW W E { W with heap:=W.heap.setIfInBounds e.blk ob' } E :=
  ⟨rfl,rfl,rfl,by simp,fun b hbl hbn=>hoth b (fun e'=>hbn (e' ▸ hmem)),fun b hb=>.inl hb,fun i e h=>⟨e,h,rfl⟩⟩
 have hil:i < M.length:=(List.getElem?_eq_some_iff.1 hb).1
 have dis:∀ j e1,E[j]?=some e1→i ≠ j→∀ b ∈ e1.foot,b ≠ e.blk:=fun j e1 he1 hj b hb2 e2=>by
  subst e2
  exact ZdN hM.nodup he he1 hj (by simp [hf]) hb2
 have m:Zbr W E M { W with heap:=W.heap.setIfInBounds e.blk ob' } E (M.set i (.mp xs')):=fun j=>by
  by_cases hj:i=j
  ·subst hj
   rw [hb]
   trivial
  ·rw [List.getElem?_set_ne hj]
   split
   ·rename_i h
    exact .inr ⟨_,_,_,_,h,Nat.le_refl _,fun _ e1 he1=>⟨e1,he1,rfl,Nat.le_refl _,fun _ b hb=>⟨hb,hoth b (dis j e1 he1 hj b hb)⟩⟩⟩
   ·rename_i h
    exact h
   ·trivial
 refine ⟨g,m,by simp [hM.len],hM.nodup,fun j b e' hbj hej=>?_,fun b hb=>by simpa using hM.lt b hb,hM.xlt,fun b hb=>by simpa using hM.xsz b hb⟩
 by_cases hj:i=j
 ·subst hj
  rw [List.getElem?_set_self hil] at hbj
  obtain rfl:e=e':=by rw [he] at hej; simpa using hej
  obtain rfl:=(Option.some.inj hbj).symm
  exact ⟨hf,hn⟩
 ·rw [List.getElem?_set_ne hj] at hbj
  exact (hM.at_ j b e' hbj hej).keep g m hM.len (fun q hq=>hoth q (dis j e' hej hj q hq))
theorem ZKW {t:TypeId} {m k v:Operand} (hM:RepM X W E M) (ht:Zcv X W E M tm a.tmps.toList) (ho:o.op=.mapUpdate t m k v) (hn:(ZM7 P M t (evalA tm m) (evalA tm k) (evalA tm v)).need):ZeZ X P o a W E M (ZM7 P M t (evalA tm m) (evalA tm k) (evalA tm v)).val (ZM7 P M t (evalA tm m) (evalA tm k) (evalA tm v)).mem:=by
 have pm:=ZaK (M:=M) (W:=W) (E:=E) ht m
 have pk:=ZaK (M:=M) (W:=W) (E:=E) ht k
 have pv:=ZaK (M:=M) (W:=W) (E:=E) ht v
 generalize evalA tm m=m' at *
 generalize evalA tm k=k' at *
 generalize evalA tm v=v' at *
 unfold ZM7 at hn ⊢
 split at hn
 ·rename_i kt et i n hu
  split at hn
  ·rename_i xs hi
   cases hc:ZGX P kt with
   | false=>rw [hc] at hn; exact hn.elim
   | true =>
    simp only [hc,cond_true]
    have hd:=ZEW hc
    obtain ⟨e,he,hv⟩:=(pm:∃ e,E[i]?=some e∧a.eval m=.map (some e.blk))
    obtain ⟨ek,_⟩:=Ze8 pk
    have ev:a.eval v=.bool true:=pv
    obtain ⟨hf,es,ck,hg,hkeys,hvals⟩:=hM.at_ i _ e hi he
    have hk:IsKey (.int .i64) (Value.int .i64 n):=by simp [IsKey]
    have hlt:e.blk < W.heap.size:=(Array.getElem?_eq_some_iff.1 hg).1
    rcases findNow_spec hk es.toList 0 (map_keys hkeys) with ⟨h1,h2⟩ | ⟨j,e',h1,h2,h3⟩
    ·have hm:ZFm n xs=false:=by
      cases hq:ZFm n xs with
      | false=>rfl
      | true =>
       exact ZAr
     have hin:ZLx n xs=xs ++ [n]:=by unfold ZLx; rw [hm]; rfl
     rw [hin]
     obtain ⟨g,mm,r⟩:=ZEX (xs':=xs ++ [n]) (ob':=.map (es.push ⟨.int .i64 n, .bool true,ck⟩) (ck + 1)) hM hi he hf hg
      ⟨_,_,(Go.MapKept.heap_set hg).1,by simp [hkeys],fun e1 h=>by
       rw [Array.toList_push,List.mem_append] at h
       rcases h with h | h
       ·exact hvals e1 h
       ·rw [List.mem_singleton.1 h]⟩
     refine ⟨undef,_,E, .inr ⟨?_,rfl⟩,g,mm,r,trivial⟩
     unfold execOp
     simp only [ho,hv,ek,ev,Sem.run_bind]
     simp [Instr.mapUpdate,run_underlying hu,Go.MapKept.run_getObj_map hg,Go.MapKept.run_checkKey hd hk,Go.MapKept.run_findKey hd h1,Go.MapKept.run_setObj_map _ hg,Result.andThen]
    ·have hm:ZFm n xs=true:=(ZDL hkeys).1 ⟨e',List.mem_of_getElem? h2,h3⟩
     have hin:ZLx n xs=xs:=by unfold ZLx; rw [hm]; rfl
     have hj:es[j]?=some e':=by simpa using h2
     rw [hin]
     have hsame:(es.modify j fun e=>{ e with key:=.int .i64 n,val:=.bool true }).toList=es.toList:=by
      apply List.ext_getElem?
      intro q
      simp only [Array.getElem?_toList,Array.getElem?_modify]
      by_cases hq:j=q
      ·subst hq
       have hval:=hvals e' (List.mem_of_getElem? h2)
       rw [if_pos rfl,hj]
       simp only [Option.map_some]
       rw [← h3,← hval]
      ·rw [if_neg hq]
     obtain ⟨g,mm,r⟩:=ZEX (xs':=xs) (ob':=.map (es.modify j fun e=>{ e with key:=.int .i64 n,val:=.bool true }) ck) hM hi he hf hg
      ⟨_,_,(Go.MapKept.heap_set hg).1,by rw [hsame]; exact hkeys,fun e1 h=>by rw [hsame] at h; exact hvals e1 h⟩
     refine ⟨undef,_,E, .inr ⟨?_,rfl⟩,g,mm,r,trivial⟩
     unfold execOp
     simp only [ho,hv,ek,ev,Sem.run_bind]
     simp [Instr.mapUpdate,run_underlying hu,Go.MapKept.run_getObj_map hg,Go.MapKept.run_checkKey hd hk,Go.MapKept.run_findKey hd h1,hj,h3,Go.MapKept.run_keyThatStays hk,Go.MapKept.run_setObj_map _ hg,Result.andThen]
  ·exact hn.elim
 ·exact hn.elim
end
section
variable {P:Program} {X:List Nat} {W:World} {E:Env} {M:Mem} {a:Act} {tm:List AV} {o:Oper} {T:Tab P}
theorem ZjP {W' : World} {E' : Env} (g:ZbW W [] W' E'):ZbW W E W' E where
 os:=g.os
 tape:=g.tape
 output:=g.output
 size:=g.size
 keep b hb _:=g.keep b hb (by simp [foots])
 new b hb:=.inl hb
 blk i e he:=⟨e,he,rfl⟩
theorem Zkr {W' : World} {E' : Env} (g:ZbW W [] W' E') (hM:RepM X W E M):Zbr W E M W' E M:=by
 have:=ZfE (W:=W) (W':=W') (ZjP g) hM (fun b hb=>g.keep b (hM.lt b hb) (by simp [foots])) [] []
 rwa [List.append_nil,List.append_nil] at this
theorem Zql {W' : World} {E' : Env} (g:ZbW W [] W' E') (hM:RepM X W E M):RepM X W' E M :=
 ⟨hM.len,hM.nodup,fun i b e hb he=>(hM.at_ i b e hb he).keep (ZjP g) (Zkr g hM) hM.len (fun q hq=>g.keep q (hM.lt q (Zbd.2 ⟨e,List.mem_of_getElem? he,hq⟩)) (by simp [foots])),
  fun b hb=>Nat.lt_of_lt_of_le (hM.lt b hb) g.size,hM.xlt,fun b hb=>Nat.lt_of_lt_of_le (hM.xsz b hb) g.size⟩
theorem ZgV {y:ATy} {l:List ATy} {x:AV} {xs:List AV} {d:AD (y :: l)} (h:Zky M (y :: l) (x :: xs)=some d):Zj5 M y x=some d.1∧Zky M l xs=some d.2:=by
 unfold Zky at h
 cases hq:Zj5 M y x with
 | none=>rw [hq] at h; cases h
 | some z =>
  rw [hq] at h
  simp only at h
  cases hz:Zky M l xs with
  | none=>rw [hz] at h; cases h
  | some ys =>
   rw [hz] at h
   obtain rfl:(z,ys)=d:=Option.some.inj h
   exact ⟨rfl,rfl⟩
theorem ZPl {W:World} (hsz:∀ b ∈ X,b < W.heap.size):RepM X W [] []:=⟨rfl,List.nodup_nil,fun i b e h=>by simp at h,fun b hb=>by simp [foots] at hb,fun b _=>by simp [foots],hsz⟩
theorem ZEY {M M' : Mem}:∀ (t:Ty) {l:List AC},(∀ c ∈ l,ZOg c=false)→ZiW M t l=ZiW M' t l
 | .int _,_,_=>rfl
 | .bool,_,_=>rfl
 | .str,_,_=>rfl
 | .opq,_,_=>rfl
 | .prod a b,l,hl=>by
  unfold ZiW
  rw [ZEY (M:=M) (M':=M') a hl]
  cases ha:ZiW M' a l with
  | none=>rfl
  | some q =>
   obtain ⟨y,l1⟩:=q
   have h1:=Zra a hl ha
   simp only
   rw [ZEY (M:=M) (M':=M') b (fun c hc=>hl c (by rw [h1]; simp [hc]))]
 | .list a,l,hl=>by
  show Zj4 M a l=Zj4 M' a l
  cases l with
  | nil=>rfl
  | cons c l =>
   have hc:=hl c List.mem_cons_self
   cases c with
   | hs L t xs =>
    cases L with
    | no=>rfl
    | «at» i v c=>cases hc
   | int k x=>rfl
   | bool b=>rfl
   | str s=>rfl
   | opq s=>rfl
   | _=>cases hc
theorem ZI0 {M M' : Mem} {y:ATy} {agg:Bool} {t:Ty} {x:t.den} {d:y.ty.den} (h:Zj5 M y (Zeb agg t x)=some d) (hp:∀ t,y ≠ .p t):Zj5 M' y (Zeb agg t x)=some d:=by
 cases y with
 | p t'=>exact absurd rfl (hp t')
 | v t' =>
  cases agg with
  | true=>cases h
  | false =>
   have h:(match ZiW M t' [enc1 t x] with | some (x,[])=>some x | _=>none)=some d:=h
   show (match ZiW M' t' [enc1 t x] with | some (x,[])=>some x | _=>none)=some d
   rw [ZEY (M:=M') (M':=M) t' (fun c hc=>by obtain rfl:=List.mem_singleton.1 hc; exact ZvM)]
   exact h
 | s t' =>
  cases agg with
  | false=>cases h
  | true =>
   have h:(match ZiW M t' (cellsOf t x) with | some (x,[])=>some x | _=>none)=some d:=h
   show (match ZiW M' t' (cellsOf t x) with | some (x,[])=>some x | _=>none)=some d
   rw [ZEY (M:=M') (M':=M) t' (Zg6 t x)]
   exact h
theorem ZKX:∀ {l:List ATy} {agg:Bool} {t:Ty} {x:t.den} {d:AD l},Zky M l [Zeb agg t x]=some d→Zky [] l [Zeb agg t x]=some d
 | [],_,_,_,_,h=>by simp [Zky] at h
 | y :: l,agg,t,x,d,h=>by
  obtain ⟨h1,h2⟩:=ZgV h
  have h3:Zj5 [] y (Zeb agg t x)=some d.1:=by
   have hel:=ZoW h1
   cases y with
   | v t'=>exact ZI0 h1 (fun t h=>by cases h)
   | s t'=>exact ZI0 h1 (fun t h=>by cases h)
   | p t' =>
    exfalso
    revert hel
    cases agg with
    | true=>intro hel; cases hel
    | false =>
     intro hel
     have hr:=ZvM (t:=t) (x:=x)
     have he:Zeb false t x=.w (.c (enc1 t x)):=rfl
     rw [he] at hel
     injection hel with h4
     injection h4 with h5
     rw [h5] at hr
     cases hr
  have h4:Zky [] l []=some d.2:=by
   cases l with
   | nil=>exact h2
   | cons _ _=>cases h2
  unfold Zky
  rw [h3]
  simp only [h4]
  rfl
theorem ZlK {W' : World} {E' : Env} (g:ZbW W [] W' E'):∀ {cs:List CV} {vs:List Value},ZJp X W cs vs→Zd2 X W' [] [] (cs.map CV.arg) vs
 | [],_,h=>h
 | c :: cs,_,⟨v,r,e,⟨h1,F,⟨b,off,G,q0,q1,q2,q3⟩,q4⟩,h2⟩=>by
  subst q0
  refine ⟨v,r,e,⟨h1,b :: G,⟨b,off,G,rfl,q1,q2,q3.keep (g.keep b (q4 b (by simp)).2 (by simp [foots])) (fun k hk=>g.keep k (q4 k (by simp [hk])).2 (by simp [foots]))⟩,fun k hk=>⟨(q4 k hk).1,Nat.lt_of_lt_of_le (q4 k hk).2 g.size⟩⟩,ZlK g h2⟩
theorem ZMT {agg:Bool} {t:Ty} {x:t.den} {v:Value} (h:Zk1 X W E M (elW agg t x) v):Zdt X W E M (Zeb agg t x) v:=by cases agg <;> exact h
theorem ZI1 {fg:FuncId} {cs:List CV} {caps:List Value} {agg:Bool} {t:Ty} {p:t.den→Bool} (hsz:∀ b ∈ X,b < W.heap.size) (hgl:Zjp W []) (hc:ZJp X W cs caps) (ent:∀ args w,(callFunc fg args).run P w=.ok (.enter fg args) w)
 (h:∀ x,Zam P fg (elW agg t x :: cs.map CV.arg) (.c (.bool (p x))) []):Zlb X W P (.func (.func fg) #[] caps.toArray) agg t p :=
 ⟨fg,caps,rfl,ent,fun W' E' x v g hx=>h x X W' (v :: caps) (fun b hb=>Nat.lt_of_lt_of_le (hsz b hb) g.size) (hgl.grow g).nil ⟨v,caps,rfl,hx,ZlK g hc⟩⟩
theorem ZGN {fg:FuncId} {cs:List CV} {caps:List Value} {agg:Bool} {t:Ty} {p:t.den→t.den→Bool} (hsz:∀ b ∈ X,b < W.heap.size) (hgl:Zjp W []) (hc:ZJp X W cs caps) (ent:∀ args w,(callFunc fg args).run P w=.ok (.enter fg args) w)
 (h:∀ x y,Zam P fg (elW agg t x :: elW agg t y :: cs.map CV.arg) (.c (.bool (p x y))) []):ZvG X W P (.func (.func fg) #[] caps.toArray) agg t p :=
 ⟨fg,caps,rfl,ent,fun W' E' x y v v2 g hx hy=>h x y X W' (v :: v2 :: caps) (fun b hb=>Nat.lt_of_lt_of_le (hsz b hb) g.size) (hgl.grow g).nil ⟨v,_,rfl,hx,v2,caps,rfl,hy,ZlK g hc⟩⟩
theorem ZDM {W0:World} {E0:Env} (hT:ZvH X W0 E0 T) (hg0:ZbW W0 E0 W E) {f:FuncId} {args:List AV} {vs:List Value} (hM:RepM X W E M) (hr:Zcv X W E M args vs) (hn:(ZsG T M f args).need) :
 (∀ args w,(callFunc f args).run P w=.ok (.enter f args) w) ∧
 Calls P f vs.toArray W (fun e W'=>∃ u E',e=.returned u∧ZbW W E W' E'∧Zbr W E M W' E' (ZsG T M f args).mem∧RepM X W' E' (ZsG T M f args).mem∧Zdt X W' E' (ZsG T M f args).mem (ZsG T M f args).val u):=by
 have hgl:Zjp W E:=hT.2.2.2.grow hg0
 unfold ZsG at hn ⊢
 cases hH:ZGW f T.H with
 | some h =>
  rw [hH] at hn
  simp only at hn ⊢
  split at hn
  ·rename_i c g ids
   split at hn
   ·rename_i xs hxs
    obtain rfl:=ZvL hH
    obtain ⟨v,r,e,h1,v2,r2,e2,h2,h3⟩:=hr
    subst e
    subst e2
    obtain rfl:r2=[]:=h3
    obtain ⟨caps,rfl,hcaps⟩:=(h2:∃ vs,v2=.func (.func g) #[] vs.toArray∧Zem E ids vs)
    obtain ⟨hn,hsc⟩:=hn
    refine ⟨h.ent,?_⟩
    have hxs':=Zkz (X':=X) hM (fun b hb=>.inl hb) hxs (⟨v,[],rfl,h1,rfl⟩:ZcK X W E M [c] [v])
    obtain ⟨v',r',e',q1,_⟩:=hxs'
    obtain ⟨rfl,_⟩:v=v'∧[]=r':=by simpa using e'
    have hd:=hn h.t.dflt
    unfold ZsF at hn hd
    cases hg:ZvE g T.Γ with
    | none=>rw [hg] at hd; exact hd.elim
    | some eg =>
     rw [hg] at hd hn
     obtain rfl:=ZoV hg
     obtain ⟨fg,ins,pre,res,new,ok,ent⟩:=eg
     simp only at hd hn ok ent
     cases ins with
     | nil=>exact hd.elim
     | cons a0 ps =>
      have hcons:∀ x,∃ y:AD (a0 :: ps),Zky M (a0 :: ps) ([Zeb h.agg h.t x] ++ ids.map (fun i=>.c (.bp i 0)))=some y∧new y=[]∧pre y∧Zny (res y):=fun x=>by
       have:=hn x
       cases hy:Zky M (a0 :: ps) ([Zeb h.agg h.t x] ++ ids.map (fun i=>.c (.bp i 0))) with
       | none=>rw [hy] at this; exact this.elim
       | some y =>
        rw [hy] at this
        simp only at this
        cases hnw:new y with
        | nil=>rw [hnw] at this; exact ⟨y,rfl,hnw,this.1,this.2⟩
        | cons _ _=>rw [hnw] at this; exact this.elim
      obtain ⟨y0,hy0,_⟩:=hcons h.t.dflt
      obtain ⟨_,hds⟩:=ZgV hy0
      obtain ⟨hce,hcv⟩:=Zrb hM hds hcaps
      obtain ⟨p,hp⟩:∃ p:h.t.den→Bool,p=fun x=>match ZsF T.Γ M fg [Zeb h.agg h.t x] ids with | some (_,r)=>ZGV r | none=>false:=⟨_,rfl⟩
      have hgoal:=h.ok p xs _ X W v hM.xsz hgl.nil q1 (ZI1 hM.xsz hgl.nil hcv ent (fun x=>?_))
      ·exact Zzp
      ·obtain ⟨y,hy,hnw,hpre,hb⟩:=hcons x
       obtain ⟨he,hds'⟩:=ZgV hy
       have hy2:y.2=y0.2:=Option.some.inj (hds'.symm.trans hds)
       have hbc:=ok y hpre
       have hpx:res y=.c (.bool (p x)):=by
        rw [hp]
        unfold ZsF
        rw [hg]
        simp only [hy,hnw]
        revert hb
        generalize res y=r
        exact ZrD
       rw [hpx,hnw] at hbc
       have hel:=ZoW he
       unfold elW
       rw [hel]
       show Zam P fg (ZoA a0 y.1 :: (ZGZ ps y0.2).map CV.arg) _ _
       rw [← hce,← hy2]
       exact hbc
   ·exact hn.elim
  ·rename_i c u
   split at hn
   ·rename_i ce xs hce hxs
    obtain ⟨rfl,hTc⟩:E0=[]∧∀ c,T.C=some c→ZOG X W0 c:=hT.1.resolve_left (by rw [hce]; simp)
    obtain rfl:=ZvL hH
    obtain ⟨v,r,e,h1,v2,r2,e2,h2,h3⟩:=hr
    subst e
    subst e2
    obtain rfl:r2=[]:=h3
    obtain ⟨hu,hn,hsc⟩:=hn
    obtain rfl:v2=u:=h2.1
    subst hu
    refine ⟨h.ent,?_⟩
    have hxs':=Zkz (X':=X) hM (fun b hb=>.inl hb) hxs (⟨v,[],rfl,h1,rfl⟩:ZcK X W E M [c] [v])
    obtain ⟨v',r',e',q1,_⟩:=hxs'
    obtain ⟨rfl,_⟩:v=v'∧[]=r':=by simpa using e'
    obtain ⟨p,hp⟩:∃ p:h.t.den→Bool,p=fun x=>match Zky M ce.ins [Zeb h.agg h.t x] with | some y=>ZGV (ce.res y) | none=>false:=⟨_,rfl⟩
    have hgoal:=h.ok p xs ce.u X W v hM.xsz hgl.nil q1 ⟨ce.g,ce.caps,ce.hu,ce.ent,fun W' E' x vx g hx=>?_⟩
    ·exact Zzp
    ·have hnx:=hn x
     cases hy:Zky M ce.ins [Zeb h.agg h.t x] with
     | none=>rw [hy] at hnx; exact hnx.elim
     | some y =>
      rw [hy] at hnx
      simp only at hnx
      have hpx:ce.res y=.c (.bool (p x)):=by
       rw [hp]
       simp only [hy]
       revert hnx
       generalize ce.res y=r
       exact ZrD
      have hr1:Zcv X W' [] [] [Zeb h.agg h.t x] [vx]:=⟨vx,[],rfl,ZMT hx,rfl⟩
      have hgw:ZbW W0 [] W' E':=by
       have g1:ZbW W0 [] W []:=⟨hg0.os,hg0.tape,hg0.output,hg0.size,hg0.keep,fun b hb=>by simp [foots] at hb,fun i e h=>by simp at h⟩
       exact g1.trans g
      have ha:=ZmM (X':=X) (M:=[]) (ZPl (fun b hb=>Nat.lt_of_lt_of_le (hM.xsz b hb) g.size)) (fun b hb=>.inl hb) (ZKX hy) hr1
      have:=hTc ce hce W' E' y [vx] hgw ha
      rw [hpx] at this
      exact this
   ·exact hn.elim
  ·exact hn.elim
 | none =>
  rw [hH] at hn
  simp only at hn ⊢
  cases hH2:Ztp f T.H2 with
  | some h =>
   rw [hH2] at hn
   simp only at hn ⊢
   split at hn
   ·rename_i c c2 g ids
    split at hn
    ·rename_i xs ys hxs hys
     obtain rfl:=Zyg hH2
     obtain ⟨v,r,e,h1,v2,r2,e2,k1,v3,r3,e3,h2,h3⟩:=hr
     subst e
     subst e2
     subst e3
     obtain rfl:r3=[]:=h3
     obtain ⟨caps,rfl,hcaps⟩:=(h2:∃ vs,v3=.func (.func g) #[] vs.toArray∧Zem E ids vs)
     obtain ⟨hn,hsc⟩:=hn
     refine ⟨h.ent,?_⟩
     have hxs':=Zkz (X':=X) hM (fun b hb=>.inl hb) hxs (⟨v,[],rfl,h1,rfl⟩:ZcK X W E M [c] [v])
     obtain ⟨v',r',e',q1,_⟩:=hxs'
     obtain ⟨rfl,_⟩:v=v'∧[]=r':=by simpa using e'
     have hys':=Zkz (X':=X) hM (fun b hb=>.inl hb) hys (⟨v2,[],rfl,k1,rfl⟩:ZcK X W E M [c2] [v2])
     obtain ⟨v'',r'',e'',q2,_⟩:=hys'
     obtain ⟨rfl,_⟩:v2=v''∧[]=r'':=by simpa using e''
     have hd:=hn h.t.dflt h.t.dflt
     unfold ZsF at hn hd
     cases hg:ZvE g T.Γ with
     | none=>rw [hg] at hd; exact hd.elim
     | some eg =>
      rw [hg] at hd hn
      obtain rfl:=ZoV hg
      obtain ⟨fg,ins,pre,res,new,ok,ent⟩:=eg
      simp only at hd hn ok ent
      cases ins with
      | nil=>exact hd.elim
      | cons a0 ins =>
      cases ins with
      | nil =>
       have hz:Zky M [a0] ([Zeb h.agg h.t h.t.dflt,Zeb h.agg h.t h.t.dflt] ++ ids.map (fun i=>.c (.bp i 0)))=none:=by
        show (match Zj5 M a0 (Zeb h.agg h.t h.t.dflt) with | some y=>(match (none:Option Unit) with | some ys=>some (y,ys) | none=>none) | none=>none)=none
        split <;> rfl
       rw [hz] at hd
       exact hd.elim
      | cons a1 ps =>
       have hcons:∀ x y,∃ d:AD (a0 :: a1 :: ps),Zky M (a0 :: a1 :: ps) ([Zeb h.agg h.t x,Zeb h.agg h.t y] ++ ids.map (fun i=>.c (.bp i 0)))=some d∧new d=[]∧pre d∧Zny (res d):=fun x y=>by
        have:=hn x y
        cases hy:Zky M (a0 :: a1 :: ps) ([Zeb h.agg h.t x,Zeb h.agg h.t y] ++ ids.map (fun i=>.c (.bp i 0))) with
        | none=>rw [hy] at this; exact this.elim
        | some d =>
         rw [hy] at this
         simp only at this
         cases hnw:new d with
         | nil=>rw [hnw] at this; exact ⟨d,rfl,hnw,this.1,this.2⟩
         | cons _ _=>rw [hnw] at this; exact this.elim
       obtain ⟨y0,hy0,_⟩:=hcons h.t.dflt h.t.dflt
       obtain ⟨_,hds1⟩:=ZgV hy0
       obtain ⟨_,hds⟩:=ZgV hds1
       obtain ⟨hce,hcv⟩:=Zrb hM hds hcaps
       obtain ⟨p,hp⟩:∃ p:h.t.den→h.t.den→Bool,p=fun x y=>match ZsF T.Γ M fg [Zeb h.agg h.t x,Zeb h.agg h.t y] ids with | some (_,r)=>ZGV r | none=>false:=⟨_,rfl⟩
       have hgoal:=h.ok p xs ys _ X W v v2 hM.xsz hgl.nil q1 q2 (ZGN hM.xsz hgl.nil hcv ent (fun x y=>?_))
       ·refine hgoal.mono fun en W' hq=>?_
        obtain ⟨u,E',rfl,g,r,hv⟩:=hq
        refine ⟨u,E,rfl,ZjP g,Zkr g hM,Zql g hM,?_⟩
        rw [hp] at hv
        exact Zq4 (hsc _ _ _) hv
       ·obtain ⟨d,hy,hnw,hpre,hb⟩:=hcons x y
        obtain ⟨he,hds1'⟩:=ZgV hy
        obtain ⟨he2,hds'⟩:=ZgV hds1'
        have hy2:d.2.2=y0.2.2:=Option.some.inj (hds'.symm.trans hds)
        have hbc:=ok d hpre
        have hpx:res d=.c (.bool (p x y)):=by
         rw [hp]
         unfold ZsF
         rw [hg]
         simp only [hy,hnw]
         revert hb
         generalize res d=r
         exact ZrD
        rw [hpx,hnw] at hbc
        have hel:=ZoW he
        have hel2:=ZoW he2
        unfold elW
        rw [hel,hel2]
        show Zam P fg (ZoA a0 d.1 :: ZoA a1 d.2.1 :: (ZGZ ps y0.2.2).map CV.arg) _ _
        rw [← hce,← hy2]
        exact hbc
    ·exact hn.elim
   ·exact hn.elim
  | none =>
  rw [hH2] at hn
  simp only at hn ⊢
  cases hE:ZvE f T.Γ with
  | none=>rw [hE] at hn; exact hn.elim
  | some e =>
   rw [hE] at hn
   simp only at hn ⊢
   cases hd:Zky M e.ins args with
   | none=>rw [hd] at hn; exact hn.elim
   | some x =>
    rw [hd] at hn
    obtain rfl:=ZoV hE
    simp only at hn ⊢
    refine ⟨e.ent,?_⟩
    cases hp:ZMl e.ins || args.any ZJq with
    | true =>
     rw [hp] at hn
     simp only [cond_true] at hn ⊢
     have ha:=ZmM (X':=X) hM (fun b hb=>.inl hb) hd hr
     refine (e.ok x hn.1 X W vs hM.xsz hgl.nil ha).mono fun en W' hq=>?_
     obtain ⟨u,E',rfl,g,r,hv⟩:=hq
     obtain ⟨m,rm⟩:=Zyf g (fun b hb=>hb) hM r hn.2.2
     exact ⟨u,E ++ E',rfl,Zq9 g hM,m,rm,Ztu hM.len (fun b hb=>hb) (.inl hn.2.1) hv⟩
    | false =>
     rw [hp] at hn
     simp only [cond_false] at hn ⊢
     rw [Bool.or_eq_false_iff] at hp
     have ha:=ZmM (X':=X ++ foots E) hM (fun b hb=>(List.mem_append.1 hb).imp id (fun h=>⟨h,hp⟩)) hd hr
     refine (e.ok x hn.1 (X ++ foots E) W vs (fun b hb=>(List.mem_append.1 hb).elim (hM.xsz b) (hM.lt b)) hgl.nil ha).mono fun en W' hq=>?_
     obtain ⟨u,E',rfl,g,r,hv⟩:=hq
     obtain ⟨m,rm⟩:=Zyf g (fun b hb=>List.mem_append_left _ hb) hM r hn.2
     exact ⟨u,E ++ E',rfl,Zq9 g hM,m,rm,Ztu hM.len (fun b hb=>List.mem_append_left _ hb) (.inr (fun b hb=>List.mem_append_right _ hb)) hv⟩
theorem ZDN {W0:World} {E0:Env} (hT:ZvH X W0 E0 T) (hg0:ZbW W0 E0 W E) {f:FuncId} {args:List AV} {vs:List Value} (hM:RepM X W E M) (hr:Zcv X W E M args vs) (hn:(Zx6 T M f args).need) :
 (∀ args w,(callFunc f args).run P w=.ok (.enter f args) w) ∧
 Calls P f vs.toArray W (fun e W'=>∃ u E',e=.returned u∧ZbW W E W' E'∧Zbr W E M W' E' (Zx6 T M f args).mem∧RepM X W' E' (Zx6 T M f args).mem∧Zdt X W' E' (Zx6 T M f args).mem (Zx6 T M f args).val u):=by
 unfold Zx6 at hn ⊢
 cases hG:ZqY f args T.G with
 | some e =>
  rw [hG] at hn
  simp only at hn ⊢
  obtain rfl:=Zyh hG
  exact ⟨e.ent,ZDK (hT.2.2.2.grow hg0) hM hr hn⟩
 | none =>
  rw [hG] at hn
  simp only at hn ⊢
  exact ZDM hT hg0 hM hr hn
theorem ZGO {fn:Operand} {f:FuncId} {ids:List Nat} (ht:Zcv X W E M tm a.tmps.toList) (h:evalA tm fn=.w (.c (.fn f ids))):∃ caps:List Value,a.eval fn=.func (.func f) #[] caps.toArray∧Zem E ids caps:=by
 have:=ZaK ht fn
 rw [h] at this
 exact this
theorem Zqm {W0:World} {E0:Env} (hT:ZvH X W0 E0 T) (hg:ZbW W0 E0 W E) (hM:RepM X W E M) (ht:Zcv X W E M tm a.tmps.toList) (hn:(ZlU T tm M o).need):ZLD X P o a W E M (ZlU T tm M o).val (ZlU T tm M o).mem:=by
 unfold ZlU at hn ⊢
 cases ho:o.op <;> simp only [ho] at hn ⊢
 case call c =>
  obtain ⟨cal,args,ts⟩:=c
  cases cal <;> simp only at hn ⊢
  case value fn =>
   split at hn
   ·rename_i f ids hf
    obtain ⟨caps,hfe,hcaps⟩:=ZGO ht hf
    obtain ⟨hent,hc⟩:=ZDN hT hg hM ((ZoO ht args.toList).append (ZJu hcaps)) hn
    exact Ztv ho hfe hent hc
   ·rename_i u hu
    split at hn
    ·rename_i ce hce
     obtain ⟨rfl,hTc⟩:E0=[]∧∀ c,T.C=some c→ZOG X W0 c:=hT.1.resolve_left (by rw [hce]; simp)
     split at hn
     ·rename_i x hx
      obtain ⟨hn,hsc⟩:=hn
      have he:=ZaK (M:=M) ht fn
      rw [hu] at he
      have hfe:a.eval fn=.func (.func ce.g) #[] ce.caps.toArray:=by
       have:a.eval fn=u:=he.1
       rw [this,hn]
       exact ce.hu
      have ha:=ZmM (X':=X) hM (fun b hb=>.inl hb) hx (ZoO ht args.toList)
      refine Ztv ho hfe ce.ent ((hTc ce hce W E x _ hg ha).mono fun en W' hq=>?_)
      obtain ⟨v,E',rfl,g,r,hv⟩:=hq
      exact ⟨v,E,rfl,ZjP g,Zkr g hM,Zql g hM,Zq4 hsc hv⟩
     ·exact hn.elim
    ·exact hn.elim
   ·exact hn.elim
  all_goals exact (Zx2 hM ht hn).toW
 all_goals exact (Zx2 hM ht hn).toW
theorem ZjQ:∀ {l:List MTy} {xs:List Operand} {tm:List AV} {M:Mem} {E:Env},RepM X W E M→Zcv X W E M tm a.tmps.toList →
 ∃ E',ZbW W E W E'∧Zbr W E M W E' (Zby l xs tm M).2∧RepM X W E' (Zby l xs tm M).2∧Zcv X W E' (Zby l xs tm M).2 (Zby l xs tm M).1 a.tmps.toList
 | [],xs,tm,M,E,hM,ht=>by unfold Zby; exact ⟨E,ZbW.refl W E,Zbr.refl W E M,hM,ht⟩
 | y :: l,[],tm,M,E,hM,ht=>by
  have e:Zby (y :: l) [] tm M=(tm,M):=by cases y <;> rfl
  rw [e]
  exact ⟨E,ZbW.refl W E,Zbr.refl W E M,hM,ht⟩
 | y :: l,x :: xs,tm,M,E,hM,ht=>by
  have go:∀ t,Zby (y :: l) (x :: xs) tm M=Zby l xs (ZjN tm M t).1 (ZjN tm M t).2→∃ E',ZbW W E W E'∧Zbr W E M W E' (Zby (y :: l) (x :: xs) tm M).2∧RepM X W E' (Zby (y :: l) (x :: xs) tm M).2∧Zcv X W E' (Zby (y :: l) (x :: xs) tm M).2 (Zby (y :: l) (x :: xs) tm M).1 a.tmps.toList:=fun t e=>by
   rw [e]
   obtain ⟨E1,g1,m1,r1,t1⟩:=Zro hM ht t
   obtain ⟨E2,g2,m2,r2,t2⟩:=ZjQ (l:=l) (xs:=xs) r1 t1
   exact ⟨E2,g1.trans g2,m1.trans m2,r2,t2⟩
  have stay:Zby (y :: l) (x :: xs) tm M=Zby l xs tm M→∃ E',ZbW W E W E'∧Zbr W E M W E' (Zby (y :: l) (x :: xs) tm M).2∧RepM X W E' (Zby (y :: l) (x :: xs) tm M).2∧Zcv X W E' (Zby (y :: l) (x :: xs) tm M).2 (Zby (y :: l) (x :: xs) tm M).1 a.tmps.toList:=fun e=>by
   rw [e]
   exact ZjQ (l:=l) (xs:=xs) hM ht
  cases y with
  | q g t=>cases x <;> first | exact go _ rfl | exact stay rfl
  | g g t=>cases x <;> first | exact go _ rfl | exact stay rfl
  | a y=>exact stay rfl
  | m t=>exact stay rfl
  | e t=>exact stay rfl
  | b t=>exact stay rfl
  | f g c=>exact stay rfl
theorem ZKY (hM:RepM X W E M) (ht:Zcv X W E M tm a.tmps.toList):∃ E',ZbW W E W E'∧Zbr W E M W E' (ZJr T tm M o).2∧RepM X W E' (ZJr T tm M o).2∧Zcv X W E' (ZJr T tm M o).2 (ZJr T tm M o).1 a.tmps.toList:=by
 have stay:∃ E',ZbW W E W E'∧Zbr W E M W E' M∧RepM X W E' M∧Zcv X W E' M tm a.tmps.toList:=⟨E,ZbW.refl W E,Zbr.refl W E M,hM,ht⟩
 unfold ZJr
 split
 ·exact Zro hM ht _
 ·split
  ·split
   ·exact Zro hM ht _
   ·exact stay
  ·split
   ·exact ZjQ hM ht
   ·exact stay
  ·exact stay
 ·exact stay
theorem ZI2 (hM:RepM X W E M) (ht:Zcv X W E M tm a.tmps.toList) (hn:(ZMn (P:=P) tm M o).need):ZeZ X P o a W E M (ZMn (P:=P) tm M o).val (ZMn (P:=P) tm M o).mem:=by
 unfold ZMn at hn ⊢
 cases ho:o.op <;> simp only [ho] at hn ⊢
 case slice t x lo hi mx =>
  cases mx with
  | some _=>exact hn.elim
  | none=>exact ZKV hM ht ho hn
 case call c =>
  obtain ⟨cal,xs,ts⟩:=c
  cases cal <;> simp only at hn ⊢
  case builtin b =>
   cases b <;> simp only at hn ⊢
   case clear =>
    split at hn
    ·rename_i t x hts hxs
     exact ZGM hM ht ho hxs hts hn
    ·exact hn.elim
   all_goals exact hn.elim
  all_goals exact hn.elim
 case makeMap t r =>
  cases r with
  | some _=>exact hn.elim
  | none=>exact ZxI hM ho
 case lookup t m k c =>
  cases c with
  | true=>exact hn.elim
  | false=>exact ZIZ hM ht ho hn
 case mapUpdate t m k v=>exact ZKW hM ht ho hn
 all_goals exact hn.elim
theorem Zqn {W0:World} {E0:Env} (hT:ZvH X W0 E0 T) (hg:ZbW W0 E0 W E) (hM:RepM X W E M) (ht:Zcv X W E M tm a.tmps.toList) (hn:(ZdH T tm M o).need):ZLD X P o a W E M (ZdH T tm M o).val (ZdH T tm M o).mem:=by
 unfold ZdH at hn ⊢
 cases hc:Nat.beq (clsO T o) 2 with
 | false=>rw [hc] at hn; exact Zqm hT hg hM ht hn
 | true =>
  rw [hc] at hn
  simp only [cond_true] at hn ⊢
  cases hcut:isCut T o with
  | true =>
   rw [hcut] at hn
   exact (ZI2 hM ht hn).toW
  | false =>
  rw [hcut] at hn
  simp only [cond_false] at hn ⊢
  obtain ⟨E1,g1,m1,r1,t1⟩:=ZKY (T:=T) (o:=o) hM ht
  intro next Q hK
  refine Zqm hT (hg.trans g1) r1 t1 hn next Q (fun u W' E' g m r hv=>?_)
  obtain ⟨E2,g2,m2,r2⟩:=Zyq r
  exact hK u W' E2 (g1.trans (g.trans g2)) (m1.trans (m.trans m2)) r2 (hv.mono g2 m2 r.len)
theorem ZoP {W' : World} {E' : Env} {M' : Mem} {v:AV} {u:Value} {dst:Option Tmp} (ht:Zcv X W' E' M' tm a.tmps.toList) (hv:Zdt X W' E' M' v u):Zcv X W' E' M' (ZkQ tm dst v) (a.put dst u).tmps.toList:=by
 cases dst with
 | none=>exact ht
 | some d =>
  show Zcv X W' E' M' (tm.set d v) (a.tmps.setIfInBounds d u).toList
  rw [Array.toList_setIfInBounds]
  exact ht.set d hv
theorem Zks {v:Value} {dst:Option Tmp}:(a.put dst v).defers=a.defers:=by cases dst <;> rfl
theorem ZEZ {l:List AV} {d:Nat} {v:AV} (h:l.getD d .any=v) (hv:v ≠ .any):l.set d v=l:=by
 rw [List.getD_eq_getElem?_getD] at h
 cases hq:l[d]? with
 | none=>rw [hq] at h; exact absurd h.symm hv
 | some x =>
  rw [hq] at h
  obtain rfl:x=v:=h
  obtain ⟨h1,h2⟩:=List.getElem?_eq_some_iff.1 hq
  rw [← h2]
  exact List.set_getElem_self h1
theorem Zs3 {all:List Oper} {j d:Nat} {g:Bool} (hd:(all[j]?).bind (·.dst)=some d) (ht:Zcv X W E M tm a.tmps.toList) (hg:tm.getD d .any=.w (.c (.bool g))):yielded all.toArray a.tmps j=some g:=by
 rw [List.getD_eq_getElem?_getD] at hg
 cases hq:tm[d]? with
 | none=>rw [hq] at hg; cases hg
 | some x =>
  rw [hq] at hg
  obtain rfl:x=_:=hg
  obtain ⟨v,h1,h2⟩:=ht.get hq
  have hv:v=.bool g:=h2
  unfold yielded
  have e1:(all.toArray[j]?).bind (·.dst)=some d:=by rw [List.getElem?_toArray]; exact hd
  have e2:a.tmps[d]?=some (.bool g):=by rw [← Array.getElem?_toList,h1,hv]
  rw [e1,Option.bind_some,e2]
theorem Zs4 {all:List Oper} {j d:Nat} {l:List AW} (hd:(all[j]?).bind (·.dst)=some d) (ht:Zcv X W E M tm a.tmps.toList) (hg:tm.getD d .any=.tp l):yielded all.toArray a.tmps j=none:=by
 rw [List.getD_eq_getElem?_getD] at hg
 cases hq:tm[d]? with
 | none=>rw [hq] at hg; cases hg
 | some y =>
  rw [hq] at hg
  obtain rfl:y=.tp l:=hg
  obtain ⟨v,k1,k2⟩:=ht.get hq
  unfold yielded
  have e1:(all.toArray[j]?).bind (·.dst)=some d:=by rw [List.getElem?_toArray]; exact hd
  have e2:a.tmps[d]?=some v:=by rw [← Array.getElem?_toList,k1]
  rw [e1,Option.bind_some,e2]
  obtain ⟨vs,rfl,_⟩:=k2
  rfl
end
section
variable {P:Program} {X:List Nat} {W:World} {E:Env} {M:Mem} {a:Act} {tm:List AV} {o:Oper} {T:Tab P}
structure ZfX (X:List Nat) (tm:List AV) (M:Mem) (a:Act) (W:World) (E:Env):Prop where
 mem:RepM X W E M
 tmps:Zcv X W E M tm a.tmps.toList
 dfr:a.defers=[]
theorem Zs5 {all:List Oper} {os:List Oper} {Q:Exit→Act→World→Prop} (hw:Region.wanted o (yielded all.toArray a.tmps)=true) (h:o.wp P a W (wpList P all.toArray Q os) Q):wpList P all.toArray Q (o :: os) a W:=by
 unfold wpList
 rw [if_pos hw]
 exact .inl h
theorem ZlL {all:List Oper} {os:List Oper} {Q:Exit→Act→World→Prop} (hw:Region.wanted o (yielded all.toArray a.tmps)=false) (h:wpList P all.toArray Q os (a.put o.dst undef) W):wpList P all.toArray Q (o :: os) a W:=by
 unfold wpList
 rw [if_neg (by rw [hw]; exact Bool.false_ne_true)]
 exact h
theorem Zs6:Zdt X W E M Zin undef:=⟨[],rfl,rfl⟩
theorem ZfX.skip (h:ZfX X tm M a W E) (dst:Option Tmp):ZfX X (ZkQ tm dst Zin) M (a.put dst undef) W E:=⟨h.mem,ZoP h.tmps Zs6,by rw [Zks]; exact h.dfr⟩
theorem ZfX.lit {d:Nat} {g:Bool} (h:ZfX X tm M a W E) (hg:tm.getD d .any=.w (.c (.bool g))):ZfX X (tm.set d (.c (.bool g))) M a W E:=by
 rw [ZEZ hg (by simp)]
 exact h
theorem ZKZ {q:Bool→Prop} (hM:RepM X W E M) (ht:Zcv X W E M tm a.tmps.toList) (h:ZPp P tm M o=some q):∃ b:Bool,(execOp a.eval o).run P W=.ok (.value (.bool b)) W∧q b:=by
 unfold ZPp at h
 split at h
 ·rename_i op t x yt ho
  split at h
  ·rename_i e c hu hx
   split at h
   ·rename_i L r hr
    have hp:=ZaK (M:=M) (W:=W) (E:=E) ht x
    rw [hx] at hp
    obtain ⟨A,cap,F,hv,hs,_⟩:=ZiR hM hr hp
    have hn:A.isNone=true→r.xs.length=0:=fun hA=>by
     rcases hs.2.2 with ⟨h1,_⟩ | ⟨_,b,off,G,h1,_⟩
     ·rw [h1]; rfl
     ·rw [h1] at hA; cases hA
    have hg:∀ op,(eqGuard op t x (.const (.slice none 0 0)) (.slice A r.xs.length cap) (.slice none 0 0)).run P W=.ok () W:=fun op=>by
     exact Zm1
    have he:a.eval (.const (.slice none 0 0))=.slice none 0 0:=rfl
    split at h
    ·obtain rfl:=Option.some.inj h
     refine ⟨A.isNone,?_,hn⟩
     exact ZzT
    ·obtain rfl:=Option.some.inj h
     refine ⟨!A.isNone,?_,fun hb=>hn (by simpa using hb)⟩
     exact ZzT
    ·cases h
   ·cases h
  ·cases h
 ·cases h
structure ZlM (T:Tab P) (W0:World) (E0:Env) (W:World) (E:Env) (M:Mem):Prop where
 g:ZbW W0 E0 W E
 kept:∀ i ∈ T.inp,M[i]?=some .dead∨∃ (t:Ty) (xs:List t.den) (v c:Nat) (hh:Option (Nat × Nat × Nat)),M[i]?=some (.row t xs v c hh)∧(v=0→∀ e0,E0[i]?=some e0→∃ e,E[i]?=some e∧e.val=e0.val)
theorem ZlM.step {W0 W' : World} {E0 E' : Env} {M' : Mem} (h:ZlM T W0 E0 W E M) (g:ZbW W E W' E') (m:Zbr W E M W' E' M'):ZlM T W0 E0 W' E' M':=by
 refine ⟨h.g.trans g,fun i hi=>?_⟩
 have hm:=m i
 rcases h.kept i hi with hd | ⟨t,xs,v,c,hh,h1,h2⟩
 ·rw [hd] at hm; exact .inl hm
 ·rw [h1] at hm
  rcases hm with hd | ⟨xs',v',c',hh',h3,h4,h5⟩
  ·exact .inl hd
  ·refine .inr ⟨t,xs',v',c',hh',h3,fun hv e0 he0=>?_⟩
   obtain ⟨e,q1,q2⟩:=h2 (by omega) e0 he0
   obtain ⟨e',r1,r2,_⟩:=h5 (by omega) e q1
   exact ⟨e',r1,r2.trans q2⟩
theorem Zfi {all:List Oper} {Q:Exit→Act→World→Prop} {W0:World} {E0:Env} (hT:ZvH X W0 E0 T) {K:List AV→Mem→Prop} (hK:∀ tm M a W E,K tm M→ZfX X tm M a W E→ZlM T W0 E0 W E M→Q .normal a W) :
 ∀ (os:List Oper) (tm:List AV) (M:Mem) (a:Act) (W:World) (E:Env),Znz T all os tm M K→ZfX X tm M a W E→ZlM T W0 E0 W E M→wpList P all.toArray Q os a W
 | [],tm,M,a,W,E,h,hr,hg=>hK tm M a W E h hr hg
 | o :: os,tm,M,a,W,E,h,hr,hg=>by
  have run:∀ (tm:List AV),ZfX X tm M a W E→Region.wanted o (yielded all.toArray a.tmps)=true→ZLA (ZdH T tm M o) (ZLz o M (ZdH T tm M o).mem (fun M'=>Znz T all os (ZkQ tm o.dst (ZdH T tm M o).val) M' K))→wpList P all.toArray Q (o :: os) a W:=fun tm hr hw h=>by
   have h:=Zg4 h
   refine Zs5 hw (Zqn hT hg.g hr.mem hr.tmps h.1 _ _ fun u W' E' g m r hv=>?_)
   exact Zfi hT hK os _ _ _ W' E' (ZmK h.2) ⟨r,ZoP (hr.tmps.mono g m hr.mem.len) hv,by rw [Zks]; exact hr.dfr⟩ (hg.step g m)
  unfold Znz at h
  cases hgd:o.guard with
  | none =>
   rw [hgd] at h
   simp only at h
   split at h
   ·rename_i q hq
    obtain ⟨b,h1,h2⟩:=ZKZ hr.mem hr.tmps hq
    refine Zs5 (by unfold Region.wanted; rw [hgd]) ?_
    unfold Oper.wp
    rw [h1]
    exact Zfi hT hK os _ _ _ W E (h b h2) ⟨hr.mem,ZoP hr.tmps rfl,by rw [Zks]; exact hr.dfr⟩ hg
   ·exact run tm hr (by unfold Region.wanted; rw [hgd]) h
  | some jw =>
   obtain ⟨j,want⟩:=jw
   rw [hgd] at h
   simp only at h
   cases hd:(all[j]?).bind (·.dst) with
   | none=>rw [hd] at h; exact h.elim
   | some d =>
    rw [hd] at h
    simp only at h
    have wnt:∀ g,yielded all.toArray a.tmps j=some g→Region.wanted o (yielded all.toArray a.tmps)=(g == want):=fun g hy=>by
     unfold Region.wanted
     rw [hgd]
     show (yielded all.toArray a.tmps j == some want)=_
     rw [hy]
     cases g <;> cases want <;> rfl
    split at h
    ·rename_i g hq
     have hy:=Zs3 hd hr.tmps hq
     have hl:=hr.lit hq
     cases want with
     | true =>
      simp only at h
      cases g with
      | true=>exact run _ hl (by rw [wnt _ hy]; rfl) h
      | false=>exact ZlL (by rw [wnt _ hy]; rfl) (Zfi hT hK os _ _ _ W E h (hl.skip _) hg)
     | false =>
      simp only at h
      cases g with
      | true=>exact ZlL (by rw [wnt _ hy]; rfl) (Zfi hT hK os _ _ _ W E h (hl.skip _) hg)
      | false=>exact run _ hl (by rw [wnt _ hy]; rfl) h
    ·rename_i l hq
     have hy:=Zs4 hd hr.tmps hq
     refine ZlL ?_ (Zfi hT hK os _ _ _ W E h (hr.skip _) hg)
     unfold Region.wanted
     rw [hgd]
     show (yielded all.toArray a.tmps j == some want)=false
     rw [hy]
     rfl
    ·exact h.elim
end
section
variable {P:Program} {X:List Nat} {W:World} {E:Env} {M:Mem} {a:Act} {tm:List AV} {o:Oper} {T:Tab P} {ops:Array Oper}
theorem ZxJ {N:Mem} {i v:Nat} {r:Zht} (h:ZdC M i v=some r):ZdC (M ++ N) i v=some r:=by
 have h1:=ZdG h
 have hl:=(List.getElem?_eq_some_iff.1 h1).1
 unfold ZdC
 rw [List.getElem?_append_left hl,h1]
 simp
theorem ZjR {N:Mem}:∀ {L:Lnd},ZeL M L=true→ZeL (M ++ N) L=true
 | .no,_=>rfl
 | .at i v c,h=>by
  have h:Zeo M i v c=true:=h
  show Zeo (M ++ N) i v c=true
  unfold Zeo at h ⊢
  split at h
  ·rename_i t xs cv cc hM
   exact ZrI
  ·cases h
theorem Zqo {N:Mem} {i v:Nat} {r:Zht} (h:ZkO M i v=some r):ZkO (M ++ N) i v=some r:=by
 unfold ZkO at h ⊢
 split at h
 ·rename_i t xs cv cc hh hM
  exact ZrI
 ·cases h
theorem Zh8 {N:Mem} {i v c n k o:Nat} {r:Zht} (h:Zc5 M i v c n k o=some r):Zc5 (M ++ N) i v c n k o=some r:=by
 unfold Zc5 at h ⊢
 split at h
 ·rename_i t xs cv cc hM
  exact ZrI
 ·cases h
theorem Zqp {N:Mem} {c:AC} {q:Lnd × Zht} (h:ZgR M c=some q):ZgR (M ++ N) c=some q:=by
 unfold ZgR at h ⊢
 split at h
 ·rename_i L t xs
  cases hl:ZeL M L with
  | false=>rw [hl] at h; cases h
  | true=>rw [hl] at h; simp only [ZjR hl]; exact h
 ·rename_i i v
  cases hr:ZdC M i v with
  | none=>rw [hr] at h; cases h
  | some r=>rw [hr] at h; simp only [ZxJ hr]; exact h
 ·rename_i i v c n k o
  cases hr:Zc5 M i v c n k o with
  | none=>rw [hr] at h; cases h
  | some r=>rw [hr] at h; simp only [Zh8 hr]; exact h
 ·cases h
theorem ZK0 {N:Mem} {i:Nat} {b:Blk} (h:M[i]?=some b):(M ++ N)[i]?=some b:=by
 rw [List.getElem?_append_left (List.getElem?_eq_some_iff.1 h).1]
 exact h
theorem ZDO {n:Nat} (h:clsO T o=n) (hn:n≤1):ZNv T o=n:=by
 unfold clsO at h
 cases hc:isCut T o with
 | true=>rw [hc] at h; simp only [cond_true] at h; omega
 | false=>rw [hc] at h; exact h
def ZPm (N:Mem) (M:Mem) (r r' : OR):Prop:=r'.need∧r'.val=r.val∧r'.mem=M ++ N∧r.mem=M
theorem ZbF {N:Mem} {p:Prop} {v:AV} (h:p):ZPm N M ⟨p,v,M⟩ ⟨p,v,M ++ N⟩:=⟨h,rfl,rfl,rfl⟩
set_option maxHeartbeats 1000000 in
theorem ZK1 (N:Mem) (hc:clsO T o=0) (hn:(opA P tm M o).need):ZPm N M (opA P tm M o) (opA P tm (M ++ N) o):=by
 have hc:=ZDO hc (Nat.zero_le 1)
 unfold ZNv at hc
 unfold opA at hn ⊢
 cases ho:o.op <;> simp only [ho] at hn hc ⊢
 case alloc=>cases hc
 case box=>cases hc
 case store=>cases hc
 case buildSlice t _ _=>exfalso; cases hf:Zx7 P t <;> rw [hf] at hc <;> cases hc
 case makeSlice=>cases hc
 case move=>exact ZbF trivial
 case assign=>exact ZbF trivial
 case pick c x y=>split at hn <;> first | exact ZbF hn | exact hn.elim
 case load t x =>
  split at hn
  ·rename_i i q hx
   split at hn
   ·rename_i l hb
    simp only [ZK0 hb]
    exact Ziw
   ·exact hn.elim
  ·rename_i L t' xs k q hx
   cases hL:ZeL M L with
   | false=>rw [hL] at hn; exact hn.elim
   | true =>
    simp only [hL,ZjR hL,cond_true] at hn ⊢
    exact Ziw
  ·rename_i i v n k q hx
   cases hr:ZdC M i v with
   | none=>rw [hr] at hn; exact hn.elim
   | some r =>
    simp only [hr,ZxJ hr] at hn ⊢
    cases hL:Nat.beq n r.t.n with
    | false=>rw [hL] at hn; exact hn.elim
    | true =>
     simp only [hL,cond_true] at hn ⊢
     exact Ziw
  ·rename_i i v c n k o' m y q hx
   cases hr:Zc5 M i v c n k o' with
   | none=>rw [hr] at hn; exact hn.elim
   | some r =>
    simp only [hr,Zh8 hr] at hn ⊢
    cases hL:Nat.beq m r.t.n with
    | false=>rw [hL] at hn; exact hn.elim
    | true =>
     simp only [hL,cond_true] at hn ⊢
     exact Ziw
  ·exact hn.elim
 case build t parts=>split at hn <;> first | exact ZbF hn | exact hn.elim
 case nilCheck x =>
  split at hn
  ·exact ZbF hn
  ·rename_i L t' xs k q hx
   cases hL:ZeL M L with
   | false=>rw [hL] at hn; exact hn.elim
   | true=>simp only [ZjR hL,cond_true]; exact ZbF trivial
  ·rename_i i v n k q hx
   cases hr:ZkO M i v with
   | none=>rw [hr] at hn; exact hn.elim
   | some r=>simp only [Zqo hr,Option.isSome,cond_true]; exact ZbF trivial
  ·rename_i i v c n k o' m y q hx
   cases hr:Zc5 M i v c n k o' with
   | none=>rw [hr] at hn; exact hn.elim
   | some r=>simp only [Zh8 hr,Option.isSome,cond_true]; exact ZbF trivial
  ·exact ZbF hn
  ·exact hn.elim
 case binOp=>exact ZbF hn
 case unOp op t x=>cases op <;> simp only at hn ⊢ <;> first | exact hn.elim | (split at hn <;> first | exact ZbF hn | exact hn.elim)
 case convert s d x =>
  split at hn
  ·exact ZbF hn
  ·rename_i c hd hx
   split at hn
   ·rename_i e hs
    cases hu:ZNs P e with
    | false=>rw [hu] at hn; exact hn.elim
    | true =>
     simp only [hu,cond_true] at hn ⊢
     cases hst:ZDF M c with
     | none=>rw [hst] at hn; exact hn.elim
     | some xs =>
      rw [hst] at hn
      simp only [ZJJ (fun q hq=>Zqp hq) hst]
      exact ZbF hn
   ·exact hn.elim
  ·exact hn.elim
 case makeFunc fn first captured=>cases fn <;> simp only at hn ⊢ <;> first | exact hn.elim | (split at hn <;> first | exact ZbF hn | exact hn.elim)
 case slice t x lo hi mx =>
  cases mx with
  | some _=>exact hn.elim
  | none =>
   simp only at hn ⊢
   split at hn
   ·exact Ziw
   ·split at hn
    ·rename_i c hx
     cases hr:ZgR M c with
     | none=>rw [hr] at hn; exact hn.elim
     | some q =>
      simp only [hr,Zqp hr] at hn ⊢
      exact ZbF hn
    ·exact hn.elim
   ·exact hn.elim
 case fieldAddr s x n =>
  split at hn
  ·rename_i f hf
   cases hz:Nat.beq (Zcd P f.type) 0 with
   | true=>rw [hz] at hn; exact hn.elim
   | false =>
    rw [hz] at hn
    simp only [cond_false] at hn ⊢
    split at hn
    ·exact ZbF hn
    ·rename_i L t' xs k q hx
     cases hL:ZeL M L with
     | false=>rw [hL] at hn; exact hn.elim
     | true=>simp only [ZjR hL,cond_true]; exact ZbF trivial
    ·rename_i i v n k q hx
     cases hr:ZkO M i v with
     | none=>rw [hr] at hn; exact hn.elim
     | some r=>simp only [Zqo hr,Option.isSome,cond_true]; exact ZbF trivial
    ·rename_i i v c n k o' m y q hx
     cases hr:Zc5 M i v c n k o' with
     | none=>rw [hr] at hn; exact hn.elim
     | some r=>simp only [Zh8 hr,Option.isSome,cond_true]; exact ZbF trivial
    ·exact hn.elim
  ·exact hn.elim
 case indexAddr t x i =>
  split at hn
  ·rename_i e L t' xs k n hu hx hi
   cases hL:ZeL M L with
   | false=>rw [hL] at hn; exact hn.elim
   | true =>
    simp only [hL,ZjR hL,cond_true] at hn ⊢
    exact ZbF hn
  ·rename_i e i v k n hu hx hi
   cases hr:ZkO M i v with
   | none=>rw [hr] at hn; exact hn.elim
   | some r =>
    simp only [hr,Zqo hr] at hn ⊢
    exact ZbF hn
  ·rename_i e i v c n' k' o' k n hu hx hi
   cases hr:Zc5 M i v c n' k' o' with
   | none=>rw [hr] at hn; exact hn.elim
   | some r =>
    simp only [hr,Zh8 hr] at hn ⊢
    exact ZbF hn
  ·exact hn.elim
 case index t x i=>split at hn <;> first | exact ZbF hn | exact hn.elim
 case extract x n =>
  split at hn
  ·exact Ziw
  ·exact hn.elim
 case call c =>
  obtain ⟨cal,xs,ts⟩:=c
  cases cal <;> simp only at hn hc ⊢ <;> try exact hn.elim
  rename_i b
  cases b <;> simp only at hn hc ⊢ <;> try exact hn.elim
  case append=>cases hc
  case len =>
   split at hn
   ·split at hn
    ·exact ZbF hn
    ·exact ZbF hn
    ·rename_i e c _ hu hx
     cases hr:ZgR M c with
     | none=>rw [hr] at hn; exact hn.elim
     | some q =>
      simp only [hr,Zqp hr] at hn ⊢
      exact ZbF hn
    ·exact hn.elim
   ·exact hn.elim
  case min=>split at hn <;> first | exact ZbF hn | exact hn.elim
  case max=>split at hn <;> first | exact ZbF hn | exact hn.elim
 all_goals exact hn.elim
theorem Zqq (hc:clsO T o≤1):ZdH T tm M o=ZlU T tm M o:=by
 unfold ZdH
 have:Nat.beq (clsO T o) 2=false:=by
  cases h:Nat.beq (clsO T o) 2 with
  | false=>rfl
  | true=>have:=Nat.eq_of_beq_eq_true h; omega
 rw [this]
 rfl
theorem Zs7 (hc:clsO T o=0):ZdH T tm M o=opA P tm M o:=by
 rw [Zqq (by omega)]
 unfold ZlU
 have hc:=ZDO hc (Nat.zero_le 1)
 unfold ZNv at hc
 cases ho:o.op <;> simp only [ho] at hc ⊢
 case call c =>
  obtain ⟨cal,xs,ts⟩:=c
  cases cal <;> first | rfl | skip
  all_goals try (cases hc; done)
  rename_i fn
  cases fn <;> first | (cases hc; done) | skip
  rename_i f
  exfalso
  have hc:(match findM f T.G with | some _=>2 | none=>1)=0:=hc
  split at hc <;> cases hc
theorem Zkt (N:Mem) (hc:clsO T o=0) (hn:(ZdH T tm M o).need):ZPm N M (ZdH T tm M o) (ZdH T tm (M ++ N) o):=by
 rw [Zs7 hc] at hn ⊢
 rw [Zs7 hc]
 exact ZK1 N hc hn
theorem ZI3 {f:FuncId} {args:List AV} (hn:(ZsG T M f args).need):∃ N,(ZsG T M f args).mem=M ++ N:=by
 unfold ZsG at hn ⊢
 cases hH:ZGW f T.H with
 | some h =>
  rw [hH] at hn
  simp only at hn ⊢
  split at hn
  ·exact ZrK
  ·exact ZrK
  ·exact hn.elim
 | none =>
  rw [hH] at hn
  simp only at hn ⊢
  cases hH2:Ztp f T.H2 with
  | some h =>
   rw [hH2] at hn
   simp only at hn ⊢
   split at hn
   ·exact ZrK
   ·exact hn.elim
  | none =>
  rw [hH2] at hn
  simp only at hn ⊢
  cases hE:ZvE f T.Γ with
  | none=>rw [hE] at hn; exact hn.elim
  | some e =>
   rw [hE] at hn
   simp only at hn ⊢
   cases hd:Zky M e.ins args with
   | none=>rw [hd] at hn; exact hn.elim
   | some x =>
    simp only
    cases hp:ZMl e.ins || args.any ZJq with
    | true=>exact ⟨e.new x,rfl⟩
    | false=>exact ⟨e.new x,rfl⟩
theorem Zqr:∀ {t:Ty} {l:List AC} {x:t.den} {r:List AC} {js:List Nat},t.flat=true→ZHx M t l=some (x,r,js)→js=[]
 | .int k,l,x,r,js,_,h=>by
  have h:Zxx k l=some (x,r,js):=h
  unfold Zxx at h
  exact ZmX
 | .bool,l,x,r,js,_,h=>by
  have h:Zqh l=some (x,r,js):=h
  unfold Zqh at h
  exact ZmX
 | .opq,l,x,r,js,_,h=>by
  have h:Zxz l=some (x,r,js):=h
  unfold Zxz at h
  exact ZmX
 | .str,l,x,r,js,_,h=>by
  have h:Zxy l=some (x,r,js):=h
  unfold Zxy at h
  exact ZmX
 | .list _,_,_,_,_,hf,_=>by cases hf
 | .prod a b,l,x,r,js,hf,h=>by
  have hf:(a.flat && b.flat)=true:=hf
  rw [Bool.and_eq_true] at hf
  unfold ZHx at h
  cases ha:ZHx M a l with
  | none=>rw [ha] at h; cases h
  | some q =>
   obtain ⟨y,l1,j1⟩:=q
   rw [ha] at h
   simp only at h
   cases hb:ZHx M b l1 with
   | none=>rw [hb] at h; cases h
   | some q =>
    obtain ⟨z,r2,j2⟩:=q
    rw [hb] at h
    injection h with h
    injection h with h1 h2
    injection h2 with h3 h4
    rw [← h4,Zqr hf.1 ha,Zqr hf.2 hb]
    rfl
theorem Zmq {t:Ty} (hf:t.flat=true):∀ {l:List (Nat × AV)} {k:Nat} {ys:List t.den} {js:List Nat},Zfq M t k l=some (ys,js)→js=[]
 | [],_,_,_,h=>by injection h with h; injection h with h1 h2; exact h2.symm
 | (i,x) :: l,k,ys,js,h=>by
  unfold Zfq at h
  cases hb:Nat.beq i k with
  | false=>rw [hb] at h; cases h
  | true =>
   rw [hb] at h
   simp only [cond_true] at h
   cases hv:ZMg M t x with
   | none=>rw [hv] at h; cases h
   | some q =>
    obtain ⟨y,j1⟩:=q
    rw [hv] at h
    simp only at h
    cases hp:Zfq M t (k + 1) l with
    | none=>rw [hp] at h; cases h
    | some q =>
     obtain ⟨zs,j2⟩:=q
     rw [hp] at h
     injection h with h
     injection h with h1 h2
     have e2:=Zmq hf hp
     have e1:j1=[]:=by
      unfold ZMg at hv
      split at hv
      ·split at hv
       ·rename_i hq
        injection hv with hv
        injection hv with _ h3
        rw [← h3]
        exact Zqr hf hq
       ·cases hv
      ·cases hv
     rw [← h2,e1,e2]
     rfl
theorem ZI4 (hc:clsO T o≤1) (hn:(ZdH T tm M o).need):∃ N,(ZdH T tm M o).mem=M ++ N:=by
 by_cases h0:clsO T o=0
 ·exact ⟨[],by rw [List.append_nil]; exact (Zkt [] h0 hn).2.2.2⟩
 ·rw [Zqq hc] at hn ⊢
  unfold ZlU at hn ⊢
  have hcq:=ZDO rfl hc
  rw [← hcq] at hc h0
  clear hcq
  unfold ZNv at hc h0
  cases ho:o.op <;> simp only [ho] at hc h0 hn ⊢ <;> try exact (h0 trivial).elim
  case store=>omega
  case buildSlice t len parts =>
   have hfl:Zx7 P t=true:=by
    cases hf:Zx7 P t with
    | true=>rfl
    | false=>rw [hf] at hc; exact absurd hc (by decide)
   unfold Zx7 at hfl
   unfold opA at hn ⊢
   simp only [ho] at hn ⊢
   split at hfl
   ·rename_i e hu
    simp only [hu] at hn ⊢
    split at hfl
    ·rename_i tt htt
     simp only [htt] at hn ⊢
     split at hn
     ·rename_i ys js hp
      have:=Zmq hfl hp
      subst this
      cases hcnd:(Zh7 P e tt.n && Nat.ble (len * tt.n) 16777216) && (Nat.beq len parts.size && ZbS []) with
      | false=>rw [hcnd] at hn; exact hn.elim
      | true=>simp only [hcnd,cond_true]; exact ⟨_,rfl⟩
     ·rw [hfl] at hn
      exact hn.elim
    ·cases hfl
   ·cases hfl
  case makeSlice t l c =>
   unfold opA at hn ⊢
   simp only [ho] at hn ⊢
   split at hn
   ·split at hn
    ·rename_i tt z htt hz
     cases hcnd:z.cells.toList.all ZjL && Zh7 P _ tt.n with
     | false=>rw [hcnd] at hn; exact hn.elim
     | true =>
      simp only [hcnd,cond_true] at hn ⊢
      split at hn
      ·exact ⟨_,rfl⟩
      ·exact hn.elim
    ·exact hn.elim
   ·exact hn.elim
  case alloc e =>
   unfold opA at hn ⊢
   simp only [ho] at hn ⊢
   split at hn
   ·rename_i z hz
    cases hok:z.cells.toList.all ZjL with
    | false=>rw [hok] at hn; exact hn.elim
    | true=>exact ⟨_,rfl⟩
   ·exact hn.elim
  case box e x =>
   unfold opA at hn ⊢
   simp only [ho] at hn ⊢
   split at hn
   ·exact ⟨_,rfl⟩
   ·exact hn.elim
  case call c =>
   obtain ⟨cal,xs,ts⟩:=c
   cases cal <;> simp only at hc h0 hn ⊢
   case value fn =>
    cases fn <;> simp only at hc h0 <;> try (omega; done)
    rename_i f
    have hc:(match findM f T.G with | some _=>2 | none=>1)≤1:=hc
    cases hG:findM f T.G with
    | some e=>rw [hG] at hc; exact absurd (show 2≤1 from hc) (by decide)
    | none =>
     have e1:evalA tm (.func f)=.w (.c (.fn f [])):=rfl
     rw [e1] at hn ⊢
     simp only at hn ⊢
     unfold Zx6 at hn ⊢
     rw [Zrc hG] at hn ⊢
     exact ZI3 hn
   case builtin b=>cases b <;> simp only at hc h0 <;> first | omega | exact (h0 trivial).elim | exact (h0 rfl).elim
   all_goals omega
theorem ZxK {tm' : List AV} (h:∀ x ∈ o.op.operands,evalA tm x=evalA tm' x):opA P tm M o=opA P tm' M o:=by
 unfold opA
 cases ho:o.op <;> simp only [ho,Op.operands] at h ⊢
 case makeFunc fn first captured =>
  have:captured.toList.map (evalA tm)=captured.toList.map (evalA tm'):=List.map_congr_left fun x hx=>h x (by simp at hx ⊢; exact .inr hx)
  cases fn <;> simp only [this]
 case unOp op t x =>
  have:=h x (by simp)
  cases op <;> simp only [this]
 case slice t x lo hi mx=>cases lo <;> cases hi <;> cases mx <;> simp_all
 case call c =>
  obtain ⟨cal,args,ts⟩:=c
  simp only [Call.operands] at h
  cases cal <;> simp only at h ⊢
  rename_i b
  have hm:args.toList.map (evalA tm)=args.toList.map (evalA tm'):=List.map_congr_left fun x hx=>h x (by simp at hx ⊢; exact hx)
  have hmem:∀ x ∈ args.toList,evalA tm x=evalA tm' x:=fun x hx=>h x (by simp at hx ⊢; exact hx)
  cases b <;> simp only [hm] <;> try rfl
  case append =>
   cases hts:ts.toList with
   | nil=>rfl
   | cons t l =>
    cases l with
    | nil=>rfl
    | cons t2 l =>
     cases l with
     | cons _ _=>rfl
     | nil =>
      cases hxs:args.toList with
      | nil=>rfl
      | cons x k =>
       cases k with
       | nil=>rfl
       | cons y k =>
        cases k with
        | cons _ _=>rfl
        | nil=>simp only [hmem x (by rw [hxs]; simp),hmem y (by rw [hxs]; simp)]
  case len =>
   cases hts:ts.toList with
   | nil=>rfl
   | cons t l =>
    cases l with
    | cons _ _=>rfl
    | nil =>
     cases hxs:args.toList with
     | nil=>rfl
     | cons x k =>
      cases k with
      | cons _ _=>rfl
      | nil=>simp only [hmem x (by rw [hxs]; simp)]
 case build t parts =>
  exact Zzu
 case buildSlice t len parts =>
  exact Zzu
 all_goals first | rfl | (simp_all; done)
theorem ZDP {tm' : List AV} (hc:clsO T o≤1) (h:∀ x ∈ o.op.operands,evalA tm x=evalA tm' x):ZdH T tm M o=ZdH T tm' M o:=by
 have h2:=ZxK (P:=P) (M:=M) h
 rw [Zqq hc,Zqq hc]
 exact Zy9
theorem ZxL {dst:Option Tmp} {v:AV} {x:Operand} (h:∀ d,dst=some d→x ≠ .tmp d):evalA (ZkQ tm dst v) x=evalA tm x:=by
 cases dst with
 | none=>rfl
 | some d =>
  cases x with
  | tmp t =>
   have hne:d ≠ t:=fun e=>h d rfl (by rw [e])
   exact ZzS
  | const v=>rfl
  | global g=>rfl
  | func f=>rfl
theorem ZI5 {dst:Option Tmp} {v:AV} (hc:clsO T o≤1) (h:∀ d,dst=some d→d ∉ o.looksAt ops):ZdH T (ZkQ tm dst v) M o=ZdH T tm M o :=
 ZDP hc fun x hx=>ZxL fun d hd hxd=>h d hd (by
  subst hxd
  exact List.mem_append_left _ (List.mem_filterMap.2 ⟨.tmp d,by simpa using hx,rfl⟩))
theorem Zqs {d:Nat} {v:AV} {t:Nat} (h:d ≠ t):ZjN (tm.set d v) M t=((ZjN tm M t).1.set d v,(ZjN tm M t).2):=by
 unfold ZjN
 rw [List.getElem?_set_ne h]
 cases tm[t]? with
 | none=>rfl
 | some x =>
  simp only
  cases liftV M x with
  | none=>rfl
  | some p=>simp only; rw [List.set_comm _ _ h]
theorem ZjS {d:Nat} {v:AV}:∀ (l:List MTy) (xs:List Operand) (tm:List AV) (M:Mem),(∀ x ∈ xs,x ≠ .tmp d)→Zby l xs (tm.set d v) M=((Zby l xs tm M).1.set d v,(Zby l xs tm M).2)
 | [],_,_,_,_=>by unfold Zby; rfl
 | y :: l,[],tm,M,_=>by
  have e:∀ tm,Zby (y :: l) [] tm M=(tm,M):=fun tm=>by cases y <;> rfl
  rw [e,e]
 | y :: l,x :: xs,tm,M,h=>by
  have h' : ∀ x ∈ xs,x ≠ .tmp d:=fun x hx=>h x (List.mem_cons_of_mem _ hx)
  have go:∀ t,d ≠ t→(∀ tm,Zby (y :: l) (x :: xs) tm M=Zby l xs (ZjN tm M t).1 (ZjN tm M t).2)→Zby (y :: l) (x :: xs) (tm.set d v) M=((Zby (y :: l) (x :: xs) tm M).1.set d v,(Zby (y :: l) (x :: xs) tm M).2):=fun t ht e=>by
   rw [e,e,Zqs ht]
   exact ZjS l xs _ _ h'
  have stay:(∀ tm,Zby (y :: l) (x :: xs) tm M=Zby l xs tm M)→Zby (y :: l) (x :: xs) (tm.set d v) M=((Zby (y :: l) (x :: xs) tm M).1.set d v,(Zby (y :: l) (x :: xs) tm M).2):=fun e=>by
   rw [e,e]
   exact ZjS l xs _ _ h'
  have hx:=h x List.mem_cons_self
  cases y <;> cases x <;> first
   | exact stay fun tm=>rfl
   | exact go _ (fun q=>hx (by rw [q])) fun tm=>rfl
theorem ZK2 {d:Nat} {v:AV} (h:∀ x ∈ o.op.operands,x ≠ .tmp d):ZJr T (tm.set d v) M o=((ZJr T tm M o).1.set d v,(ZJr T tm M o).2):=by
 unfold ZJr
 cases ho:o.op <;> simp only [ho,Op.operands] at h ⊢
 case store t p x =>
  cases p with
  | tmp p=>exact Zqs fun q=>h (.tmp p) (by simp) (by rw [q])
  | const v=>rfl
  | global g=>rfl
  | func f=>rfl
 case call c =>
  obtain ⟨cal,args,ts⟩:=c
  simp only [Call.operands] at h
  cases cal <;> simp only at h ⊢
  case builtin b =>
   cases b <;> simp only
   case append =>
    cases ha:args.toList with
    | nil=>rfl
    | cons x xs =>
     have hx:=h x (by simp; exact Array.mem_toList_iff.1 (by rw [ha]; exact List.mem_cons_self))
     cases x with
     | tmp t=>exact Zqs fun q=>hx (by rw [q])
     | const v=>rfl
     | global g=>rfl
     | func f=>rfl
  case value fn =>
   cases fn with
   | func f =>
    simp only
    cases findM f T.G with
    | none=>rfl
    | some e=>exact ZjS _ _ _ _ fun x hx=>h x (by simp at hx ⊢; exact .inr hx)
   | tmp t=>rfl
   | const v=>rfl
   | global g=>rfl
theorem Zqt {tm' : List AV} (h:∀ x ∈ o.op.operands,evalA tm x=evalA tm' x):ZlU T tm M o=ZlU T tm' M o:=by
 have h2:=ZxK (P:=P) (M:=M) h
 exact Zy9
theorem ZGP {tm' : List AV} (h:∀ x ∈ o.op.operands,evalA tm x=evalA tm' x):ZMn (P:=P) tm M o=ZMn (P:=P) tm' M o:=by
 unfold ZMn
 cases ho:o.op <;> simp only [ho,Op.operands] at h ⊢
 case slice t x lo hi mx =>
  cases mx with
  | some m=>rfl
  | none =>
   simp only
   rw [h x (by simp)]
   have e1:lo.map (evalA tm)=lo.map (evalA tm'):=by
    cases lo with
    | none=>rfl
    | some y=>exact congrArg some (h y (by simp))
   have e2:hi.map (evalA tm)=hi.map (evalA tm'):=by
    cases hi with
    | none=>rfl
    | some y=>exact congrArg some (h y (by simp))
   rw [e1,e2]
 case call c =>
  obtain ⟨cal,args,ts⟩:=c
  simp only [Call.operands] at h
  cases cal <;> simp only at h ⊢
  case builtin b =>
   cases b <;> simp only
   case clear =>
    cases hts:ts.toList with
    | nil=>rfl
    | cons t l =>
     cases l with
     | cons _ _=>rfl
     | nil =>
      cases ha:args.toList with
      | nil=>rfl
      | cons x xs =>
       cases xs with
       | cons _ _=>rfl
       | nil=>simp only; rw [h x (by simp; exact Array.mem_toList_iff.1 (by rw [ha]; exact List.mem_cons_self))]
 case makeMap t r=>cases r <;> rfl
 case lookup t m k c =>
  cases c with
  | true=>rfl
  | false=>show ZD0 P M t (evalA tm m) (evalA tm k)=ZD0 P M t (evalA tm' m) (evalA tm' k); rw [h m (by simp),h k (by simp)]
 case mapUpdate t m k v=>show ZM7 P M t (evalA tm m) (evalA tm k) (evalA tm v)=ZM7 P M t (evalA tm' m) (evalA tm' k) (evalA tm' v); rw [h m (by simp),h k (by simp),h v (by simp)]
theorem ZnV {dst:Option Tmp} {v:AV} (h:∀ d,dst=some d→d ∉ o.looksAt ops):ZdH T (ZkQ tm dst v) M o=ZdH T tm M o:=by
 cases dst with
 | none=>rfl
 | some d =>
  have hd:∀ x ∈ o.op.operands,x ≠ .tmp d:=fun x hx hxd=>h d rfl (by
   subst hxd
   exact List.mem_append_left _ (List.mem_filterMap.2 ⟨.tmp d,by simpa using hx,rfl⟩))
  have ev:∀ tm:List AV,∀ x ∈ o.op.operands,evalA (tm.set d v) x=evalA tm x:=fun tm x hx =>
   ZxL (dst:=some d) (v:=v) fun e he hxd=>hd x hx (by rw [hxd,Option.some.inj he])
  show ZdH T (tm.set d v) M o=_
  unfold ZdH
  cases Nat.beq (clsO T o) 2 with
  | false=>exact Zqt (ev tm)
  | true =>
   cases isCut T o with
   | true=>exact ZGP (ev tm)
   | false =>
    show (let g:=ZJr T (tm.set d v) M o; let r:=ZlU T g.1 g.2 o; (⟨r.need,r.val,ZoN r.mem⟩:OR))=_
    rw [ZK2 hd]
    simp only
    rw [Zqt (ev _)]
    rfl
theorem ZI6 {M' : Mem} (h:Zx9 o=true):(ZdH T tm M o).need=(ZdH T tm M' o).need∧(ZdH T tm M o).val=(ZdH T tm M' o).val:=by
 unfold Zx9 at h
 cases ho:o.op <;> rw [ho] at h <;> try cases h
 have e:∀ M,ZdH T tm M o=ZlU T tm M o:=fun M=>Zqq (by unfold clsO isCut ZNv; rw [ho]; exact Nat.zero_le _)
 rw [e,e]
 unfold ZlU
 rw [ho]
 show (opA P tm M o).need=(opA P tm M' o).need∧(opA P tm M o).val=(opA P tm M' o).val
 unfold opA
 rw [ho]
 exact ⟨rfl,rfl⟩
def Zoz (ops:Array Oper) (o:Oper) (tm:List AV):Option Bool :=
 match o.guard with
 | none=>some true
 | some (j,want)=>match (ops[j]?).bind (·.dst) with
  | some d=>match tm.getD d .any with
   | .w (.c (.bool g))=>some (g == want)
   | .tp _=>some false
   | _=>none
  | none=>none
theorem Zqu {dst:Option Tmp} {v:AV} (h:∀ d,dst=some d→d ∉ o.looksAt ops):Zoz ops o (ZkQ tm dst v)=Zoz ops o tm:=by
 unfold Zoz
 cases hg:o.guard with
 | none=>rfl
 | some gw =>
  obtain ⟨j,want⟩:=gw
  simp only
  cases ht:(ops[j]?).bind (·.dst) with
  | none=>rfl
  | some t =>
   have:(ZkQ tm dst v).getD t .any=tm.getD t .any:=by
    cases dst with
    | none=>rfl
    | some d =>
     have hne:d ≠ t:=fun e=>h d rfl (by subst e; simp [Oper.looksAt,hg,ht])
     exact ZzS
   simp only [this]
theorem ZxM {x y:Option Tmp} (v u:AV) (h:∀ d,x=some d→y ≠ some d):ZkQ (ZkQ tm x v) y u=ZkQ (ZkQ tm y u) x v:=by
 cases x with
 | none=>rfl
 | some d =>
  cases y with
  | none=>rfl
  | some e =>
   have hne:d ≠ e:=fun q=>h d rfl (by rw [q])
   show (tm.set d v).set e u=(tm.set e u).set d v
   rw [List.set_comm _ _ hne]
def qA (T:Tab P) (ops:Array Oper) (i:Nat) (K:List AV→Mem→Prop) (tm:List AV) (M:Mem):Prop :=
 match ops[i]? with
 | none=>K tm M
 | some o=>match Zoz ops o tm with
  | some true=>(ZdH T tm M o).need∧K (ZkQ tm o.dst (ZdH T tm M o).val) (ZdH T tm M o).mem
  | some false=>K (ZkQ tm o.dst Zin) M
  | none=>False
theorem Zvr {i:Nat} {K K' : List AV→Mem→Prop} (h:∀ a m,K a m→K' a m) (hh:qA T ops i K tm M):qA T ops i K' tm M:=by
 unfold qA at *
 split
 ·rename_i ho; simp only [ho] at hh; exact h _ _ hh
 ·rename_i o ho
  simp only [ho] at hh
  split
  ·rename_i hw; simp only [hw] at hh; exact ⟨hh.1,h _ _ hh.2⟩
  ·rename_i hw; simp only [hw] at hh; exact h _ _ hh
  ·rename_i hw; simp only [hw] at hh
def ZK3 (T:Tab P) (ops:Array Oper) (Q:List AV→Mem→Prop):Nat→Array Bool→List AV→Mem→Prop
 | 0,listed,tm,M=>Region.ready .any ops listed=[]∧Q tm M
 | fuel + 1,listed,tm,M=>(Region.ready .any ops listed=[]→Q tm M)∧∀ i ∈ Region.ready .any ops listed,qA T ops i (ZK3 T ops Q fuel (listed.setIfInBounds i true)) tm M
def Yld (T:Tab P) (ops:Array Oper) (o:Oper) (v:AV) (tm:List AV) (M:Mem):Prop :=
 (Zoz ops o tm=some true∧(ZdH T tm M o).need∧v=(ZdH T tm M o).val)∨(Zoz ops o tm=some false∧v=Zin)
theorem Yld.qA {i:Nat} {v:AV} (hi:ops[i]?=some o) (hc:clsO T o=0) (hy:Yld T ops o v tm M) {K:List AV→Mem→Prop} (h:K (ZkQ tm o.dst v) M):qA T ops i K tm M:=by
 unfold Go.Proofs.YtkompmgleojmlaaGreat.qA
 simp only [hi]
 rcases hy with ⟨hw,hv,rfl⟩ | ⟨hw,rfl⟩
 ·simp only [hw]; exact ⟨hv,by rw [(Zkt [] hc hv).2.2.2]; exact h⟩
 ·simp only [hw]; exact h
theorem ZN1 {j:Nat} {oi oj:Oper} {v:AV} (hj:ops[j]?=some oj) (hap:oi.apart ops oj=true) (hci:clsO T oi=0) (hcj:clsO T oj≤1∨Zx9 oi=true) {K:List AV→Mem→Prop} (hy:Yld T ops oi v tm M) (h:qA T ops j K (ZkQ tm oi.dst v) M) :
 qA T ops j (fun a' m'=>Yld T ops oi v a' m'∧K (ZkQ a' oi.dst v) m') tm M:=by
 obtain ⟨h1,h2,h3⟩:=Oper.apart_spec hap
 have keep:∀ u N,Yld T ops oi v (ZkQ tm oj.dst u) (M ++ N):=fun u N=>by
  unfold Yld
  rw [Zqu h3,ZI5 (by omega) h3]
  rcases hy with ⟨hw,hv,rfl⟩ | hy
  ·obtain ⟨m1,m2,_,_⟩:=Zkt N hci hv
   exact .inl ⟨hw,m1,m2.symm⟩
  ·exact .inr hy
 have keepP:Zx9 oi=true→∀ u M',Yld T ops oi v (ZkQ tm oj.dst u) M':=fun hp u M'=>by
  unfold Yld
  rw [Zqu h3,ZnV h3]
  rcases hy with ⟨hw,hv,rfl⟩ | hy
  ·obtain ⟨m1,m2⟩:=ZI6 (T:=T) (tm:=tm) (M:=M) (M':=M') hp
   exact .inl ⟨hw,by rw [← m1]; exact hv,m2⟩
  ·exact .inr hy
 unfold qA at *
 simp only [hj] at *
 rw [Zqu h1,ZnV h1] at h
 split
 ·rename_i hw
  simp only [hw] at h
  refine ⟨h.1,?_,by rw [← ZxM _ _ h2]; exact h.2⟩
  rcases hcj with hcj | hp
  ·obtain ⟨N,hN⟩:=ZI4 hcj h.1
   rw [hN]; exact keep _ N
  ·exact keepP hp _ _
 ·rename_i hw
  simp only [hw] at h
  exact ⟨by have:=keep Zin []; rwa [List.append_nil] at this,by rw [← ZxM _ _ h2]; exact h⟩
 ·rename_i hw
  simp only [hw] at h
def Zqv (ops:Array Oper) (listed:Array Bool):Prop:=∀ (j:Nat) (o:Oper),ops[j]?=some o→listed.getD j false=true→∀ e ∈ o.after,Region.binds .any e=true→listed.getD e.on false=true
theorem ZGQ {listed:Array Bool} (hcl:Zqv ops listed) {i:Nat}:∀ (n j:Nat),listed.getD j false=true→ZHy ops n i j=true→listed.getD i false=true
 | 0,_,_,h=>by cases h
 | n + 1,j,hj,h=>by
  unfold ZHy at h
  cases ho:ops[j]? with
  | none=>rw [ho] at h; cases h
  | some o =>
   rw [ho] at h
   obtain ⟨e,he,hb⟩:=Array.any_eq_true'.1 h
   rw [Bool.and_eq_true,Bool.or_eq_true] at hb
   have:=hcl j o ho hj e he hb.1
   exact ZzP
theorem ZI7 {listed:Array Bool} (hcl:Zqv ops listed) {i j:Nat} (hj:j ∈ Region.ready .any ops listed) {n:Nat} (h:ZHy ops n i j=true):listed.getD i false=true:=by
 cases n with
 | zero=>cases h
 | succ n =>
  obtain ⟨_,o,ho,hall⟩:=mem_ready.1 hj
  unfold ZHy at h
  rw [ho] at h
  obtain ⟨e,he,hb⟩:=Array.any_eq_true'.1 h
  rw [Bool.and_eq_true,Bool.or_eq_true] at hb
  have:=hall e he hb.1
  exact ZzP
theorem Znq {listed:Array Bool} (hcl:Zqv ops listed) {i:Nat} (hi:i ∈ Region.ready .any ops listed):Zqv ops (listed.setIfInBounds i true):=fun j o ho hj e he hb=>by
 by_cases hji:i=j
 ·subst hji
  obtain ⟨_,o',ho',hall⟩:=mem_ready.1 hi
  obtain rfl:o'=o:=Option.some.inj (ho'.symm.trans ho)
  exact getD_set_true (hall e he hb)
 ·rw [getD_set_ne false hji] at hj
  exact getD_set_true (hcl j o ho hj e he hb)
theorem ZMU {listed:Array Bool} {i:Nat} (h:listed.getD i true=false):listed.getD i false=false:=by
 rcases Nat.lt_or_ge i listed.size with h' | h'
 ·simp [h'] at h ⊢; exact h
 ·simp [Array.getElem?_eq_none h']
theorem ZxN {Q:List AV→Mem→Prop} {i:Nat} {oi:Oper} {v:AV} (hi:ops[i]?=some oi) (hci:clsO T oi=0) :
 ∀ (fuel:Nat) (listed:Array Bool) (tm:List AV) (M:Mem),Zqv ops listed →
   (∀ j oj,ops[j]?=some oj→j ≠ i→listed.getD j true=false→ZHy ops ops.size i j=false→oi.apart ops oj=true∧(clsO T oj≤1∨Zx9 oi=true)) →
   i ∈ Region.ready .any ops listed→Yld T ops oi v tm M →
   ZK3 T ops Q fuel (listed.setIfInBounds i true) (ZkQ tm oi.dst v) M→ZK3 T ops Q (fuel + 1) listed tm M:=by
 intro fuel
 induction fuel with
 | zero =>
  intro listed tm M _ _ hr hy H
  refine ⟨fun h=>(by rw [h] at hr; cases hr),fun j hj=>?_⟩
  by_cases hji:j=i
  ·subst hji; exact hy.qA hi hci H
  ·have:=ready_mono hj hji
   rw [H.1] at this
   cases this
 | succ fuel ih =>
  intro listed tm M hcl hfree hr hy H
  refine ⟨fun h=>(by rw [h] at hr; cases hr),fun j hj=>?_⟩
  by_cases hji:j=i
  ·subst hji; exact hy.qA hi hci H
  ·have h1:=H.2 j (ready_mono hj hji)
   obtain ⟨hjun,oj,hoj,hall⟩:=mem_ready.1 hj
   have hnd:ZHy ops ops.size i j=false:=by
    cases hd:ZHy ops ops.size i j with
    | false=>rfl
    | true =>
     exact ZAc
   obtain ⟨hap,hcj⟩:=hfree j oj hoj hji hjun hnd
   have h2:=ZN1 hoj hap hci hcj hy h1
   have hfree' : ∀ k ok,ops[k]?=some ok→k ≠ i→(listed.setIfInBounds j true).getD k true=false→ZHy ops ops.size i k=false→oi.apart ops ok=true∧(clsO T ok≤1∨Zx9 oi=true):=fun k ok hk hki hun hno=>by
    refine hfree k ok hk hki ?_ hno
    by_cases hjk:j=k
    ·subst hjk; exact hjun
    ·rw [getD_set_ne true hjk] at hun; exact hun
   refine Zvr (fun a' m' h3=>ih (listed.setIfInBounds j true) a' m' (Znq hcl hj) hfree' (ready_mono hr (Ne.symm hji)) h3.1 ?_) h2
   rw [Array.setIfInBounds_comm _ _ hji]
   exact h3.2
theorem Zqw {Q:List AV→Mem→Prop}:∀ (n k:Nat) (listed:Array Bool) (tm:List AV) (M:Mem),ZK3 T ops Q n listed tm M→n≤k→ZK3 T ops Q k listed tm M
 | 0,0,_,_,_,h,_=>h
 | 0,k + 1,listed,tm,M,h,_=>⟨fun _=>h.2,fun i hi=>by rw [h.1] at hi; cases hi⟩
 | n + 1,0,_,_,_,_,hk=>by omega
 | n + 1,k + 1,listed,tm,M,h,hk=>⟨h.1,fun i hi=>Zvr (fun a m h=>Zqw n k _ a m h (by omega)) (h.2 i hi)⟩
theorem ZMV {i:Nat} {K:List AV→Mem→Prop} (h:ZM8 T ops i tm M K):qA T ops i K tm M:=by
 unfold ZM8 at h
 cases ho:ops[i]? with
 | none=>rw [ho] at h; exact h.elim
 | some o =>
  rw [ho] at h
  simp only at h
  unfold qA
  simp only [ho]
  have wnt:∀ j want d,o.guard=some (j,want)→(ops[j]?).bind (·.dst)=some d→Zoz ops o tm=(match tm.getD d .any with
   | .w (.c (.bool g))=>some (g == want)
   | .tp _=>some false
   | _=>none):=fun j want d hg hd=>by
   unfold Zoz
   rw [hg]
   simp only [hd]
  cases hgd:o.guard with
  | none =>
   rw [hgd] at h
   have:Zoz ops o tm=some true:=by unfold Zoz; rw [hgd]
   simp only [this]
   exact ⟨(Zg4 h).1,ZmK (Zg4 h).2⟩
  | some jw =>
   obtain ⟨j,want⟩:=jw
   rw [hgd] at h
   simp only at h
   cases hd:(ops[j]?).bind (·.dst) with
   | none=>rw [hd] at h; exact h.elim
   | some d =>
    rw [hd] at h
    simp only at h
    have wn:=wnt j want d hgd hd
    split at h
    ·rename_i g hq
     rw [hq] at wn
     have hs:tm.set d (.c (.bool g))=tm:=ZEZ hq (by simp)
     cases want <;> cases g <;> simp only [hs] at h wn
     ·rw [wn]; exact ⟨(Zg4 h).1,ZmK (Zg4 h).2⟩
     ·rw [wn]; exact h
     ·rw [wn]; exact h
     ·rw [wn]; exact ⟨(Zg4 h).1,ZmK (Zg4 h).2⟩
    ·rename_i l' hq
     rw [hq] at wn
     rw [wn]
     exact h
    ·exact h.elim
theorem Zh9 {Q:List AV→Mem→Prop}:∀ (t:Tr) (listed:Array Bool) (tm:List AV) (M:Mem),Zqv ops listed→ZmL T ops t tm M Q →
 (okA T ops t false listed=true→ZK3 T ops Q t.len listed tm M) ∧
  (okA T ops t true listed=true→∀ k,t.len≤k + 1→∀ j ∈ t.heads,j ∈ Region.ready .any ops listed∧qA T ops j (ZK3 T ops Q k (listed.setIfInBounds j true)) tm M)
 | .nil,_,_,_,_,h=>⟨fun hB=>⟨by simpa [okA] using hB,h⟩,fun hB=>by simp [okA] at hB⟩
 | .alt t u,listed,tm,M,hcl,h=>by
  obtain ⟨ht,hu⟩:=h
  have it:=(Zh9 t listed tm M hcl ht).2
  have iu:=(Zh9 u listed tm M hcl hu).2
  have both:okA T ops t true listed=true→okA T ops u true listed=true→∀ k,(Tr.alt t u).len≤k + 1→∀ j ∈ (Tr.alt t u).heads,j ∈ Region.ready .any ops listed∧qA T ops j (ZK3 T ops Q k (listed.setIfInBounds j true)) tm M:=fun h1 h2 k hk j hj=>by
   have hk' : max t.len u.len≤k + 1:=hk
   rcases List.mem_append.1 hj with hj | hj
   ·exact it h1 k (by omega) j hj
   ·exact iu h2 k (by omega) j hj
  refine ⟨fun hB=>?_,fun hB=>?_⟩
  ·unfold okA at hB
   simp only [Bool.false_or,Bool.and_eq_true] at hB
   have hall:∀ i ∈ Region.ready .any ops listed,i ∈ (Tr.alt t u).heads:=fun i hi=>by
    obtain ⟨k,hk,hb⟩:=List.any_eq_true.1 (List.all_eq_true.1 hB.1 i hi)
    rw [← Nat.eq_of_beq_eq_true hb]; exact hk
   cases hn:(Tr.alt t u).len with
   | zero =>
    exfalso
    cases hh:(Tr.alt t u).heads with
    | nil =>
     exact Zza
    | cons j js =>
     have h0:∀ t:Tr,t.len=0→t.heads=[]:=fun t=>by
      induction t with
      | nil=>intro _; rfl
      | one i t _=>intro h; exact absurd h (Nat.succ_ne_zero _)
      | alt t u ih ih2 =>
       intro h
       have h' : max t.len u.len=0:=h
       simp [Tr.heads,ih (by omega),ih2 (by omega)]
     rw [h0 _ hn] at hh
     cases hh
   | succ k =>
    have hb:=both hB.2.1 hB.2.2 k (by omega)
    refine ⟨fun h0=>?_,fun j hj=>(hb j (hall j hj)).2⟩
    cases hh:(Tr.alt t u).heads with
    | nil =>
     exfalso
     exact Zza
    | cons j js =>
     have:=(hb j (by rw [hh]; exact List.mem_cons_self)).1
     rw [h0] at this
     cases this
  ·unfold okA at hB
   simp only [Bool.true_or,Bool.true_and,Bool.and_eq_true] at hB
   exact both hB.1 hB.2
 | .one i l,listed,tm,M,hcl,h=>by
  have hq:qA T ops i (fun tm M=>ZmL T ops l tm M Q) tm M:=ZMV h
  have hrd:∀ b,okA T ops (.one i l) b listed=true→i ∈ Region.ready .any ops listed∧((b || ZLy T ops listed i)=true)∧okA T ops l false (listed.setIfInBounds i true)=true:=fun b hB=>by
   unfold okA at hB
   rw [Bool.and_eq_true,Bool.and_eq_true] at hB
   obtain ⟨hr,hf,hB'⟩:=hB
   obtain ⟨k,hk,hb⟩:=List.any_eq_true.1 hr
   obtain rfl:=Nat.eq_of_beq_eq_true hb; exact ⟨hk,hf,hB'⟩
  refine ⟨fun hB=>?_,fun hB k hk j hj=>?_⟩
  ·obtain ⟨hr,hf,hB'⟩:=hrd false hB
   rw [Bool.false_or] at hf
   have ih:=fun tm M h=>(Zh9 (Q:=Q) l (listed.setIfInBounds i true) tm M (Znq hcl hr) h).1 hB'
   cases ho:ops[i]? with
   | none =>
    obtain ⟨_,o,ho',_⟩:=mem_ready.1 hr
    rw [ho] at ho'
    cases ho'
   | some o =>
    have hfs:∀ j oj,ops[j]?=some oj→j ≠ i→listed.getD j true=false→ZHy ops ops.size i j=false→clsO T o=0∧o.apart ops oj=true∧(clsO T oj≤1∨Zx9 o=true):=fun j oj hj hji hun hnd=>by
     unfold ZLy at hf
     rw [ho] at hf
     have h1:=List.all_eq_true.1 hf j (List.mem_range.2 (Array.getElem?_eq_some_iff.1 hj).1)
     have hb:Nat.beq j i=false:=by
      cases hb:Nat.beq j i with
      | false=>rfl
      | true=>exact absurd (Nat.eq_of_beq_eq_true hb) hji
     rw [hb,hun,hnd,hj] at h1
     simp only [Bool.false_or,Bool.or_false,Bool.and_eq_true,Bool.or_eq_true] at h1
     exact ⟨Nat.eq_of_beq_eq_true h1.1,h1.2.1,h1.2.2.imp Nat.le_of_ble_eq_true id⟩
    by_cases hc:clsO T o=0
    ·
     unfold qA at hq
     simp only [ho] at hq
     have hfree:=fun j oj hj hji hun hnd=>(hfs j oj hj hji hun hnd).2
     split at hq
     ·rename_i hw
      have hm:=(Zkt (T:=T) [] hc hq.1).2.2.2
      rw [hm] at hq
      exact ZxN ho hc l.len listed tm M hcl hfree hr (.inl ⟨hw,hq.1,rfl⟩) (ih _ _ hq.2)
     ·rename_i hw
      exact ZxN ho hc l.len listed tm M hcl hfree hr (.inr ⟨hw,rfl⟩) (ih _ _ hq)
     ·exact hq.elim
    ·
     refine ⟨fun h0=>(by rw [h0] at hr; cases hr),fun j hj=>?_⟩
     have hji:j=i:=by
      by_cases hji:j=i
      ·exact hji
      ·obtain ⟨hjun,oj,hoj,_⟩:=mem_ready.1 hj
       cases hd:ZHy ops ops.size i j with
       | false=>exact absurd (hfs j oj hoj hji hjun hd).1 hc
       | true =>
        exact ZAc
     subst hji
     exact Zvr (fun a m h=>ih a m h) hq
  ·obtain rfl:j=i:=by simpa [Tr.heads] using hj
   obtain ⟨hr,_,hB'⟩:=hrd true hB
   refine ⟨hr,Zvr (fun a m h=>Zqw _ _ _ _ _ ((Zh9 (Q:=Q) l (listed.setIfInBounds j true) a m (Znq hcl hr) h).1 hB') ?_) hq⟩
   have hk' : l.len + 1≤k + 1:=hk
   omega
theorem ZDQ (n:Nat):Zqv ops (Array.replicate n false):=fun j o _ hj=>by
 rcases Nat.lt_or_ge j n with h | h
 ·simp [h] at hj
 ·simp [Nat.not_lt.2 h] at hj
theorem ZE0 {k:Nat}:∀ (l:List Tr),(∀ t ∈ l,t.len≤k)→(ZOJ l).len≤k
 | [],_=>Nat.zero_le _
 | [t],h=>h t List.mem_cons_self
 | t :: u :: l,h=>by
  have h1:=h t List.mem_cons_self
  have h2:=ZE0 (u :: l) (fun t ht=>h t (List.mem_cons_of_mem _ ht))
  show max t.len (ZOJ (u :: l)).len≤k
  omega
theorem Zs8:∀ (n:Nat) (listed:Array Bool),(Zim T ops n listed).len≤n
 | 0,_=>Nat.le_refl _
 | n + 1,listed=>by
  unfold Zim
  split
  ·rename_i i _
   exact ZAa
  ·refine ZE0 _ fun t ht=>?_
   obtain ⟨i,_,rfl⟩:=List.mem_map.1 ht
   exact ZAa
theorem ZoQ {Q:List AV→Mem→Prop} {Q' : Exit→Act→World→Prop} {W0:World} {E0:Env} (hT:ZvH X W0 E0 T) (hQ:∀ tm M a W E,Q tm M→ZfX X tm M a W E→ZlM T W0 E0 W E M→Q' .normal a W):∀ (fuel:Nat) (listed:Array Bool) (tm:List AV) (M:Mem) (a:Act) (W:World) (E:Env),
 ZfX X tm M a W E→ZlM T W0 E0 W E M→ZK3 T ops Q fuel listed tm M→wpAny P .any ops Q' fuel listed a W
 | 0,_,_,_,_,_,_,hr,hg,h=>⟨h.1,hQ _ _ _ _ _ h.2 hr hg⟩
 | fuel + 1,listed,tm,M,a,W,E,hr,hg,h=>by
  refine ⟨fun h0=>hQ _ _ _ _ _ (h.1 h0) hr hg,fun i hi=>?_⟩
  have hh:=h.2 i hi
  unfold qA at hh
  unfold wpOp
  cases ho:ops[i]? with
  | none=>rw [ho] at hh; exact ZoQ hT hQ fuel _ _ _ _ _ _ hr hg hh
  | some o =>
   rw [ho] at hh
   simp only at hh ⊢
   have wnt:∀ b,Zoz ops o tm=some b→Region.wanted o (yielded ops a.tmps)=b:=fun b hb=>by
    unfold Zoz at hb
    unfold Region.wanted
    cases hgd:o.guard with
    | none=>rw [hgd] at hb; exact Option.some.inj hb
    | some jw =>
     obtain ⟨j,want⟩:=jw
     rw [hgd] at hb
     simp only at hb ⊢
     cases hd:(ops[j]?).bind (·.dst) with
     | none=>rw [hd] at hb; cases hb
     | some d =>
      rw [hd] at hb
      simp only at hb
      have hd' : (ops.toList[j]?).bind (·.dst)=some d:=by rw [Array.getElem?_toList]; exact hd
      split at hb
      ·rename_i g hq
       have:=Zs3 hd' hr.tmps hq
       rw [show yielded ops a.tmps j=some g from this,← Option.some.inj hb]
       cases g <;> cases want <;> rfl
      ·rename_i l hq
       have:=Zs4 hd' hr.tmps hq
       rw [show yielded ops a.tmps j=none from this,← Option.some.inj hb]
       rfl
      ·cases hb
   split at hh
   ·rename_i hw
    rw [if_pos (wnt _ hw)]
    refine .inl (Zqn hT hg.g hr.mem hr.tmps hh.1 _ _ fun u W' E' g m r hv=>?_)
    exact ZoQ hT hQ fuel _ _ _ _ _ _ ⟨r,ZoP (hr.tmps.mono g m hr.mem.len) hv,by rw [Zks]; exact hr.dfr⟩ (hg.step g m) hh.2
   ·rename_i hw
    rw [if_neg (by rw [wnt _ hw]; exact Bool.false_ne_true)]
    exact ZoQ hT hQ fuel _ _ _ _ _ _ (hr.skip _) hg hh
   ·exact hh.elim
end
end Go.Proofs.YtkompmgleojmlaaGreat
