import Derived.Test.YtkompmgleojmlaaGreatFBmW
import Derived.Test.YtkompmgleojmlaaGreatFBmE
import Derived.MapKept
import Derived.Deep.LoopGhost
import Derived.Still
import Derived.Laws.Cover3
set_option linter.unusedSimpArgs false
set_option linter.unusedVariables false
namespace Go.Proofs.YtkompmgleojmlaaGreat
open Go.ChangeShapes Go.WideShapes Go.ChangeAt Go.RowKit Go.Joins Go.Deep
open GoRep (rep bulk)
section
variable {P:Program} {X X' : List Nat} {W:World} {E:Env} {M:Mem} {a:Act} {tm:List AV} {o:Oper}
theorem Zkw:∀ {pm qm:Mem} {j:Nat} {l:List AC},Zgc pm qm=true→pm[j]?=some (.box l)→∃ l',qm[j]?=some (.box l')
  | [],_,_,_,_,h=>by simp at h
  | .row _ _ _ _ none :: pm, .row _ _ _ _ none :: qm,0,l,hs,h=>by cases h
  | .row _ _ _ _ none :: pm, .row _ _ _ _ none :: qm,j + 1,l,hs,h=>by
    unfold Zgc at hs
    rw [Bool.and_eq_true] at hs
    obtain ⟨l',hq⟩:=Zkw hs.2 (show pm[j]?=some _ by simpa using h)
    exact ZlE
  | .box _ :: pm, .box l' :: qm,0,l,hs,h=>⟨l',rfl⟩
  | .box _ :: pm, .box _ :: qm,j + 1,l,hs,h=>by
    unfold Zgc at hs
    obtain ⟨l',hq⟩:=Zkw hs (show pm[j]?=some _ by simpa using h)
    exact ZlE
  | .row _ _ _ _ none :: _,[],_,_,hs,_=>by cases hs
  | .row _ _ _ _ none :: _, .box _ :: _,_,_,hs,_=>by cases hs
  | .row _ _ _ _ none :: _, .mp _ :: _,_,_,hs,_=>by cases hs
  | .row _ _ _ _ none :: _, .dead :: _,_,_,hs,_=>by cases hs
  | .box _ :: _,[],_,_,hs,_=>by cases hs
  | .box _ :: _, .row _ _ _ _ none :: _,_,_,hs,_=>by cases hs
  | .box _ :: _, .mp _ :: _,_,_,hs,_=>by cases hs
  | .box _ :: _, .dead :: _,_,_,hs,_=>by cases hs
  | .mp _ :: _,_,_,_,hs,_=>by cases hs
  | .dead :: _,_,_,_,hs,_=>by cases hs
theorem ZD8 {new:Mem} {us:List (Option Nat)} (hu:ZcM X X' W E M new us 0 us):∀ i ∈ somes us,i < E.length:=fun i hi=>by
  obtain ⟨j,hj⟩:=Zln hi
  obtain ⟨e,he,_⟩:=hu.get hj
  exact (List.getElem?_eq_some_iff.1 he).1
theorem ZCc {us:List (Option Nat)} (hM:RepM X W E M) (hd:Zbu (somes us)=true) (hl:∀ i ∈ somes us,i < E.length):(foots (pickE E us)).Nodup:=by
  refine ZcG fun x=>?_
  rw [Zgh]
  have c1:=ZgG (E:=E) x hd hl
  have c2:=Zlq hM x
  omega
theorem Zof {new:Mem} {us:List (Option Nat)} (hM:RepM X W E M) (hu:ZcM X X' W E M new us 0 us) (hl:us.length=new.length) (hd:Zbu (somes us)=true) (hx:∀ b ∈ X',b ∉ foots (pickE E us)) (hsz:∀ b ∈ X',b < W.heap.size):RepM X' W (pickE E us) new:=by
  refine ⟨by rw [Zo7]; exact hl.symm,ZCc hM hd (ZD8 hu),fun i b e hb he=>?_,fun b hb=>hM.lt b (ZdM b hb),hx,hsz⟩
  rw [Zi9] at he
  cases hq:us[i]? with
  | none=>rw [hq] at he; cases he
  | some u =>
    rw [hq] at he
    have hget:=hu.get hq
    rw [Nat.zero_add] at hget
    cases u with
    | none =>
      obtain ⟨t,ht⟩:=hget
      rw [ht] at hb
      obtain rfl:=Option.some.inj hb
      obtain rfl:=Option.some.inj he
      exact ⟨0,[],[],World.ownsRow_nil W 0 0 t.n,⟨rfl,rfl⟩,rfl⟩
    | some j =>
      obtain ⟨e',h2,h3⟩:=hget
      have he:some (E.getD j ⟨0,undef,[]⟩)=some e:=he
      rw [List.getD_eq_getElem?_getD,h2] at he
      obtain rfl:=Option.some.inj he
      rcases h3 with ⟨t,xs,v',c,h1,h4⟩ | ⟨l,l',h1,h4,h5⟩
      · rw [h4] at hb
        obtain rfl:=Option.some.inj hb
        exact hM.at_ j _ e' h1 h2
      · rw [h4] at hb
        obtain rfl:=Option.some.inj hb
        obtain ⟨q1,cs,T,q2,q3⟩:=hM.at_ j _ e' h1 h2
        exact ⟨q1,cs,T,q2,h5 _ q3⟩
def ZJp (E:Env) (n:Nat) (ρ:List Nat) (E' : Env):Env:=ZHj (fun i=>match ZsJ i ρ with
  | some j=>(E'[j]?).map (fun e'=>(⟨(match E[i]? with | some e=>e.blk | none=>e'.blk),e'.val,e'.foot⟩:EB))
  | none=>none) 0 (E ++ List.replicate n ⟨0,undef,[]⟩)
set_option maxHeartbeats 1000000 in
theorem Zzm {e:Zcd P} {args:List AV} {vs:List Value} (hgl:Zlf W E) (hM:RepM X W E M) (hr:Zb5 X W E M args vs) (hn:(ZzB e M args).need) :
    Calls P e.f vs.toArray W (fun en W'=>∃ u E',en=.returned u∧Zbz W E W' E'∧Za8 W E M W' E' (ZzB e M args).mem∧RepM X W' E' (ZzB e M args).mem∧ZcR X W' E' (ZzB e M args).mem (ZzB e M args).val u):=by
  unfold ZzB at hn ⊢
  cases hd:ZGy M e.ins args with
  | none=>rw [hd] at hn; exact hn.elim
  | some x =>
  rw [hd] at hn
  simp only at hn ⊢
  obtain ⟨⟨hpre,hneed⟩,hchk⟩:=hn
  simp only [Bool.and_eq_true] at hchk
  obtain ⟨⟨⟨c1,c2⟩,c3,c4⟩,⟨c5,c6⟩,c7⟩:=hchk
  have c2:=Nat.eq_of_beq_eq_true c2
  have c3:=Nat.eq_of_beq_eq_true c3
  obtain ⟨pm,hpm⟩:∃ pm,pm=Zga 0 e.ins x:=⟨_,rfl⟩
  rw [← hpm] at hneed c1 c2 c3 c4 c5 c6 c7 ⊢
  obtain ⟨us0,hus0⟩:∃ us,us=(Zgb M pm [] e.ins args (ZcX 0 e.ins x)).used:=⟨_,rfl⟩
  rw [← hus0] at c1 c2 c3 c4 ⊢
  obtain ⟨qm,hqm⟩:∃ qm,qm=ZdF 0 e.ins (e.post x) ++ e.new x:=⟨_,rfl⟩
  rw [← hqm] at c3 c6 c7 ⊢
  obtain ⟨nam,hnam⟩:∃ nam,nam=namA M e.ins args:=⟨_,rfl⟩
  rw [← hnam] at c4 c5 c6
  obtain ⟨us,hus⟩:∃ us,us=us0 ++ List.replicate (e.new x).length none:=⟨_,rfl⟩
  rw [← hus] at c3 ⊢
  obtain ⟨inp,hinp⟩:∃ inp,inp=inpM 0 e.ins:=⟨_,rfl⟩
  rw [← hinp]
  obtain ⟨Xc,hXc⟩:∃ Xc,Xc=if nam.isEmpty=true then X ++ (foots E).filter (fun b=>!(foots (pickE E us0)).contains b) else X:=⟨_,rfl⟩
  have hXin:∀ b ∈ Xc,b ∈ X∨b ∈ foots E:=fun b hb=>by
    rw [hXc] at hb
    split at hb
    · rcases List.mem_append.1 hb with h | h
      · exact .inl h
      · exact .inr (List.mem_filter.1 h).1
    · exact .inl hb
  have hXX:∀ b ∈ X,b ∈ Xc:=fun b hb=>by
    rw [hXc]; split
    · exact Zjh
    · exact hb
  have hXp:∀ b ∈ Xc,b ∉ foots (pickE E us0):=fun b hb hf=>by
    rw [hXc] at hb
    split at hb
    · rcases List.mem_append.1 hb with h | h
      · exact hM.xlt b h (ZdM b hf)
      · have:=(List.mem_filter.1 h).2
        simp [hf] at this
    · exact hM.xlt b hb (ZdM b hf)
  have hXsz:∀ b ∈ Xc,b < W.heap.size:=fun b hb=>(hXin b hb).elim (hM.xsz b) (hM.lt b)
  have disj:∀ (i:Nat) (ei:EB),E[i]?=some ei→i ∉ somes us0→∀ b ∈ ei.foot,b ∉ foots (pickE E us0):=fun i ei hi hni b hb hf=>by
    rw [Zgh] at hf
    obtain ⟨j,hj,ej,hej,hbj⟩:=Zlp hf
    exact Zc9 hM.nodup hi hej (fun h=>hni (h ▸ hj)) hb hbj
  have c4' : ∀ i ∈ nam,i ∉ somes us0:=fun i hi hs=>by
    have h1:=List.all_eq_true.1 c4 i hi
    have h2:=List.all_eq_true.1 h1 i hs
    simp at h2
  have hS:∀ b ∈ Xc ++ foots (pickE E us0),b ∈ X∨(b ∈ foots E∧∀ i ∈ namA M e.ins args,∀ e,E[i]?=some e→b ∉ e.foot):=fun b hb=>by
    rw [← hnam]
    rcases List.mem_append.1 hb with h | h
    · rw [hXc] at h
      split at h
      · rename_i hem
        have:nam=[]:=List.isEmpty_iff.1 hem
        rcases List.mem_append.1 h with h | h
        · exact .inl h
        · exact .inr ⟨(List.mem_filter.1 h).1,fun i hi=>by rw [this] at hi; cases hi⟩
      · exact .inl h
    · exact .inr ⟨ZdM b h,fun i hi ei hei hbe=>disj i ei hei (c4' i hi) b hbe h⟩
  obtain ⟨hu,hargs⟩:=ZkH (X':=Xc) (new:=pm) (us:=us0) (k:=0) (acc:=[]) hM hXin (fun q u h=>by simp at h) hd hneed hr (fun q u h=>by rw [← hus0] at h; simpa using h) hS
  rw [← hus0] at hu
  have hu:ZcM X Xc W E M pm us0 0 us0:=hu
  have hlt:=ZD8 hu
  have hpick:=Zof hM hu c2 c1 hXp hXsz
  have hml:M.length=E.length:=hM.len
  have hok:=e.ok x hpre Xc W (pickE E us0) vs (hgl.sub (fun b hb=>ZdM b hb)) (by rw [← hpm]; exact hpick) (by rw [← hpm]; exact hargs)
  rw [← hpm,← hqm,← hinp] at hok
  refine hok.mono fun en W' hq=>?_
  obtain ⟨v,E',rfl,g,hblk,hval,rm,rv⟩:=hq
  have hsn:somes us=somes us0:=by
    rw [hus]
    have:∀ (l:List (Option Nat)) (n:Nat),somes (l ++ List.replicate n none)=somes l:=fun l n=>by
      induction l with
      | nil=>induction n with
        | zero=>rfl
        | succ n ih=>simpa [List.replicate_succ,somes] using ih
      | cons q l ih=>cases q <;> simp [somes,ih]
    exact this _ _
  have hus_lt:∀ (j:Nat) (u:Option Nat),us0[j]?=some u→us[j]?=some u:=fun j u h=>by rw [hus,List.getElem?_append_left (List.getElem?_eq_some_iff.1 h).1]; exact h
  have hpl:pm.length=us0.length:=c2.symm
  have hus_some:∀ (j i:Nat),us[j]?=some (some i)→us0[j]?=some (some i):=fun j i h=>by
    rw [hus] at h
    by_cases hl:j < us0.length
    · rwa [List.getElem?_append_left hl] at h
    · rw [List.getElem?_append_right (by omega)] at h
      have:=List.mem_of_getElem? h
      rw [List.mem_replicate] at this
      cases this.2
  have hinj:∀ {j k i:Nat},(ZuW M.length us)[j]?=some i→(ZuW M.length us)[k]?=some i→j=k:=fun {j k i}=>ZGH (by rw [hsn]; exact c1) (fun i hi=>by rw [hsn] at hi; rw [hml]; exact hlt i hi)
  have hrlen:(ZuW M.length us).length=qm.length:=by rw [Zlo,c3]
  have hE'len:E'.length=qm.length:=rm.len.symm
  have hrange:∀ (j i:Nat),(ZuW M.length us)[j]?=some i→i < M.length + Zea us∧(i < M.length→us0[j]?=some (some i))∧(¬ i < M.length→us[j]?=some none):=fun j i h=>by
    have lj:=(List.getElem?_eq_some_iff.1 h).1
    rw [Zlo] at lj
    have gj:=ZjA (n:=M.length) (List.getElem?_eq_getElem lj)
    rw [h] at gj
    cases hu' : us[j] with
    | some p =>
      rw [hu'] at gj
      obtain rfl:i=p:=Option.some.inj gj
      have h1:us[j]?=some (some i):=by rw [List.getElem?_eq_getElem lj,hu']
      have h2:=hus_some j i h1
      have h3:=hlt i (Zgi h2)
      exact ⟨by omega,fun _=>h2,fun h=>absurd (by omega) h⟩
    | none =>
      rw [hu'] at gj
      have e1:i=M.length + Zea (us.take j):=Option.some.inj gj
      have h1:us[j]?=some none:=by rw [List.getElem?_eq_getElem lj,hu']
      have h2:=ZGG h1
      exact ⟨by omega,fun h=>by omega,fun _=>h1⟩
  obtain ⟨ρ,hρ⟩:∃ ρ,ρ=ZuW M.length us:=⟨_,rfl⟩
  rw [← hρ] at hrlen
  simp only [← hρ] at hinj hrange ⊢
  obtain ⟨ws,hws⟩:∃ ws,ws=ZIW M inp 0 ρ:=⟨_,rfl⟩
  obtain ⟨cs,hcs⟩:∃ cs,cs=ZEA M ρ:=⟨_,rfl⟩
  rw [← hws,← hcs]
  obtain ⟨Mc,hMc⟩:∃ Mc,Mc=ZI0 M (Zea us) ρ ws cs qm:=⟨_,rfl⟩
  obtain ⟨Ec,hEc⟩:∃ Ec,Ec=ZJp E (Zea us) ρ E':=⟨_,rfl⟩
  rw [← hMc]
  have hMclen:Mc.length=M.length + Zea us:=by rw [hMc]; unfold ZI0; rw [ZsS]; simp
  have hEclen:Ec.length=M.length + Zea us:=by rw [hEc]; unfold ZJp; rw [ZsS]; simp [hml]
  have atM:∀ (i j:Nat),ρ[j]?=some i→∃ (b:Blk) (e' : EB),qm[j]?=some b∧E'[j]?=some e'∧Mc[i]?=some (ZKo ρ ws (ws.getD j 0) (cs.getD j 0) b)∧Ec[i]?=some ⟨(match E[i]? with | some e=>e.blk | none=>e'.blk),e'.val,e'.foot⟩:=fun i j hj=>by
    have lj:=(List.getElem?_eq_some_iff.1 hj).1
    have hqj:qm[j]?=some qm[j]:=List.getElem?_eq_getElem (by omega)
    have hej:E'[j]?=some E'[j]:=List.getElem?_eq_getElem (by omega)
    have hi:=(hrange j i hj).1
    have hlk:ZsJ i ρ=some j:=by
      cases hq:ZsJ i ρ with
      | none=>exact absurd hj (Zpa hq j)
      | some k=>rw [hinj (ZgF hq) hj]
    refine ⟨_,_,hqj,hej,?_,?_⟩
    · rw [hMc]
      unfold ZI0
      rw [Znl,Nat.zero_add,hlk]
      simp only [hqj,Option.map_some]
      rw [List.getElem?_eq_getElem (by simpa using hi)]
      rfl
    · rw [hEc]
      unfold ZJp
      rw [Znl,Nat.zero_add,hlk]
      simp only [hej,Option.map_some]
      have hlE:i < (E ++ List.replicate (Zea us) (⟨0,undef,[]⟩:EB)).length:=by rw [List.length_append,List.length_replicate]; omega
      rw [List.getElem?_eq_getElem hlE]
      rfl
  have offM:∀ i:Nat,ZsJ i ρ=none→Mc[i]?=(M ++ List.replicate (Zea us) .dead)[i]?∧Ec[i]?=(E ++ List.replicate (Zea us) ⟨0,undef,[]⟩)[i]?:=fun i hlk=>by
    refine ⟨?_,?_⟩
    · rw [hMc]
      unfold ZI0
      exact Zw5
    · rw [hEc]
      unfold ZJp
      exact Zw5
  have notin:∀ i:Nat,ZsJ i ρ=none→i < M.length→i ∉ somes us0:=fun i hlk hi hs=>by
    obtain ⟨j,hj⟩:=Zln hs
    have h1:=hus_lt j _ hj
    have:=ZjA (n:=M.length) h1
    rw [← hρ] at this
    exact Zpa hlk j this
  have keepR:∀ b,b < W.heap.size→b ∉ foots (pickE E us0)→W'.heap[b]?=W.heap[b]?:=g.keep
  have footR:∀ (i:Nat) (ei:EB),Ec[i]?=some ei→(∃ (j:Nat) (e' : EB),ρ[j]?=some i∧E'[j]?=some e'∧ei.foot=e'.foot)∨(ZsJ i ρ=none∧E[i]?=some ei∧i < M.length)∨ei.foot=[]:=fun i ei hi=>by
    cases hlk:ZsJ i ρ with
    | some j =>
      obtain ⟨b,e',_,h2,_,h4⟩:=atM i j (ZgF hlk)
      rw [hi] at h4
      obtain rfl:=Option.some.inj h4
      exact .inl ⟨j,e',ZgF hlk,h2,rfl⟩
    | none =>
      rw [(offM i hlk).2] at hi
      by_cases hl:i < E.length
      · rw [List.getElem?_append_left hl] at hi
        exact .inr (.inl ⟨rfl,hi,by omega⟩)
      · rw [List.getElem?_append_right (by omega)] at hi
        have:=List.mem_of_getElem? hi
        rw [List.mem_replicate] at this
        exact .inr (.inr (by rw [this.2]))
  have inEc:∀ b ∈ foots Ec,b ∈ foots E'∨(b ∈ foots E∧b ∉ foots (pickE E us0)):=fun b hb=>by
    obtain ⟨ei,hm,hbe⟩:=Za0.1 hb
    obtain ⟨i,hi⟩:=List.mem_iff_getElem?.1 hm
    rcases footR i ei hi with ⟨j,e',_,h2,h3⟩ | ⟨h1,h2,h3⟩ | h
    · rw [h3] at hbe
      exact .inl (Za0.2 ⟨e',List.mem_of_getElem? h2,hbe⟩)
    · exact .inr ⟨Za0.2 ⟨ei,List.mem_of_getElem? h2,hbe⟩,disj i ei h2 (notin i h1 h3) b hbe⟩
    · rw [h] at hbe; cases hbe
  have hgrow:Zbz W E W' Ec:=⟨g.os,g.tape,g.output,g.size,fun b hb hnb=>g.keep b hb (fun h=>hnb (ZdM b h)),fun b hb=>(inEc b hb).elim (fun h=>(g.new b h).imp (ZdM b) id) (fun h=>.inl h.1),fun i ei hi=>by
    cases hlk:ZsJ i ρ with
    | some j =>
      obtain ⟨b,e',_,h2,_,h4⟩:=atM i j (ZgF hlk)
      rw [hi] at h4
      exact ⟨_,h4,rfl⟩
    | none =>
      refine ⟨ei,?_,rfl⟩
      rw [(offM i hlk).2,List.getElem?_append_left (List.getElem?_eq_some_iff.1 hi).1]
      exact hi⟩
  have usedAt:∀ (i j:Nat),ρ[j]?=some i→i < M.length→∃ ei,E[i]?=some ei∧(pickE E us0)[j]?=some ei∧((∃ (t:Ty) (xs:List t.den) (v c:Nat),M[i]?=some (.row t xs v c none)∧pm[j]?=some (.row t xs 0 0 none))∨∃ l l',M[i]?=some (.box l)∧pm[j]?=some (.box l')):=fun i j hj hi=>by
    have h1:=(hrange j i hj).2.1 hi
    have h2:=hu.get h1
    rw [Nat.zero_add] at h2
    obtain ⟨ei,he,h3⟩:=h2
    refine ⟨ei,he,ZdT h1 he,h3.imp id (fun ⟨l,l',q1,q2,_⟩=>⟨l,l',q1,q2⟩)⟩
  have hmem:Za8 W E M W' Ec Mc:=Zgk (fun i t xs v c hh hi=>by
      have hil:=(List.getElem?_eq_some_iff.1 hi).1
      cases hlk:ZsJ i ρ with
      | some j =>
        have hj:=ZgF hlk
        obtain ⟨ei,he,hpe,h3⟩:=usedAt i j hj hil
        rcases h3 with ⟨t',xs',v',c',q1,q2⟩ | ⟨l,l',q1,_⟩
        · rw [hi] at q1
          injection q1 with q1
          injection q1 with q1 q3 q4 q5 q6
          subst q1
          subst q4
          subst q5
          subst q6
          obtain ⟨ys,v2,c2',hq⟩:=Zme c7 q2
          obtain ⟨b,e',r1,r2,r3,r4⟩:=atM i j hj
          rw [hq] at r1
          obtain rfl:=Option.some.inj r1
          have hv:=ZAO (M:=M) (inp:=inp) (k:=0) hj
          have hc:=Zvd (M:=M) hj
          rw [← hws,hi] at hv
          rw [← hcs,hi] at hc
          simp only [Nat.zero_add] at hv hc
          cases hin:inp.any (Nat.beq j) with
          | true =>
            rw [hin] at hv
            simp only [cond_true] at hv
            refine .inr (.inr (.inl ⟨ys,cs.getD j 0,none,by rw [r3,hv]; rfl,by omega,fun ei' hei'=>?_⟩))
            rw [he] at hei'
            obtain rfl:=Option.some.inj hei'
            have hjin:j ∈ inp:=by
              obtain ⟨z,hz1,hz2⟩:=List.any_eq_true.1 hin
              rw [Nat.eq_of_beq_eq_true hz2]
              exact hz1
            obtain ⟨e2,k1,k2⟩:=hval j hjin ei hpe
            rw [r2] at k1
            obtain rfl:=Option.some.inj k1
            exact ⟨_,r4,k2⟩
          | false =>
            rw [hin] at hv
            simp only [cond_false] at hv
            exact .inr (.inl ⟨ys,ws.getD j 0,cs.getD j 0,none,by rw [r3]; rfl,by omega⟩)
        · rw [hi] at q1; cases q1
      | none =>
        obtain ⟨o1,o2⟩:=offM i hlk
        refine .inr (.inr (.inr ⟨by rw [o1,List.getElem?_append_left hil]; exact hi,fun ei hei=>⟨by rw [o2,List.getElem?_append_left (List.getElem?_eq_some_iff.1 hei).1]; exact hei,fun q hq=>?_⟩⟩))
        exact keepR q (hM.lt q (Za0.2 ⟨ei,List.mem_of_getElem? hei,hq⟩)) (disj i ei hei (notin i hlk hil) q hq)) (fun i hi=>by
      have hil:=(List.getElem?_eq_some_iff.1 hi).1
      cases hlk:ZsJ i ρ with
      | some j =>
        obtain ⟨ei,he,hpe,h3⟩:=usedAt i j (ZgF hlk) hil
        rcases h3 with ⟨t',xs',v',c',q1,q2⟩ | ⟨l,l',q1,_⟩
        · rw [hi] at q1; cases q1
        · rw [hi] at q1; cases q1
      | none =>
        rw [(offM i hlk).1,List.getElem?_append_left hil]
        exact hi)
  have blkOk:∀ (j:Nat) (l' : List AC) (e' : EB),pm[j]?=some (.box l')→E'[j]?=some e'→∀ i:Nat,ρ[j]?=some i→(match E[i]? with | some e=>e.blk | none=>e'.blk)=e'.blk:=fun j l' e' hb he' i hj=>by
    cases hEi:E[i]? with
    | none=>rfl
    | some ei =>
      have hi:i < M.length:=by rw [hml]; exact (List.getElem?_eq_some_iff.1 hEi).1
      obtain ⟨e2,k1,k2,_⟩:=usedAt i j hj hi
      rw [hEi] at k1
      obtain rfl:=Option.some.inj k1
      obtain ⟨e3,q1,q2⟩:=hblk j l' ei hb k2
      rw [he'] at q1
      obtain rfl:=Option.some.inj q1
      exact q2.symm
  have ρtot:∀ j:Nat,j < qm.length→ρ[j]?=some (ρ.getD j 0):=fun j hj=>by
    rw [List.getD_eq_getElem?_getD,List.getElem?_eq_getElem (by omega)]
    rfl
  have renC_rep:∀ {c:AC} {u:Value},ZuX pm nam.isEmpty c=true→ZbL Xc W' E' qm c u→ZbL X W' Ec Mc (ZIX ρ ws c) u:=fun {c u} ho h=>by
    cases c with
    | int k n=>exact h
    | bool b=>exact h
    | str s=>exact h
    | opq s=>exact h
    | raw r=>exact h
    | mp j=>cases ho
    | hs L t xs =>
      cases L with
      | «at» i v c=>cases ho
      | no =>
        obtain ⟨h0,F,h1,h2⟩:=h
        refine ⟨h0,F,h1,fun b hb=>⟨⟨fun hm=>?_,fun hm=>(h2 b hb).1.2 (hXX b hm)⟩,(h2 b hb).2⟩⟩
        rcases inEc b hm with h | ⟨h3,h4⟩
        · exact (h2 b hb).1.1 h
        · refine (h2 b hb).1.2 ?_
          have ho:nam.isEmpty=true:=ho
          rw [hXc,if_pos ho]
          exact List.mem_append_right _ (List.mem_filter.2 ⟨h3,by simp [h4]⟩)
    | row j w =>
      obtain rfl:=Nat.eq_of_beq_eq_true (show Nat.beq w 0=true from ho)
      refine ⟨h.1,?_⟩
      have h2:=h.2
      unfold Zb8 at h2
      cases hq:qm[j]? with
      | none=>rw [hq] at h2; exact h2.elim
      | some b =>
        rw [hq] at h2
        have hj:=ρtot j (List.getElem?_eq_some_iff.1 hq).1
        obtain ⟨b',e',r1,r2,r3,r4⟩:=atM _ j hj
        rw [hq] at r1
        obtain rfl:=Option.some.inj r1
        have hob:=List.all_eq_true.1 c6 b (List.mem_of_getElem? hq)
        show Zb8 Ec Mc (ρ.getD j 0) (ws.getD j 0) _
        unfold Zb8
        rw [r3]
        cases b with
        | box l=>exact h2.elim
        | mp _=>exact h2.elim
        | dead=>cases hob
        | row t xs v c hh =>
          cases hh with
          | some _=>cases hob
          | none =>
            have hob:(Nat.beq v 0 && Nat.beq c 0)=true:=hob
            rw [Bool.and_eq_true] at hob
            obtain rfl:=Nat.eq_of_beq_eq_true hob.1
            refine ⟨Nat.le_refl _,fun _=>⟨_,r4,?_⟩⟩
            obtain ⟨e2,k1,k2⟩:=h2.2 rfl
            rw [r2] at k1
            obtain rfl:=Option.some.inj k1
            exact k2
    | bp j o =>
      obtain ⟨e',h1,h2⟩:=(h:Zit E' j u o)
      have ho:Zzz pm j=true:=ho
      unfold Zzz at ho
      split at ho
      · rename_i l' hl'
        have hj:=ρtot j (by rw [← hE'len]; exact (List.getElem?_eq_some_iff.1 h1).1)
        obtain ⟨b',e2,r1,r2,r3,r4⟩:=atM _ j hj
        rw [h1] at r2
        obtain rfl:=Option.some.inj r2
        exact ⟨_,r4,by rw [h2]; simp only; rw [blkOk j l' e' hl' h1 _ hj]⟩
      · cases ho
    | ep L t xs k o=>cases ho
    | rp i v n k o=>cases ho
    | sl i v c n k o=>cases ho
    | tl i v n k=>cases ho
    | sp i v c n k o m x q=>cases ho
    | fn f l=>cases ho
    | junk=>cases ho
  have renL_rep:∀ {l:List AC} {us:List Value},l.all (ZuX pm nam.isEmpty)=true→Zcg Xc W' E' qm l us→Zcg X W' Ec Mc (l.map (ZIX ρ ws)) us:=fun {l}=>by
    induction l with
    | nil=>intro us _ h; exact h
    | cons c l ih =>
      intro us ho h
      obtain ⟨v,r,e,h1,h2⟩:=h
      rw [List.all_cons,Bool.and_eq_true] at ho
      exact ⟨v,r,e,renC_rep ho.1 h1,ih ho.2 h2⟩
  have renW_rep:∀ {x:AW} {u:Value},ZAJ pm nam.isEmpty x=true→ZjP Xc W' E' qm x u→ZjP X W' Ec Mc (ZJs ρ ws x) u:=fun {x u} ho h=>by
    cases x with
    | c c=>exact renC_rep ho h
    | ag l=>obtain ⟨us,e,h⟩:=h; exact ⟨us,e,renL_rep ho h⟩
  have renWs_rep:∀ {l:List AW} {us:List Value},l.all (ZAJ pm nam.isEmpty)=true→Zdl Xc W' E' qm l us→Zdl X W' Ec Mc (l.map (ZJs ρ ws)) us:=fun {l}=>by
    induction l with
    | nil=>intro us _ h; exact h
    | cons c l ih =>
      intro us ho h
      obtain ⟨v,r,e,h1,h2⟩:=h
      rw [List.all_cons,Bool.and_eq_true] at ho
      exact ⟨v,r,e,renW_rep ho.1 h1,ih ho.2 h2⟩
  have hRepM:RepM X W' Ec Mc:=by
    refine Zh5 hM hgrow hmem (by rw [hMclen,hEclen]) (Zo9 (fun i ei hi=>?_) (fun i k ei ek hik hi hk b hb hbk=>?_)) (fun i b ei hb hi=>?_) (fun b hb=>?_)
    · rcases footR i ei hi with ⟨j,e',_,h2,h3⟩ | ⟨_,h2,_⟩ | h
      · rw [h3]; exact Zmd rm.nodup h2
      · exact Zmd hM.nodup h2
      · rw [h]; exact List.nodup_nil
    · rcases footR i ei hi with ⟨j,e',j1,j2,j3⟩ | ⟨i1,i2,i3⟩ | h
      · rcases footR k ek hk with ⟨j',e'',k1,k2,k3⟩ | ⟨k1,k2,k3⟩ | h
        · rw [j3] at hb
          rw [k3] at hbk
          refine Zc9 rm.nodup j2 k2 (fun h=>hik ?_) hb hbk
          subst h
          exact Option.some.inj (j1.symm.trans k1)
        · rw [j3] at hb
          have hb' : b ∈ foots E':=Za0.2 ⟨e',List.mem_of_getElem? j2,hb⟩
          have hkE:b ∈ foots E:=Za0.2 ⟨ek,List.mem_of_getElem? k2,hbk⟩
          rcases g.new b hb' with h | h
          · exact disj k ek k2 (notin k k1 k3) b hbk h
          · have:=hM.lt b hkE; omega
        · rw [h] at hbk; cases hbk
      · rcases footR k ek hk with ⟨j',e'',k1,k2,k3⟩ | ⟨k1,k2,k3⟩ | h
        · rw [k3] at hbk
          have hb' : b ∈ foots E':=Za0.2 ⟨e'',List.mem_of_getElem? k2,hbk⟩
          have hkE:b ∈ foots E:=Za0.2 ⟨ei,List.mem_of_getElem? i2,hb⟩
          rcases g.new b hb' with h | h
          · exact disj i ei i2 (notin i i1 i3) b hb h
          · have:=hM.lt b hkE; omega
        · exact Zc9 hM.nodup i2 k2 hik hb hbk
        · rw [h] at hbk; cases hbk
      · rw [h] at hb; cases hb
    · cases hlk:ZsJ i ρ with
      | some j =>
        have hj:=ZgF hlk
        obtain ⟨b',e',r1,r2,r3,r4⟩:=atM i j hj
        rw [hb] at r3
        rw [hi] at r4
        obtain rfl:=Option.some.inj r3
        obtain rfl:=Option.some.inj r4
        have h:=rm.at_ j b' e' r1 r2
        have hob:=List.all_eq_true.1 c6 b' (List.mem_of_getElem? r1)
        refine .inr ?_
        cases b' with
        | row t xs v c hh=>cases hh with
          | none=>exact h
          | some _=>cases hob
        | mp _=>cases hob
        | dead=>cases hob
        | box l =>
          obtain ⟨q1,cs',T,q2,q3⟩:=h
          obtain ⟨l',hl'⟩:=Zmf c7 r1
          have hbk:=blkOk j l' e' hl' r2 i hj
          refine ⟨by simp only; rw [hbk]; exact q1,cs',T,by simp only; rw [hbk]; exact q2,renL_rep hob q3⟩
      | none =>
        obtain ⟨o1,o2⟩:=offM i hlk
        rw [o1] at hb
        rw [o2] at hi
        by_cases hl:i < M.length
        · rw [List.getElem?_append_left hl] at hb
          rw [List.getElem?_append_left (by omega)] at hi
          exact .inl ⟨hb,hi,fun q hq=>keepR q (hM.lt q (Za0.2 ⟨ei,List.mem_of_getElem? hi,hq⟩)) (disj i ei hi (notin i hlk hl) q hq)⟩
        · rw [List.getElem?_append_right (by omega)] at hb hi
          have h1:=List.mem_of_getElem? hb
          have h2:=List.mem_of_getElem? hi
          rw [List.mem_replicate] at h1 h2
          rw [h1.2,h2.2]
          exact .inr rfl
    · rcases inEc b hb with h | h
      · exact rm.lt b h
      · exact Nat.lt_of_lt_of_le (hM.lt b h.1) g.size
  refine ⟨v,Ec,rfl,hgrow,hmem,hRepM,?_⟩
  cases hres:e.res x with
  | w z=>rw [hres] at rv c5; exact renW_rep c5 rv
  | tp l=>rw [hres] at rv c5; obtain ⟨us',e2,h⟩:=rv; exact ⟨us',e2,renWs_rep c5 h⟩
  | any=>trivial
end
section
variable {P:Program} {X:List Nat} {W:World} {E:Env} {M:Mem} {a:Act} {tm:List AV} {o:Oper}
theorem ZbD.take {α:Type} {R:α→List Value→List Nat→Prop} {n:Nat} (hn:∀ x cs F,R x cs F→cs.length=n):∀ (k:Nat) {xs:List α} {cs:List Value} {G:List Nat},ZbD R xs cs G→∃ G',ZbD R (xs.take k) (cs.take (k * n)) G'∧∀ z,G'.count z≤G.count z
  | 0,_,_,_,_=>⟨[],by rw [Nat.zero_mul]; exact ⟨rfl,rfl⟩,fun z=>by simp⟩
  | k + 1,[],_,_,⟨h1,h2⟩=>⟨[],by rw [h1]; exact ⟨by simp,rfl⟩,fun z=>by simp⟩
  | k + 1,y :: ys,_,_,⟨c1,c2,G1,G2,h1,h2,e1,e2⟩=>by
    obtain ⟨G',q1,q2⟩:=ZbD.take hn k h2
    have hc:=hn _ _ _ h1
    refine ⟨G1 ++ G',⟨c1,_,G1,G',h1,q1,?_,rfl⟩,fun z=>?_⟩
    · rw [e1,Nat.add_mul,Nat.one_mul,Nat.add_comm,← hc,List.take_length_add_append]
    · rw [e2,List.count_append,List.count_append]
      have:=q2 z
      omega
theorem ZqK {i j:Nat} {t:Ty} {xs ys:List t.den} {ver cc v c:Nat} (hM:RepM X W E M) (hi:M[i]?=some (.row t xs ver cc none)) (hj:M[j]?=some (.row t ys v c none)) (hij:j ≠ i) :
    ∃ E',Zbz W E W E'∧Za8 W E M W E' ((ZcC M [j]).set i (.row t ys (ver + 1) (cc + 1) none))∧RepM X W E' ((ZcC M [j]).set i (.row t ys (ver + 1) (cc + 1) none))∧∀ ej,E[j]?=some ej→ZbL X W E' ((ZcC M [j]).set i (.row t ys (ver + 1) (cc + 1) none)) (.row i (ver + 1)) ej.val:=by
  have hil:i < M.length:=(List.getElem?_eq_some_iff.1 hi).1
  have hjl:j < M.length:=(List.getElem?_eq_some_iff.1 hj).1
  have hie:i < E.length:=by rw [← hM.len]; exact hil
  have hje:j < E.length:=by rw [← hM.len]; exact hjl
  obtain ⟨ei,hei⟩:∃ ei,E[i]?=some ei:=⟨_,List.getElem?_eq_getElem hie⟩
  obtain ⟨ej,hej⟩:∃ ej,E[j]?=some ej:=⟨_,List.getElem?_eq_getElem hje⟩
  have hrow:ZJ1 W E M t ys none ej:=hM.at_ j _ ej hj hej
  obtain ⟨T,cells,G,ho,hr,hfe⟩:=hrow
  have hjs:∀ q ∈ [j],q < E.length:=fun q hq=>by rw [List.mem_singleton.1 hq]; exact hje
  have hkl:=Zhy [j] E
  have hml:=Zhz [j] M
  have hft:feet E [j]=ej.foot:=by simp [feet,hej]
  have hki:(killE E [j])[i]?=some ei:=by
    rw [ZbX (fun k hk e=>hij (by rw [← List.mem_singleton.1 hk]; exact e))]; exact hei
  have hin:∀ b ∈ ej.foot,b ∈ foots E:=fun b hb=>Za0.2 ⟨ej,List.mem_of_getElem? hej,hb⟩
  have hcnt:∀ z,(foots ((killE E [j]).set i ⟨ei.blk,ej.val,ej.foot⟩)).count z≤(foots E).count z:=fun z=>by
    have c1:=Zja (e':=⟨ei.blk,ej.val,ej.foot⟩) z hki
    have c2:=ZgG z (rfl:Zbu [j]=true) hjs
    rw [hft] at c2
    simp only at c1
    omega
  have hsub:∀ b ∈ foots ((killE E [j]).set i ⟨ei.blk,ej.val,ej.foot⟩),b ∈ foots E:=fun b hb =>
    List.count_pos_iff.1 (Nat.lt_of_lt_of_le (List.count_pos_iff.2 hb) (hcnt b))
  have g:Zbz W E W ((killE E [j]).set i ⟨ei.blk,ej.val,ej.foot⟩) :=
    ⟨rfl,rfl,rfl,Nat.le_refl _,fun _ _ _=>rfl,fun b hb=>.inl (hsub b hb),fun q e1 hq=>by
      by_cases hqi:i=q
      · subst hqi
        obtain rfl:=Option.some.inj (hei.symm.trans hq)
        exact ⟨_,List.getElem?_set_self (by rw [hkl]; exact hie),rfl⟩
      · rw [List.getElem?_set_ne hqi]
        exact Zgj hq⟩
  have m:Za8 W E M W ((killE E [j]).set i ⟨ei.blk,ej.val,ej.foot⟩) ((ZcC M [j]).set i (.row t ys (ver + 1) (cc + 1) none)):=Zgk (fun q t' xs' v' c' hh' hq=>by
      by_cases hqi:i=q
      · subst hqi
        obtain ⟨rfl,hx,rfl,rfl,rfl⟩:=Blk.row.inj (Option.some.inj (hi.symm.trans hq))
        exact .inr (.inl ⟨ys,ver + 1,cc + 1,none,List.getElem?_set_self (by rw [hml]; exact hil),Nat.lt_succ_self _⟩)
      · rw [List.getElem?_set_ne hqi]
        by_cases hqj:q=j
        · subst hqj
          exact .inl (Zce List.mem_cons_self hjl)
        · refine .inr (.inr (.inr ⟨by rw [ZbK (fun k hk e=>hqj (by rw [← List.mem_singleton.1 hk]; exact e.symm))]; exact hq,fun e1 he1=>⟨?_,fun _ _=>rfl⟩⟩))
          rw [List.getElem?_set_ne hqi,ZbX (fun k hk e=>hqj (by rw [← List.mem_singleton.1 hk]; exact e.symm))]
          exact he1) (fun q hq=>by
      have hqi:i ≠ q:=fun e=>by rw [← e,hi] at hq; cases hq
      have hqj:q ≠ j:=fun e=>by rw [e,hj] at hq; cases hq
      rw [List.getElem?_set_ne hqi,ZbK (fun k hk e=>hqj (by rw [← List.mem_singleton.1 hk]; exact e.symm))]
      exact hq)
  have rm:RepM X W ((killE E [j]).set i ⟨ei.blk,ej.val,ej.foot⟩) ((ZcC M [j]).set i (.row t ys (ver + 1) (cc + 1) none)) :=
    Zh5 hM g m (by simp [hml,hkl,hM.len]) (ZcG fun z=>Nat.le_trans (hcnt z) (Zlq hM z)) (fun q b e1 hb he1=>by
      by_cases hqi:i=q
      · subst hqi
        rw [List.getElem?_set_self (by rw [hml]; exact hil)] at hb
        rw [List.getElem?_set_self (by rw [hkl]; exact hie)] at he1
        obtain rfl:=Option.some.inj hb
        obtain rfl:=Option.some.inj he1
        exact .inr ⟨T,cells,G,ho,hr,hfe⟩
      · rw [List.getElem?_set_ne hqi] at hb he1
        by_cases hqj:q=j
        · subst hqj
          rw [Zce List.mem_cons_self hjl] at hb
          obtain rfl:=Option.some.inj hb
          exact .inr (ZhC List.mem_cons_self he1)
        · rw [ZbK (fun k hk e=>hqj (by rw [← List.mem_singleton.1 hk]; exact e.symm))] at hb
          rw [ZbX (fun k hk e=>hqj (by rw [← List.mem_singleton.1 hk]; exact e.symm))] at he1
          exact .inl ⟨hb,he1,fun _ _=>rfl⟩) (fun b hb=>hM.lt b (hsub b hb))
  refine ⟨_,g,m,rm,fun ej' hej'=>?_⟩
  obtain rfl:=Option.some.inj (hej.symm.trans hej')
  refine ⟨Zdo ho,?_⟩
  unfold Zb8
  rw [List.getElem?_set_self (by rw [hml]; exact hil)]
  exact ⟨Nat.le_refl _,fun _=>⟨_,List.getElem?_set_self (by rw [hkl]; exact hie),rfl⟩⟩
theorem ZfZ {t:Ty} {xs:List t.den} {v:Value} {T:TypeId} {cells:List Value} (h:W.ownsRow 0 T t.n v xs.length cells):∃ A c,v=.slice A xs.length c∧xs.length≤c∧c≤maxLen∧((A=none∧xs.length=0∧c=0)∨∃ b,A=some ⟨b,0,none⟩):=by
  rcases h.2 with ⟨h1,h2⟩ | ⟨g,cap,cur,h1,h2,h3,h4,h5,h6,h7⟩
  · exact ⟨none,0,by rw [h1,h2],by omega,Nat.zero_le _, .inl ⟨rfl,h2,rfl⟩⟩
  · exact ⟨_,cap,h1,h4,h5, .inr ⟨g,rfl⟩⟩
theorem ZkX {t e:TypeId} {tt:Ty} {A:Option Addr} {len c:Nat} {lo hi:Option Value} {l h:Int} (hu:P.underlying t=some (.slice e)) (hs:ZbQ P e=tt.n)
    (q1:(lo=none∧l=0)∨∃ k,lo=some (.int k l)) (q2:(hi=none∧h=len)∨∃ k,hi=some (.int k h)) (h0:0≤l) (h1:l≤h) (h2:h≤c) :
    (Instr.sliceAt t (.slice A len c) lo hi none).run P W=.ok (.slice (if c=l.toNat then A else A.map (·.add (l.toNat * tt.n))) (h.toNat - l.toNat) (c - l.toNat)) W:=by
  have hsl:=Zl0 (P:=P) (W:=W) (b:=true) (len:=len) (cap:=c) (lo:=lo) (hi:=hi) q1 q2 h0 h1 h2
  obtain ⟨inf,hinf⟩:∃ i,P.info? e=some i:=by
    have hpos:0 < ZbQ P e:=by rw [hs]; exact ZiN tt
    unfold ZbQ at hpos
    cases hq:P.info? e with
    | none=>rw [hq] at hpos; exact absurd hpos (Nat.lt_irrefl 0)
    | some i=>exact ⟨i,rfl⟩
  have hsz:inf.size=tt.n:=by rw [← hs]; unfold ZbQ; rw [hinf]
  exact Zv3
theorem ZFZ {t:TypeId} {x:Operand} {lo hi:Option Operand} (hM:RepM X W E M) (ht:Zb5 X W E M tm a.tmps.toList) (ho:o.op=.slice t x lo hi none)
    (hn:(ZI2 P M t (evalA tm x) (lo.map (evalA tm)) (hi.map (evalA tm))).need):Zeo X P o a W E M (ZI2 P M t (evalA tm x) (lo.map (evalA tm)) (hi.map (evalA tm))).val (ZI2 P M t (evalA tm x) (lo.map (evalA tm)) (hi.map (evalA tm))).mem:=by
  have hp:=ZaE ht x
  have hlo:=ZqJ (M:=M) ht lo
  have hhi:=ZqJ (M:=M) ht hi
  have hex:execOp a.eval o=(do pure (.value (← Instr.sliceAt t (a.eval x) (lo.map a.eval) (hi.map a.eval) none))):=by unfold execOp; rw [ho]; rfl
  generalize evalA tm x=x' at *
  generalize lo.map (evalA tm)=lo' at *
  generalize hi.map (evalA tm)=hi' at *
  unfold ZI2 at hn ⊢
  split at hn
  · rename_i e i v hu
    cases hra:ZcW M i v with
    | none=>rw [hra] at hn; exact hn.elim
    | some r =>
      simp only [hra] at hn ⊢
      cases hs:Nat.beq (ZbQ P e) r.t.n with
      | false=>rw [hs] at hn; exact hn.elim
      | true =>
        simp only [hs,cond_true] at hn ⊢
        have hs:=Nat.eq_of_beq_eq_true hs
        obtain ⟨t',xs,cc⟩:=r
        obtain ⟨e0,he0,hv0,T0,cells,G,w1,w2,w3⟩:=Zia hM hra (hp:ZbL X W E M (.row i v) _).2
        simp only at hs w1 w2 w3
        obtain ⟨A,c,hvs,hlc,hcm,hA⟩:=ZfZ w1
        have hone:e0.val.oneCell'=true:=by rw [hvs]; rfl
        split at hn
        · rename_i h
          obtain ⟨h0,h1⟩:=hn
          simp only at h0 h1 ⊢
          have q1:(lo.map a.eval=none∧(0:Int)=0)∨∃ k,lo.map a.eval=some (.int k 0):=(Zsu (l:=0) rfl hlo).imp (fun h=>⟨h.2.1,h.2.2⟩) id
          have q2:(hi.map a.eval=none∧h=(xs.length:Nat))∨∃ k,hi.map a.eval=some (.int k h):=(Zsv (n:=xs.length) rfl hhi).imp (fun h=>⟨h.2.1,h.2.2⟩) id
          have hrun:=ZkX (P:=P) (W:=W) (tt:=t') (A:=A) (len:=xs.length) (c:=c) hu hs q1 q2 (Int.le_refl 0) h0 (by omega)
          have hv:(Value.slice (if c=(0:Int).toNat then A else A.map (·.add ((0:Int).toNat * t'.n))) (h.toNat - (0:Int).toNat) (c - (0:Int).toNat))=.slice A h.toNat c:=by
            rcases hA with ⟨rfl,_,rfl⟩ | ⟨b,rfl⟩
            · rfl
            · have:(⟨b,0,none⟩:Addr).add 0=⟨b,0,none⟩:=Zls b 0 0
              simp [this]
          rw [hv] at hrun
          have hcl:cells.length=xs.length * t'.n:=w2.len (fun x cs F h=>Zbb.len t' h)
          obtain ⟨G',g1,g2⟩:=ZbD.take (fun x cs F h=>Zbb.len t' h) h.toNat w2
          have hle:h.toNat≤xs.length:=by omega
          have hlen:(xs.take h.toNat).length=h.toNat:=by rw [List.length_take]; omega
          have hown:W.ownsRow 0 T0 t'.n (.slice A h.toNat c) (xs.take h.toNat).length (cells.take (h.toNat * t'.n)):=by
            have hmul:h.toNat * t'.n≤xs.length * t'.n:=Nat.mul_le_mul_right _ hle
            refine ⟨by rw [List.length_take,hlen,hcl]; omega,?_⟩
            rcases w1.2 with ⟨k1,k2⟩ | ⟨b,cap,cur,k1,k2,k3,k4,k5,k6,k7⟩
            · left
              rw [hvs] at k1
              injection k1 with k3 _ k4
              exact ⟨by rw [k3,k4,show h.toNat=0 by omega],by omega⟩
            · right
              rw [hvs] at k1
              injection k1 with k8 _ k9
              refine ⟨b,cap,cur,by rw [k8,k9,hlen],k2,k3,by omega,k5,k6,?_⟩
              rw [hlen,← k7,List.take_take,Nat.min_eq_left hmul]
          obtain ⟨E',g,m,rm,rc⟩:=Zvm hM (Zc2 hra) he0 hown g1 (fun z=>by
            have hb:(Value.slice A h.toNat c).ownBlock=e0.val.ownBlock:=by rw [hvs]; cases A <;> rfl
            rw [w3,hb,List.count_append,List.count_append]
            have:=g2 z
            omega)
          refine ⟨_,W,E', .inl ?_,g,m,rm,rc⟩
          rw [hex,hv0,hvs]
          simp only [Sem.run_bind,hrun,Result.andThen_ok,Sem.run_pure]
        · rename_i l
          obtain ⟨h0,h1⟩:=hn
          simp only at h0 h1 ⊢
          have q1:(lo.map a.eval=none∧l=0)∨∃ k,lo.map a.eval=some (.int k l):=(Zsu (l:=l) rfl hlo).imp (fun h=>⟨h.2.1,h.2.2⟩) id
          have q2:(hi.map a.eval=none∧((xs.length:Nat):Int)=(xs.length:Nat))∨∃ k,hi.map a.eval=some (.int k ((xs.length:Nat):Int)):=(Zsv (n:=xs.length) rfl hhi).imp (fun h=>⟨h.2.1,h.2.2⟩) id
          have hrun:=ZkX (P:=P) (W:=W) (tt:=t') (A:=A) (len:=xs.length) (c:=c) hu hs q1 q2 h0 h1 (by omega)
          rw [Int.toNat_natCast] at hrun
          refine Zcl hM (Instr.sliceAt t (a.eval x) (lo.map a.eval) (hi.map a.eval) none) (u:=.slice (if c=l.toNat then A else A.map (·.add (l.toNat * t'.n))) (xs.length - l.toNat) (c - l.toNat)) hex (by rw [hv0,hvs]; exact hrun) ⟨rfl,?_⟩
          unfold Zb8
          rw [Zc2 hra]
          refine ⟨Nat.le_refl _,fun _=>⟨e0,he0,_,xs.length,_,A,c,rfl,by omega,hvs,fun hk=>?_⟩⟩
          rcases hA with ⟨rfl,hz,_⟩ | ⟨b,rfl⟩
          · omega
          · exact ⟨b,rfl,by rw [if_neg (by omega)]; simp [Zls]⟩
        · exact hn.elim
  · exact hn.elim
theorem ZCd {t:TypeId} {x:Operand} {xs:Array Operand} {ts:Array TypeId} (hM:RepM X W E M) (ht:Zb5 X W E M tm a.tmps.toList) (ho:o.op=.call ⟨.builtin .clear,xs,ts⟩) (hxs:xs.toList=[x]) (hts:ts.toList=[t])
    (hn:(Zu0 P M t (evalA tm x)).need):Zeo X P o a W E M (Zu0 P M t (evalA tm x)).val (Zu0 P M t (evalA tm x)).mem:=by
  have e1:xs=#[x]:=Array.toList_inj.1 (by simpa using hxs)
  have e2:ts=#[t]:=Array.toList_inj.1 (by simpa using hts)
  subst e1
  subst e2
  have hp:=ZaE ht x
  generalize evalA tm x=x' at *
  unfold Zu0 at hn ⊢
  split at hn
  · rename_i e i v n k hu
    split at hn
    · rename_i r z hra hz
      cases hc:(z.cells.toList.all ZiK && Zhe P e r.t.n) && Nat.beq n r.t.n with
      | false=>rw [hc] at hn; exact hn.elim
      | true =>
        simp only [hc,cond_true] at hn ⊢
        rw [Bool.and_eq_true,Bool.and_eq_true] at hc
        obtain ⟨⟨hok,hty⟩,hnn⟩:=hc
        obtain rfl:=Nat.eq_of_beq_eq_true hnn
        split at hn
        · rename_i d hd
          obtain ⟨t',l,cc⟩:=r
          simp only at hd hty hp ⊢
          have hi:=Zc2 hra
          simp only at hi
          have hp2:=(hp:ZbL X W E M (.tl i v t'.n k) _).2
          obtain ⟨e0,he0,hv0,T0,cells,G,w1,w2,w3⟩:=Zia hM hra hp2
          simp only at w1 w2 w3
          obtain ⟨A,l0,c,A0,c0,hv,hkl,hev,hA⟩:=hv0
          obtain ⟨A1,c1,hvs,hlc,hcm,hA1⟩:=ZfZ w1
          obtain rfl:l.length=l0:=by rw [hvs] at hev; injection hev with _ q _
          obtain ⟨inf,z',i1,i2,i3,i4,i5⟩:=ZfD hty
          obtain rfl:z'=z:=by rw [i1] at hz; simpa [i4] using hz
          have hpos:=ZiN t'
          have hrep:Zbb W t' d z'.cells.toList []:=by
            unfold Zcb at hd
            split at hd
            · rename_i y js ho'
              obtain ⟨rfl,rfl⟩:=Prod.mk.inj (Option.some.inj hd)
              obtain ⟨c1,u1,e1,q1,q2,q3⟩:=Zh6 hM t' ho' (Zjn hok)
              exact ZwS
            · cases hd
          have hzv:∀ w,(zeroValue e).run P w=.ok z' w:=fun w=>by simp [zeroValue,typeInfo,i1,i4]
          by_cases hk:k < l.length
          · obtain ⟨b,rfl,rfl⟩:=hA hk
            rw [hev] at w1
            obtain ⟨cur,q1,q2,q3,q4,q5⟩:=Zd3 w1
            have hfoot:e0.foot=b :: G:=by rw [w3,hev]; rfl
            obtain ⟨zs,hzs⟩:∃ zs,zs=(List.replicate (l.length - k) z'.cells.toList).flatten:=⟨_,rfl⟩
            have hzl:zs.length=(l.length - k) * t'.n:=by rw [hzs,Zgl (s:=t'.n) _ (fun l hl=>by rw [List.eq_of_mem_replicate hl]; simpa using i5)]; simp
            have hzr:ZbD (Zbb W t') (List.replicate (l.length - k) d) zs []:=by rw [hzs]; exact Zg3 hrep _
            have hmul:k * t'.n + (l.length - k) * t'.n=l.length * t'.n:=by rw [← Nat.add_mul]; congr 1; omega
            have hcap:l.length * t'.n≤c0 * t'.n:=Nat.mul_le_mul_right _ q3
            have hst:=run_storeCells_at (P:=P) b (k * t'.n) T0 zs 0 cur W q1 (by simp; omega) hzr.ones
            simp only [Nat.add_zero] at hst
            obtain ⟨W',hW'⟩:∃ W',W'=W.setRow b (cur.toList.take (k * t'.n) ++ zs ++ cur.toList.drop (k * t'.n + zs.length)).toArray:=⟨_,rfl⟩
            rw [← hW'] at hst
            have keep:∀ p,p ≠ b→W'.heap[p]?=W.heap[p]?:=fun p hp=>by rw [hW']; exact setRow_other W b p _ (fun e=>hp e)
            have hnd:e0.foot.Nodup:=by
              refine ZcG fun x=>?_
              have c1:=Zja (e':={ e0 with foot:=[] }) x he0
              have c2:=Zlq hM x
              have c3:({ e0 with foot:=[] }:EB).foot.count x=0:=rfl
              omega
            rw [hfoot,List.nodup_cons] at hnd
            have hbG:∀ p ∈ G,p ≠ b:=fun p hp e=>hnd.1 (e ▸ hp)
            obtain ⟨G',g1,g2⟩:=ZbD.take (fun x cs F h=>Zbb.len t' h) k w2
            have hcl:cells.length=l.length * t'.n:=w2.len (fun x cs F h=>Zbb.len t' h)
            have hrows:ZbD (Zbb W t') (l.take k ++ List.replicate (l.length - k) d) (cells.take (k * t'.n) ++ zs) (G' ++ []):=g1.app hzr
            rw [List.append_nil] at hrows
            have hln:(l.take k ++ List.replicate (l.length - k) d).length=l.length:=by simp; omega
            have hol:ZbY W' (Zbb W' t') t'.n (l.take k ++ List.replicate (l.length - k) d) e0.val (b :: G'):=by
              refine ⟨T0,_,G',?_,hrows.imp (fun x cs F h hF=>Zbb.keep t' h (fun p hp=>keep p (hbG p (List.count_pos_iff.1 (Nat.lt_of_lt_of_le (List.count_pos_iff.2 (hF p hp)) (g2 p)))))),by rw [hev]; rfl⟩
              rw [hev,hln]
              refine ⟨by rw [List.length_append,List.length_take,hzl,hcl]; omega, .inr ⟨b,c0,_,rfl,Nat.zero_le _,by rw [hW']; exact setRow_heap W b cur _ T0 _ q1,q3,q4,?_,?_⟩⟩
              · simp
                omega
              · simp only [List.toList_toArray]
                have f1:cur.toList.take (k * t'.n)=cells.take (k * t'.n):=by rw [← q2,List.take_take,Nat.min_eq_left (by omega)]
                rw [f1]
                refine List.take_left' ?_
                rw [List.length_append,List.length_take,hzl,hcl]
                omega
            obtain ⟨E',g,m,rm⟩:=Zjb (js:=[]) (h1:=none) (ys:=l.take k ++ List.replicate (l.length - k) d) (F2:=b :: G') hM hi he0 rfl (by simp) (by simp) (fun p hp=>by rw [hev] at hp; simp [Value.ownBlock] at hp; rw [hfoot,hp]; simp) ⟨by rw [hW']; rfl,by rw [hW']; rfl,by rw [hW']; rfl,by rw [hW']; simp,fun p _ hne=>keep p (fun e'=>hne (by rw [hev,e']; rfl))⟩ (fun _ _ _ _=>hol) (fun w=>by
              have:=g2 w
              rw [hfoot,List.count_cons,List.count_cons]
              omega)
            refine ⟨.tuple #[],W',E', .inl ?_,g,m,rm,trivial⟩
            unfold execOp
            simp only [ho,resolve,invoke,builtin,Sem.run_bind,Sem.run_pure,Result.andThen_ok,List.map_toArray,List.map_cons,List.map_nil,hv]
            have hrun:(Builtin.clear_ #[t] o.type #[.slice (some ⟨b,k * t'.n,none⟩) (l.length - k) c]).run P W=.ok (.tuple #[]) W':=by
              obtain ⟨m,hm⟩:∃ m,l.length - k=m + 1:=⟨l.length - k - 1,by omega⟩
              have hzc:(Builtin.zeroCells z'.cells (m + 1)).toList=zs:=by
                unfold Builtin.zeroCells
                rw [Zpe (zs:=z'.cells) (s:=z'.cells.size) (n:=m + 1) rfl (by omega),hzs,hm]
              rw [hm]
              unfold Builtin.clear_
              simp [Sem.run_bind,run_underlying hu,Result.andThen_ok,hzv,hzc,hst]
            rw [hrun]
            rfl
          · obtain rfl:k=l.length:=by omega
            have hsame:l.take l.length ++ List.replicate (l.length - l.length) d=l:=by simp
            obtain ⟨E',g,m,rm⟩:=Zjb (W':=W) (js:=[]) (h1:=none) (ys:=l.take l.length ++ List.replicate (l.length - l.length) d) (F2:=e0.foot) hM hi he0 rfl (by simp) (by simp) (fun p hp=>by rw [w3,List.mem_append]; exact .inl hp) ⟨rfl,rfl,rfl,Nat.le_refl _,fun _ _ _=>rfl⟩ (fun _ _ _ _=>by rw [hsame]; exact ⟨T0,cells,G,w1,w2,w3⟩) (fun w=>by omega)
            refine ⟨.tuple #[],W,E', .inl ?_,g,m,rm,trivial⟩
            unfold execOp
            simp only [ho,resolve,invoke,builtin,Sem.run_bind,Sem.run_pure,Result.andThen_ok,List.map_toArray,List.map_cons,List.map_nil,hv,Nat.sub_self]
            have hrun:(Builtin.clear_ #[t] o.type #[.slice A 0 c]).run P W=.ok (.tuple #[]) W:=by
              unfold Builtin.clear_
              cases A <;> simp [Sem.run_bind,run_underlying hu,Result.andThen_ok]
            rw [hrun]
            rfl
        · exact hn.elim
    · exact hn.elim
  · exact hn.elim
end
open Go.ChangeShapes Go.WideShapes Go.ChangeAt Go.RowKit Go.Joins Go.Deep Go.MapKept
section
variable {X:List Nat} {P:Program} {W:World} {E:Env} {M:Mem} {tm:List AV} {a:Act} {o:Oper}
theorem ZuA {t:TypeId} (hM:RepM X W E M) (ho:o.op=.makeMap t none):Zeo X P o a W E M (.c (.mp M.length)) (M ++ [.mp []]):=by
  have g:=ZqG hM (.map #[] 0) ⟨W.heap.size,undef,[W.heap.size]⟩ (fun b hb=>by simpa using hb)
  have hm:=ZeP (W:=W) (W':=W.alloc (.map #[] 0)) ⟨rfl,rfl,rfl,by simp,fun b hb _=>Below.heap_alloc W _ b hb,fun b hb=>.inl hb,fun _ e h=>⟨e,h,rfl⟩⟩ hM (fun b hb=>Below.heap_alloc W _ b (hM.lt b hb)) [.mp []] [⟨W.heap.size,undef,[W.heap.size]⟩]
  refine ⟨.map (some W.heap.size),_,_, .inl ?_,g,hm,⟨by simp [hM.len],ZfX hM.nodup (by simp [foots]) hM.lt (fun b hb=>by simp [foots] at hb; omega),fun i b e hb he=>?_,fun b hb=>?_,fun b hb hf=>?_,fun b hb=>by rw [World.size_alloc]; have:=hM.xsz b hb; omega⟩,⟨⟨W.heap.size,undef,[W.heap.size]⟩,?_,rfl⟩⟩
  · unfold execOp
    simp only [ho,Sem.run_bind]
    rfl
  · by_cases hi:i < M.length
    · exact Zv1
    · have hi' : i=M.length:=by
        exact Zpy
      subst hi'
      rw [List.getElem?_append_right (Nat.le_refl _),Nat.sub_self] at hb
      rw [hM.len,List.getElem?_append_right (Nat.le_refl _),Nat.sub_self] at he
      simp at hb he
      subst hb
      subst he
      exact ⟨rfl,#[],0,heap_alloc_new W _,rfl,fun e he=>by simp at he⟩
  · exact Zwm
  · exact Zwt
  · exact Zw8
theorem map_keys {es:List MapEntry} {xs:List Int} (h:es.map (·.key)=xs.map (fun x=>Value.int .i64 x)):∀ x ∈ es,IsKey (.int .i64) x.key:=fun x hx=>by
  have:x.key ∈ es.map (·.key):=List.mem_map.2 ⟨x,hx,rfl⟩
  rw [h] at this
  obtain ⟨y,_,e⟩:=List.mem_map.1 this
  rw [← e]
  simp [IsKey]
theorem ZD9 {n:Int} {xs:List Int}:ZEH n xs=true↔n ∈ xs:=by
  unfold ZEH
  rw [List.any_eq_true]
  constructor
  · rintro ⟨y,h1,h2⟩
    rw [of_decide_eq_true h2] at h1
    exact h1
  · intro h
    exact ⟨n,h,decide_eq_true rfl⟩
theorem Zzn {es:List MapEntry} {xs:List Int} {n:Int} (h:es.map (·.key)=xs.map (fun x=>Value.int .i64 x)):(∃ e ∈ es,e.key=.int .i64 n)↔ZEH n xs=true:=by
  rw [ZD9]
  constructor
  · rintro ⟨e,h1,h2⟩
    have:e.key ∈ es.map (·.key):=List.mem_map.2 ⟨e,h1,rfl⟩
    rw [h,h2] at this
    obtain ⟨y,q1,q2⟩:=List.mem_map.1 this
    injection q2 with _ q3
    rw [← q3]
    exact q1
  · intro hn
    have:Value.int .i64 n ∈ xs.map (fun x=>Value.int .i64 x):=List.mem_map.2 ⟨n,hn,rfl⟩
    rw [← h] at this
    obtain ⟨e,q1,q2⟩:=List.mem_map.1 this
    exact ⟨e,q1,q2⟩
theorem ZAn {t:TypeId} (h:ZCo P t=true):P.underlying t=some (.int .i64):=by
  unfold ZCo at h
  split at h
  · assumption
  · cases h
theorem Zsw {t:TypeId} (h:ZsL P t=true):(zeroValue t).run P W=.ok (.bool false) W:=by
  unfold ZsL at h
  split at h
  · rename_i hz
    cases hi:P.info? t with
    | none=>rw [hi] at hz; cases hz
    | some i =>
      rw [hi] at hz
      have hz:i.zero=some (.bool false):=hz
      simp [zeroValue,typeInfo,run_program,hi,hz,Result.andThen]
  · cases h
theorem ZEa {t:TypeId} {m k:Operand} (hM:RepM X W E M) (ht:Zb5 X W E M tm a.tmps.toList) (ho:o.op=.lookup t m k false) (hn:(ZzC P M t (evalA tm m) (evalA tm k)).need):Zeo X P o a W E M (ZzC P M t (evalA tm m) (evalA tm k)).val (ZzC P M t (evalA tm m) (evalA tm k)).mem:=by
  have pm:=ZaE (M:=M) (W:=W) (E:=E) ht m
  have pk:=ZaE (M:=M) (W:=W) (E:=E) ht k
  generalize evalA tm m=m' at *
  generalize evalA tm k=k' at *
  unfold ZzC at hn ⊢
  split at hn
  · rename_i kt et i n hu
    split at hn
    · rename_i xs hi
      cases hc:ZCo P kt && ZsL P et with
      | false=>rw [hc] at hn; exact hn.elim
      | true =>
        simp only [hc,cond_true]
        rw [Bool.and_eq_true] at hc
        have hd:=ZAn hc.1
        obtain ⟨e,he,hv⟩:=(pm:∃ e,E[i]?=some e∧a.eval m=.map (some e.blk))
        obtain ⟨ek,_⟩:=ZfY pk
        obtain ⟨hf,es,ck,hg,hkeys,hvals⟩:=hM.at_ i _ e hi he
        have hk:IsKey (.int .i64) (Value.int .i64 n):=by simp [IsKey]
        refine Zeo.stay hM ?_ rfl
        unfold execOp
        simp only [ho,hv,ek,Sem.run_bind]
        rcases findNow_spec hk es.toList 0 (map_keys hkeys) with ⟨h1,h2⟩ | ⟨j,e',h1,h2,h3⟩
        · have hm:ZEH n xs=false:=by
            cases hq:ZEH n xs with
            | false=>rfl
            | true =>
              exact ZwZ
          rw [hm]
          simp [Instr.lookup,run_underlying hu,Go.MapKept.run_getObj_map hg,Go.MapKept.run_checkKey hd hk,Go.MapKept.run_findKey hd h1,Zsw hc.2,Result.andThen]
        · have hm:ZEH n xs=true:=(Zzn hkeys).1 ⟨e',List.mem_of_getElem? h2,h3⟩
          have hval:=hvals e' (List.mem_of_getElem? h2)
          rw [hm]
          simp [Instr.lookup,run_underlying hu,Go.MapKept.run_getObj_map hg,Go.MapKept.run_checkKey hd hk,Go.MapKept.run_findKey hd h1,hval,Result.andThen]
    · exact hn.elim
  · exact hn.elim
theorem ZAo {i:Nat} {xs xs' : List Int} {e:EB} {ob ob' : Obj} (hM:RepM X W E M) (hb:M[i]?=some (.mp xs)) (he:E[i]?=some e) (hf:e.foot=[e.blk]) (hg:W.heap[e.blk]?=some ob)
    (hn:ZIH { W with heap:=W.heap.setIfInBounds e.blk ob' } e.blk xs') :
    Zbz W E { W with heap:=W.heap.setIfInBounds e.blk ob' } E∧Za8 W E M { W with heap:=W.heap.setIfInBounds e.blk ob' } E (M.set i (.mp xs'))∧RepM X { W with heap:=W.heap.setIfInBounds e.blk ob' } E (M.set i (.mp xs')):=by
  have hmem:e.blk ∈ foots E:=Za0.2 ⟨e,List.mem_of_getElem? he,by simp [hf]⟩
  have hoth:∀ b,b ≠ e.blk→(W.heap.setIfInBounds e.blk ob')[b]?=W.heap[b]?:=fun b hne=>(Go.MapKept.heap_set hg).2 b hne
  have g:Zbz W E { W with heap:=W.heap.setIfInBounds e.blk ob' } E :=
    ⟨rfl,rfl,rfl,by simp,fun b hbl hbn=>hoth b (fun e'=>hbn (e' ▸ hmem)),fun b hb=>.inl hb,fun i e h=>⟨e,h,rfl⟩⟩
  have hil:i < M.length:=(List.getElem?_eq_some_iff.1 hb).1
  have dis:∀ j e1,E[j]?=some e1→i ≠ j→∀ b ∈ e1.foot,b ≠ e.blk:=fun j e1 he1 hj b hb2 e2=>by
    subst e2
    exact Zc9 hM.nodup he he1 hj (by simp [hf]) hb2
  have m:Za8 W E M { W with heap:=W.heap.setIfInBounds e.blk ob' } E (M.set i (.mp xs')):=fun j=>by
    by_cases hj:i=j
    · subst hj
      rw [hb]
      trivial
    · rw [List.getElem?_set_ne hj]
      split
      · rename_i h
        exact .inr ⟨_,_,_,_,h,Nat.le_refl _,fun _ e1 he1=>⟨e1,he1,rfl,Nat.le_refl _,fun _ b hb=>⟨hb,hoth b (dis j e1 he1 hj b hb)⟩⟩⟩
      · rename_i h
        exact h
      · trivial
  refine ⟨g,m,by simp [hM.len],hM.nodup,fun j b e' hbj hej=>?_,fun b hb=>by simpa using hM.lt b hb,hM.xlt,fun b hb=>by simpa using hM.xsz b hb⟩
  by_cases hj:i=j
  · subst hj
    rw [List.getElem?_set_self hil] at hbj
    obtain rfl:e=e':=by rw [he] at hej; simpa using hej
    obtain rfl:=(Option.some.inj hbj).symm
    exact ⟨hf,hn⟩
  · rw [List.getElem?_set_ne hj] at hbj
    exact (hM.at_ j b e' hbj hej).keep g m hM.len (fun q hq=>hoth q (dis j e' hej hj q hq))
theorem ZF0 {t:TypeId} {m k v:Operand} (hM:RepM X W E M) (ht:Zb5 X W E M tm a.tmps.toList) (ho:o.op=.mapUpdate t m k v) (hn:(ZH0 P M t (evalA tm m) (evalA tm k) (evalA tm v)).need):Zeo X P o a W E M (ZH0 P M t (evalA tm m) (evalA tm k) (evalA tm v)).val (ZH0 P M t (evalA tm m) (evalA tm k) (evalA tm v)).mem:=by
  have pm:=ZaE (M:=M) (W:=W) (E:=E) ht m
  have pk:=ZaE (M:=M) (W:=W) (E:=E) ht k
  have pv:=ZaE (M:=M) (W:=W) (E:=E) ht v
  generalize evalA tm m=m' at *
  generalize evalA tm k=k' at *
  generalize evalA tm v=v' at *
  unfold ZH0 at hn ⊢
  split at hn
  · rename_i kt et i n hu
    split at hn
    · rename_i xs hi
      cases hc:ZCo P kt with
      | false=>rw [hc] at hn; exact hn.elim
      | true =>
        simp only [hc,cond_true]
        have hd:=ZAn hc
        obtain ⟨e,he,hv⟩:=(pm:∃ e,E[i]?=some e∧a.eval m=.map (some e.blk))
        obtain ⟨ek,_⟩:=ZfY pk
        have ev:a.eval v=.bool true:=pv
        obtain ⟨hf,es,ck,hg,hkeys,hvals⟩:=hM.at_ i _ e hi he
        have hk:IsKey (.int .i64) (Value.int .i64 n):=by simp [IsKey]
        have hlt:e.blk < W.heap.size:=(Array.getElem?_eq_some_iff.1 hg).1
        rcases findNow_spec hk es.toList 0 (map_keys hkeys) with ⟨h1,h2⟩ | ⟨j,e',h1,h2,h3⟩
        · have hm:ZEH n xs=false:=by
            cases hq:ZEH n xs with
            | false=>rfl
            | true =>
              exact ZwZ
          have hin:ZI3 n xs=xs ++ [n]:=by unfold ZI3; rw [hm]; rfl
          rw [hin]
          obtain ⟨g,mm,r⟩:=ZAo (xs':=xs ++ [n]) (ob':=.map (es.push ⟨.int .i64 n, .bool true,ck⟩) (ck + 1)) hM hi he hf hg
            ⟨_,_,(Go.MapKept.heap_set hg).1,by simp [hkeys],fun e1 h=>by
              rw [Array.toList_push,List.mem_append] at h
              rcases h with h | h
              · exact hvals e1 h
              · rw [List.mem_singleton.1 h]⟩
          refine ⟨undef,_,E, .inr ⟨?_,rfl⟩,g,mm,r,trivial⟩
          unfold execOp
          simp only [ho,hv,ek,ev,Sem.run_bind]
          simp [Instr.mapUpdate,run_underlying hu,Go.MapKept.run_getObj_map hg,Go.MapKept.run_checkKey hd hk,Go.MapKept.run_findKey hd h1,Go.MapKept.run_setObj_map _ hg,Result.andThen]
        · have hm:ZEH n xs=true:=(Zzn hkeys).1 ⟨e',List.mem_of_getElem? h2,h3⟩
          have hin:ZI3 n xs=xs:=by unfold ZI3; rw [hm]; rfl
          have hj:es[j]?=some e':=by simpa using h2
          rw [hin]
          have hsame:(es.modify j fun e=>{ e with key:=.int .i64 n,val:=.bool true }).toList=es.toList:=by
            apply List.ext_getElem?
            intro q
            simp only [Array.getElem?_toList,Array.getElem?_modify]
            by_cases hq:j=q
            · subst hq
              have hval:=hvals e' (List.mem_of_getElem? h2)
              rw [if_pos rfl,hj]
              simp only [Option.map_some]
              rw [← h3,← hval]
            · rw [if_neg hq]
          obtain ⟨g,mm,r⟩:=ZAo (xs':=xs) (ob':=.map (es.modify j fun e=>{ e with key:=.int .i64 n,val:=.bool true }) ck) hM hi he hf hg
            ⟨_,_,(Go.MapKept.heap_set hg).1,by rw [hsame]; exact hkeys,fun e1 h=>by rw [hsame] at h; exact hvals e1 h⟩
          refine ⟨undef,_,E, .inr ⟨?_,rfl⟩,g,mm,r,trivial⟩
          unfold execOp
          simp only [ho,hv,ek,ev,Sem.run_bind]
          simp [Instr.mapUpdate,run_underlying hu,Go.MapKept.run_getObj_map hg,Go.MapKept.run_checkKey hd hk,Go.MapKept.run_findKey hd h1,hj,h3,Go.MapKept.run_keyThatStays hk,Go.MapKept.run_setObj_map _ hg,Result.andThen]
    · exact hn.elim
  · exact hn.elim
end
section
variable {P:Program} {X:List Nat} {W:World} {E:Env} {M:Mem} {a:Act} {tm:List AV} {o:Oper} {T:Tab P}
theorem ZiO {W' : World} {E' : Env} (g:Zbz W [] W' E'):Zbz W E W' E where
  os:=g.os
  tape:=g.tape
  output:=g.output
  size:=g.size
  keep b hb _:=g.keep b hb (by simp [foots])
  new b hb:=.inl hb
  blk i e he:=⟨e,he,rfl⟩
theorem Zjo {W' : World} {E' : Env} (g:Zbz W [] W' E') (hM:RepM X W E M):Za8 W E M W' E M:=by
  have:=ZeP (W:=W) (W':=W') (ZiO g) hM (fun b hb=>g.keep b (hM.lt b hb) (by simp [foots])) [] []
  rwa [List.append_nil,List.append_nil] at this
theorem Zog {W' : World} {E' : Env} (g:Zbz W [] W' E') (hM:RepM X W E M):RepM X W' E M :=
  ⟨hM.len,hM.nodup,fun i b e hb he=>(hM.at_ i b e hb he).keep (ZiO g) (Zjo g hM) hM.len (fun q hq=>g.keep q (hM.lt q (Za0.2 ⟨e,List.mem_of_getElem? he,hq⟩)) (by simp [foots])),
    fun b hb=>Nat.lt_of_lt_of_le (hM.lt b hb) g.size,hM.xlt,fun b hb=>Nat.lt_of_lt_of_le (hM.xsz b hb) g.size⟩
theorem Zf0 {y:ATy} {l:List ATy} {x:AV} {xs:List AV} {d:AD (y :: l)} (h:Zjw M (y :: l) (x :: xs)=some d):Zi5 M y x=some d.1∧Zjw M l xs=some d.2:=by
  unfold Zjw at h
  cases hq:Zi5 M y x with
  | none=>rw [hq] at h; cases h
  | some z =>
    rw [hq] at h
    simp only at h
    cases hz:Zjw M l xs with
    | none=>rw [hz] at h; cases h
    | some ys =>
      rw [hz] at h
      obtain rfl:(z,ys)=d:=Option.some.inj h
      exact ⟨rfl,rfl⟩
theorem ZJ5 {W:World} (hsz:∀ b ∈ X,b < W.heap.size):RepM X W [] []:=⟨rfl,List.nodup_nil,fun i b e h=>by simp at h,fun b hb=>by simp [foots] at hb,fun b _=>by simp [foots],hsz⟩
theorem ZAp {M M' : Mem}:∀ (t:Ty) {l:List AC},(∀ c ∈ l,ZI5 c=false)→Zh4 M t l=Zh4 M' t l
  | .int _,_,_=>rfl
  | .bool,_,_=>rfl
  | .str,_,_=>rfl
  | .opq,_,_=>rfl
  | .prod a b,l,hl=>by
    unfold Zh4
    rw [ZAp (M:=M) (M':=M') a hl]
    cases ha:Zh4 M' a l with
    | none=>rfl
    | some q =>
      obtain ⟨y,l1⟩:=q
      have h1:=Zo3 a hl ha
      simp only
      rw [ZAp (M:=M) (M':=M') b (fun c hc=>hl c (by rw [h1]; simp [hc]))]
  | .list a,l,hl=>by
    show Zi4 M a l=Zi4 M' a l
    cases l with
    | nil=>rfl
    | cons c l =>
      have hc:=hl c List.mem_cons_self
      cases c with
      | hs L t xs =>
        cases L with
        | no=>rfl
        | «at» i v c=>cases hc
      | int k x=>rfl
      | bool b=>rfl
      | str s=>rfl
      | opq s=>rfl
      | _=>cases hc
theorem ZEb {M M' : Mem} {y:ATy} {agg:Bool} {t:Ty} {x:t.den} {d:y.ty.den} (h:Zi5 M y (Zdt agg t x)=some d) (hp:∀ t,y ≠ .p t):Zi5 M' y (Zdt agg t x)=some d:=by
  cases y with
  | p t'=>exact absurd rfl (hp t')
  | v t' =>
    cases agg with
    | true=>cases h
    | false =>
      have h:(match Zh4 M t' [enc1 t x] with | some (x,[])=>some x | _=>none)=some d:=h
      show (match Zh4 M' t' [enc1 t x] with | some (x,[])=>some x | _=>none)=some d
      rw [ZAp (M:=M') (M':=M) t' (fun c hc=>by obtain rfl:=List.mem_singleton.1 hc; exact ZsP)]
      exact h
  | s t' =>
    cases agg with
    | false=>cases h
    | true =>
      have h:(match Zh4 M t' (cellsOf t x) with | some (x,[])=>some x | _=>none)=some d:=h
      show (match Zh4 M' t' (cellsOf t x) with | some (x,[])=>some x | _=>none)=some d
      rw [ZAp (M:=M') (M':=M) t' (Zgg t x)]
      exact h
theorem ZF1:∀ {l:List ATy} {agg:Bool} {t:Ty} {x:t.den} {d:AD l},Zjw M l [Zdt agg t x]=some d→Zjw [] l [Zdt agg t x]=some d
  | [],_,_,_,_,h=>by simp [Zjw] at h
  | y :: l,agg,t,x,d,h=>by
    obtain ⟨h1,h2⟩:=Zf0 h
    have h3:Zi5 [] y (Zdt agg t x)=some d.1:=by
      have hel:=Znk h1
      cases y with
      | v t'=>exact ZEb h1 (fun t h=>by cases h)
      | s t'=>exact ZEb h1 (fun t h=>by cases h)
      | p t' =>
        exfalso
        revert hel
        cases agg with
        | true=>intro hel; cases hel
        | false =>
          intro hel
          have hr:=ZsP (t:=t) (x:=x)
          have he:Zdt false t x=.w (.c (enc1 t x)):=rfl
          rw [he] at hel
          injection hel with h4
          injection h4 with h5
          rw [h5] at hr
          cases hr
    have h4:Zjw [] l []=some d.2:=by
      cases l with
      | nil=>exact h2
      | cons _ _=>cases h2
    unfold Zjw
    rw [h3]
    simp only [h4]
    rfl
theorem Zkx {W' : World} {E' : Env} (g:Zbz W [] W' E'):∀ {cs:List CV} {vs:List Value},ZED X W cs vs→Zdl X W' [] [] (cs.map CV.arg) vs
  | [],_,h=>h
  | c :: cs,_,⟨v,r,e,⟨h1,F,⟨b,off,G,q0,q1,q2,q3⟩,q4⟩,h2⟩=>by
    subst q0
    refine ⟨v,r,e,⟨h1,b :: G,⟨b,off,G,rfl,q1,q2,q3.keep (g.keep b (q4 b (by simp)).2 (by simp [foots])) (fun k hk=>g.keep k (q4 k (by simp [hk])).2 (by simp [foots]))⟩,fun k hk=>⟨(q4 k hk).1,Nat.lt_of_lt_of_le (q4 k hk).2 g.size⟩⟩,Zkx g h2⟩
theorem ZHM {agg:Bool} {t:Ty} {x:t.den} {v:Value} (h:ZjP X W E M (elW agg t x) v):ZcR X W E M (Zdt agg t x) v:=by cases agg <;> exact h
theorem ZEc {fg:FuncId} {cs:List CV} {caps:List Value} {agg:Bool} {t:Ty} {p:t.den→Bool} (hsz:∀ b ∈ X,b < W.heap.size) (hgl:Zlf W []) (hc:ZED X W cs caps) (ent:∀ args w,(callFunc fg args).run P w=.ok (.enter fg args) w)
    (h:∀ x,Zat P fg (elW agg t x :: cs.map CV.arg) (.c (.bool (p x))) []):Zlj X W P (.func (.func fg) #[] caps.toArray) agg t p :=
  ⟨fg,caps,rfl,ent,fun W' E' x v g hx=>h x X W' (v :: caps) (fun b hb=>Nat.lt_of_lt_of_le (hsz b hb) g.size) (hgl.grow g).nil ⟨v,caps,rfl,hx,Zkx g hc⟩⟩
theorem ZCe {fg:FuncId} {cs:List CV} {caps:List Value} {agg:Bool} {t:Ty} {p:t.den→t.den→Bool} (hsz:∀ b ∈ X,b < W.heap.size) (hgl:Zlf W []) (hc:ZED X W cs caps) (ent:∀ args w,(callFunc fg args).run P w=.ok (.enter fg args) w)
    (h:∀ x y,Zat P fg (elW agg t x :: elW agg t y :: cs.map CV.arg) (.c (.bool (p x y))) []):ZEE X W P (.func (.func fg) #[] caps.toArray) agg t p :=
  ⟨fg,caps,rfl,ent,fun W' E' x y v v2 g hx hy=>h x y X W' (v :: v2 :: caps) (fun b hb=>Nat.lt_of_lt_of_le (hsz b hb) g.size) (hgl.grow g).nil ⟨v,_,rfl,hx,v2,caps,rfl,hy,Zkx g hc⟩⟩
theorem Zzo {W0:World} {E0:Env} (hT:ZsK X W0 E0 T) (hg0:Zbz W0 E0 W E) {f:FuncId} {args:List AV} {vs:List Value} (hM:RepM X W E M) (hr:Zb5 X W E M args vs) (hn:(Zqq T M f args).need) :
    (∀ args w,(callFunc f args).run P w=.ok (.enter f args) w) ∧
    Calls P f vs.toArray W (fun e W'=>∃ u E',e=.returned u∧Zbz W E W' E'∧Za8 W E M W' E' (Zqq T M f args).mem∧RepM X W' E' (Zqq T M f args).mem∧ZcR X W' E' (Zqq T M f args).mem (Zqq T M f args).val u):=by
  have hgl:Zlf W E:=hT.2.2.2.grow hg0
  unfold Zqq at hn ⊢
  cases hH:ZCn f T.H with
  | some h =>
    rw [hH] at hn
    simp only at hn ⊢
    split at hn
    · rename_i c g ids
      split at hn
      · rename_i xs hxs
        obtain rfl:=ZsO hH
        obtain ⟨v,r,e,h1,v2,r2,e2,h2,h3⟩:=hr
        subst e
        subst e2
        obtain rfl:r2=[]:=h3
        obtain ⟨caps,rfl,hcaps⟩:=(h2:∃ vs,v2=.func (.func g) #[] vs.toArray∧ZdC E ids vs)
        obtain ⟨hn,hsc⟩:=hn
        refine ⟨h.ent,?_⟩
        have hxs':=Zjx (X':=X) hM (fun b hb=>.inl hb) hxs (⟨v,[],rfl,h1,rfl⟩:Zcg X W E M [c] [v])
        obtain ⟨v',r',e',q1,_⟩:=hxs'
        obtain ⟨rfl,_⟩:v=v'∧[]=r':=by simpa using e'
        have hd:=hn h.t.dflt
        unfold Zqp at hn hd
        cases hg:ZsI g T.Γ with
        | none=>rw [hg] at hd; exact hd.elim
        | some eg =>
          rw [hg] at hd hn
          obtain rfl:=Znj hg
          obtain ⟨fg,ins,pre,res,new,ok,ent⟩:=eg
          simp only at hd hn ok ent
          cases ins with
          | nil=>exact hd.elim
          | cons a0 ps =>
            have hcons:∀ x,∃ y:AD (a0 :: ps),Zjw M (a0 :: ps) ([Zdt h.agg h.t x] ++ ids.map (fun i=>.c (.bp i 0)))=some y∧new y=[]∧pre y∧Zl9 (res y):=fun x=>by
              have:=hn x
              cases hy:Zjw M (a0 :: ps) ([Zdt h.agg h.t x] ++ ids.map (fun i=>.c (.bp i 0))) with
              | none=>rw [hy] at this; exact this.elim
              | some y =>
                rw [hy] at this
                simp only at this
                cases hnw:new y with
                | nil=>rw [hnw] at this; exact ⟨y,rfl,hnw,this.1,this.2⟩
                | cons _ _=>rw [hnw] at this; exact this.elim
            obtain ⟨y0,hy0,_⟩:=hcons h.t.dflt
            obtain ⟨_,hds⟩:=Zf0 hy0
            obtain ⟨hce,hcv⟩:=Zo4 hM hds hcaps
            obtain ⟨p,hp⟩:∃ p:h.t.den→Bool,p=fun x=>match Zqp T.Γ M fg [Zdt h.agg h.t x] ids with | some (_,r)=>ZCm r | none=>false:=⟨_,rfl⟩
            have hgoal:=h.ok p xs _ X W v hM.xsz hgl.nil q1 (ZEc hM.xsz hgl.nil hcv ent (fun x=>?_))
            · exact Zv6
            · obtain ⟨y,hy,hnw,hpre,hb⟩:=hcons x
              obtain ⟨he,hds'⟩:=Zf0 hy
              have hy2:y.2=y0.2:=Option.some.inj (hds'.symm.trans hds)
              have hbc:=ok y hpre
              have hpx:res y=.c (.bool (p x)):=by
                rw [hp]
                unfold Zqp
                rw [hg]
                simp only [hy,hnw]
                revert hb
                generalize res y=r
                exact Zpu
              rw [hpx,hnw] at hbc
              have hel:=Znk he
              unfold elW
              rw [hel]
              show Zat P fg (Zm5 a0 y.1 :: (ZCq ps y0.2).map CV.arg) _ _
              rw [← hce,← hy2]
              exact hbc
      · exact hn.elim
    · rename_i c u
      split at hn
      · rename_i ce xs hce hxs
        obtain ⟨rfl,hTc⟩:E0=[]∧∀ c,T.C=some c→ZJt X W0 c:=hT.1.resolve_left (by rw [hce]; simp)
        obtain rfl:=ZsO hH
        obtain ⟨v,r,e,h1,v2,r2,e2,h2,h3⟩:=hr
        subst e
        subst e2
        obtain rfl:r2=[]:=h3
        obtain ⟨hu,hn,hsc⟩:=hn
        obtain rfl:v2=u:=h2.1
        subst hu
        refine ⟨h.ent,?_⟩
        have hxs':=Zjx (X':=X) hM (fun b hb=>.inl hb) hxs (⟨v,[],rfl,h1,rfl⟩:Zcg X W E M [c] [v])
        obtain ⟨v',r',e',q1,_⟩:=hxs'
        obtain ⟨rfl,_⟩:v=v'∧[]=r':=by simpa using e'
        obtain ⟨p,hp⟩:∃ p:h.t.den→Bool,p=fun x=>match Zjw M ce.ins [Zdt h.agg h.t x] with | some y=>ZCm (ce.res y) | none=>false:=⟨_,rfl⟩
        have hgoal:=h.ok p xs ce.u X W v hM.xsz hgl.nil q1 ⟨ce.g,ce.caps,ce.hu,ce.ent,fun W' E' x vx g hx=>?_⟩
        · exact Zv6
        · have hnx:=hn x
          cases hy:Zjw M ce.ins [Zdt h.agg h.t x] with
          | none=>rw [hy] at hnx; exact hnx.elim
          | some y =>
            rw [hy] at hnx
            simp only at hnx
            have hpx:ce.res y=.c (.bool (p x)):=by
              rw [hp]
              simp only [hy]
              revert hnx
              generalize ce.res y=r
              exact Zpu
            have hr1:Zb5 X W' [] [] [Zdt h.agg h.t x] [vx]:=⟨vx,[],rfl,ZHM hx,rfl⟩
            have hgw:Zbz W0 [] W' E':=by
              have g1:Zbz W0 [] W []:=⟨hg0.os,hg0.tape,hg0.output,hg0.size,hg0.keep,fun b hb=>by simp [foots] at hb,fun i e h=>by simp at h⟩
              exact g1.trans g
            have ha:=Zlm (X':=X) (M:=[]) (ZJ5 (fun b hb=>Nat.lt_of_lt_of_le (hM.xsz b hb) g.size)) (fun b hb=>.inl hb) (ZF1 hy) hr1
            have:=hTc ce hce W' E' y [vx] hgw ha
            rw [hpx] at this
            exact this
      · exact hn.elim
    · exact hn.elim
  | none =>
    rw [hH] at hn
    simp only at hn ⊢
    cases hH2:Zq7 f T.H2 with
    | some h =>
      rw [hH2] at hn
      simp only at hn ⊢
      split at hn
      · rename_i c c2 g ids
        split at hn
        · rename_i xs ys hxs hys
          obtain rfl:=Zu8 hH2
          obtain ⟨v,r,e,h1,v2,r2,e2,k1,v3,r3,e3,h2,h3⟩:=hr
          subst e
          subst e2
          subst e3
          obtain rfl:r3=[]:=h3
          obtain ⟨caps,rfl,hcaps⟩:=(h2:∃ vs,v3=.func (.func g) #[] vs.toArray∧ZdC E ids vs)
          obtain ⟨hn,hsc⟩:=hn
          refine ⟨h.ent,?_⟩
          have hxs':=Zjx (X':=X) hM (fun b hb=>.inl hb) hxs (⟨v,[],rfl,h1,rfl⟩:Zcg X W E M [c] [v])
          obtain ⟨v',r',e',q1,_⟩:=hxs'
          obtain ⟨rfl,_⟩:v=v'∧[]=r':=by simpa using e'
          have hys':=Zjx (X':=X) hM (fun b hb=>.inl hb) hys (⟨v2,[],rfl,k1,rfl⟩:Zcg X W E M [c2] [v2])
          obtain ⟨v'',r'',e'',q2,_⟩:=hys'
          obtain ⟨rfl,_⟩:v2=v''∧[]=r'':=by simpa using e''
          have hd:=hn h.t.dflt h.t.dflt
          unfold Zqp at hn hd
          cases hg:ZsI g T.Γ with
          | none=>rw [hg] at hd; exact hd.elim
          | some eg =>
            rw [hg] at hd hn
            obtain rfl:=Znj hg
            obtain ⟨fg,ins,pre,res,new,ok,ent⟩:=eg
            simp only at hd hn ok ent
            cases ins with
            | nil=>exact hd.elim
            | cons a0 ins =>
            cases ins with
            | nil =>
              have hz:Zjw M [a0] ([Zdt h.agg h.t h.t.dflt,Zdt h.agg h.t h.t.dflt] ++ ids.map (fun i=>.c (.bp i 0)))=none:=by
                show (match Zi5 M a0 (Zdt h.agg h.t h.t.dflt) with | some y=>(match (none:Option Unit) with | some ys=>some (y,ys) | none=>none) | none=>none)=none
                split <;> rfl
              rw [hz] at hd
              exact hd.elim
            | cons a1 ps =>
              have hcons:∀ x y,∃ d:AD (a0 :: a1 :: ps),Zjw M (a0 :: a1 :: ps) ([Zdt h.agg h.t x,Zdt h.agg h.t y] ++ ids.map (fun i=>.c (.bp i 0)))=some d∧new d=[]∧pre d∧Zl9 (res d):=fun x y=>by
                have:=hn x y
                cases hy:Zjw M (a0 :: a1 :: ps) ([Zdt h.agg h.t x,Zdt h.agg h.t y] ++ ids.map (fun i=>.c (.bp i 0))) with
                | none=>rw [hy] at this; exact this.elim
                | some d =>
                  rw [hy] at this
                  simp only at this
                  cases hnw:new d with
                  | nil=>rw [hnw] at this; exact ⟨d,rfl,hnw,this.1,this.2⟩
                  | cons _ _=>rw [hnw] at this; exact this.elim
              obtain ⟨y0,hy0,_⟩:=hcons h.t.dflt h.t.dflt
              obtain ⟨_,hds1⟩:=Zf0 hy0
              obtain ⟨_,hds⟩:=Zf0 hds1
              obtain ⟨hce,hcv⟩:=Zo4 hM hds hcaps
              obtain ⟨p,hp⟩:∃ p:h.t.den→h.t.den→Bool,p=fun x y=>match Zqp T.Γ M fg [Zdt h.agg h.t x,Zdt h.agg h.t y] ids with | some (_,r)=>ZCm r | none=>false:=⟨_,rfl⟩
              have hgoal:=h.ok p xs ys _ X W v v2 hM.xsz hgl.nil q1 q2 (ZCe hM.xsz hgl.nil hcv ent (fun x y=>?_))
              · refine hgoal.mono fun en W' hq=>?_
                obtain ⟨u,E',rfl,g,r,hv⟩:=hq
                refine ⟨u,E,rfl,ZiO g,Zjo g hM,Zog g hM,?_⟩
                rw [hp] at hv
                exact ZoX (hsc _ _ _) hv
              · obtain ⟨d,hy,hnw,hpre,hb⟩:=hcons x y
                obtain ⟨he,hds1'⟩:=Zf0 hy
                obtain ⟨he2,hds'⟩:=Zf0 hds1'
                have hy2:d.2.2=y0.2.2:=Option.some.inj (hds'.symm.trans hds)
                have hbc:=ok d hpre
                have hpx:res d=.c (.bool (p x y)):=by
                  rw [hp]
                  unfold Zqp
                  rw [hg]
                  simp only [hy,hnw]
                  revert hb
                  generalize res d=r
                  exact Zpu
                rw [hpx,hnw] at hbc
                have hel:=Znk he
                have hel2:=Znk he2
                unfold elW
                rw [hel,hel2]
                show Zat P fg (Zm5 a0 d.1 :: Zm5 a1 d.2.1 :: (ZCq ps y0.2.2).map CV.arg) _ _
                rw [← hce,← hy2]
                exact hbc
        · exact hn.elim
      · exact hn.elim
    | none =>
    rw [hH2] at hn
    simp only at hn ⊢
    cases hE:ZsI f T.Γ with
    | none=>rw [hE] at hn; exact hn.elim
    | some e =>
      rw [hE] at hn
      simp only at hn ⊢
      cases hd:Zjw M e.ins args with
      | none=>rw [hd] at hn; exact hn.elim
      | some x =>
        rw [hd] at hn
        obtain rfl:=Znj hE
        simp only at hn ⊢
        refine ⟨e.ent,?_⟩
        cases hp:ZHk e.ins || args.any ZEF with
        | true =>
          rw [hp] at hn
          simp only [cond_true] at hn ⊢
          have ha:=Zlm (X':=X) hM (fun b hb=>.inl hb) hd hr
          refine (e.ok x hn.1 X W vs hM.xsz hgl.nil ha).mono fun en W' hq=>?_
          obtain ⟨u,E',rfl,g,r,hv⟩:=hq
          obtain ⟨m,rm⟩:=Zu7 g (fun b hb=>hb) hM r hn.2.2
          exact ⟨u,E ++ E',rfl,Zo2 g hM,m,rm,Zrc hM.len (fun b hb=>hb) (.inl hn.2.1) hv⟩
        | false =>
          rw [hp] at hn
          simp only [cond_false] at hn ⊢
          rw [Bool.or_eq_false_iff] at hp
          have ha:=Zlm (X':=X ++ foots E) hM (fun b hb=>(List.mem_append.1 hb).imp id (fun h=>⟨h,hp⟩)) hd hr
          refine (e.ok x hn.1 (X ++ foots E) W vs (fun b hb=>(List.mem_append.1 hb).elim (hM.xsz b) (hM.lt b)) hgl.nil ha).mono fun en W' hq=>?_
          obtain ⟨u,E',rfl,g,r,hv⟩:=hq
          obtain ⟨m,rm⟩:=Zu7 g (fun b hb=>List.mem_append_left _ hb) hM r hn.2
          exact ⟨u,E ++ E',rfl,Zo2 g hM,m,rm,Zrc hM.len (fun b hb=>List.mem_append_left _ hb) (.inr (fun b hb=>List.mem_append_right _ hb)) hv⟩
theorem Zzp {W0:World} {E0:Env} (hT:ZsK X W0 E0 T) (hg0:Zbz W0 E0 W E) {f:FuncId} {args:List AV} {vs:List Value} (hM:RepM X W E M) (hr:Zb5 X W E M args vs) (hn:(ZuY T M f args).need) :
    (∀ args w,(callFunc f args).run P w=.ok (.enter f args) w) ∧
    Calls P f vs.toArray W (fun e W'=>∃ u E',e=.returned u∧Zbz W E W' E'∧Za8 W E M W' E' (ZuY T M f args).mem∧RepM X W' E' (ZuY T M f args).mem∧ZcR X W' E' (ZuY T M f args).mem (ZuY T M f args).val u):=by
  unfold ZuY at hn ⊢
  cases hG:ZoR f args T.G with
  | some e =>
    rw [hG] at hn
    simp only at hn ⊢
    obtain rfl:=Zu9 hG
    exact ⟨e.ent,Zzm (hT.2.2.2.grow hg0) hM hr hn⟩
  | none =>
    rw [hG] at hn
    simp only at hn ⊢
    exact Zzo hT hg0 hM hr hn
theorem ZCf {fn:Operand} {f:FuncId} {ids:List Nat} (ht:Zb5 X W E M tm a.tmps.toList) (h:evalA tm fn=.w (.c (.fn f ids))):∃ caps:List Value,a.eval fn=.func (.func f) #[] caps.toArray∧ZdC E ids caps:=by
  have:=ZaE ht fn
  rw [h] at this
  exact this
theorem Zoh {W0:World} {E0:Env} (hT:ZsK X W0 E0 T) (hg:Zbz W0 E0 W E) (hM:RepM X W E M) (ht:Zb5 X W E M tm a.tmps.toList) (hn:(ZkG T tm M o).need):ZGF X P o a W E M (ZkG T tm M o).val (ZkG T tm M o).mem:=by
  unfold ZkG at hn ⊢
  cases ho:o.op <;> simp only [ho] at hn ⊢
  case call c =>
    obtain ⟨cal,args,ts⟩:=c
    cases cal <;> simp only at hn ⊢
    case value fn =>
      split at hn
      · rename_i f ids hf
        obtain ⟨caps,hfe,hcaps⟩:=ZCf ht hf
        obtain ⟨hent,hc⟩:=Zzp hT hg hM ((Znd ht args.toList).append (ZEK hcaps)) hn
        exact Zrd ho hfe hent hc
      · rename_i u hu
        split at hn
        · rename_i ce hce
          obtain ⟨rfl,hTc⟩:E0=[]∧∀ c,T.C=some c→ZJt X W0 c:=hT.1.resolve_left (by rw [hce]; simp)
          split at hn
          · rename_i x hx
            obtain ⟨hn,hsc⟩:=hn
            have he:=ZaE (M:=M) ht fn
            rw [hu] at he
            have hfe:a.eval fn=.func (.func ce.g) #[] ce.caps.toArray:=by
              have:a.eval fn=u:=he.1
              rw [this,hn]
              exact ce.hu
            have ha:=Zlm (X':=X) hM (fun b hb=>.inl hb) hx (Znd ht args.toList)
            refine Zrd ho hfe ce.ent ((hTc ce hce W E x _ hg ha).mono fun en W' hq=>?_)
            obtain ⟨v,E',rfl,g,r,hv⟩:=hq
            exact ⟨v,E,rfl,ZiO g,Zjo g hM,Zog g hM,ZoX hsc hv⟩
          · exact hn.elim
        · exact hn.elim
      · exact hn.elim
    all_goals exact (ZuU hM ht hn).toW
  all_goals exact (ZuU hM ht hn).toW
theorem ZiP:∀ {l:List MTy} {xs:List Operand} {tm:List AV} {M:Mem} {E:Env},RepM X W E M→Zb5 X W E M tm a.tmps.toList →
    ∃ E',Zbz W E W E'∧Za8 W E M W E' (Zbc l xs tm M).2∧RepM X W E' (Zbc l xs tm M).2∧Zb5 X W E' (Zbc l xs tm M).2 (Zbc l xs tm M).1 a.tmps.toList
  | [],xs,tm,M,E,hM,ht=>by unfold Zbc; exact ⟨E,Zbz.refl W E,Za8.refl W E M,hM,ht⟩
  | y :: l,[],tm,M,E,hM,ht=>by
    have e:Zbc (y :: l) [] tm M=(tm,M):=by cases y <;> rfl
    rw [e]
    exact ⟨E,Zbz.refl W E,Za8.refl W E M,hM,ht⟩
  | y :: l,x :: xs,tm,M,E,hM,ht=>by
    have go:∀ t,Zbc (y :: l) (x :: xs) tm M=Zbc l xs (ZiM tm M t).1 (ZiM tm M t).2→∃ E',Zbz W E W E'∧Za8 W E M W E' (Zbc (y :: l) (x :: xs) tm M).2∧RepM X W E' (Zbc (y :: l) (x :: xs) tm M).2∧Zb5 X W E' (Zbc (y :: l) (x :: xs) tm M).2 (Zbc (y :: l) (x :: xs) tm M).1 a.tmps.toList:=fun t e=>by
      rw [e]
      obtain ⟨E1,g1,m1,r1,t1⟩:=Zph hM ht t
      obtain ⟨E2,g2,m2,r2,t2⟩:=ZiP (l:=l) (xs:=xs) r1 t1
      exact ⟨E2,g1.trans g2,m1.trans m2,r2,t2⟩
    have stay:Zbc (y :: l) (x :: xs) tm M=Zbc l xs tm M→∃ E',Zbz W E W E'∧Za8 W E M W E' (Zbc (y :: l) (x :: xs) tm M).2∧RepM X W E' (Zbc (y :: l) (x :: xs) tm M).2∧Zb5 X W E' (Zbc (y :: l) (x :: xs) tm M).2 (Zbc (y :: l) (x :: xs) tm M).1 a.tmps.toList:=fun e=>by
      rw [e]
      exact ZiP (l:=l) (xs:=xs) hM ht
    cases y with
    | q g t=>cases x <;> first | exact go _ rfl | exact stay rfl
    | g g t=>cases x <;> first | exact go _ rfl | exact stay rfl
    | a y=>exact stay rfl
    | m t=>exact stay rfl
    | e t=>exact stay rfl
    | b t=>exact stay rfl
    | f g c=>exact stay rfl
theorem ZF2 (hM:RepM X W E M) (ht:Zb5 X W E M tm a.tmps.toList):∃ E',Zbz W E W E'∧Za8 W E M W E' (ZEG T tm M o).2∧RepM X W E' (ZEG T tm M o).2∧Zb5 X W E' (ZEG T tm M o).2 (ZEG T tm M o).1 a.tmps.toList:=by
  have stay:∃ E',Zbz W E W E'∧Za8 W E M W E' M∧RepM X W E' M∧Zb5 X W E' M tm a.tmps.toList:=⟨E,Zbz.refl W E,Za8.refl W E M,hM,ht⟩
  unfold ZEG
  split
  · exact Zph hM ht _
  · split
    · split
      · exact Zph hM ht _
      · exact stay
    · split
      · exact ZiP hM ht
      · exact stay
    · exact stay
  · exact stay
theorem ZEd (hM:RepM X W E M) (ht:Zb5 X W E M tm a.tmps.toList) (hn:(ZHm (P:=P) tm M o).need):Zeo X P o a W E M (ZHm (P:=P) tm M o).val (ZHm (P:=P) tm M o).mem:=by
  unfold ZHm at hn ⊢
  cases ho:o.op <;> simp only [ho] at hn ⊢
  case slice t x lo hi mx =>
    cases mx with
    | some _=>exact hn.elim
    | none=>exact ZFZ hM ht ho hn
  case call c =>
    obtain ⟨cal,xs,ts⟩:=c
    cases cal <;> simp only at hn ⊢
    case builtin b =>
      cases b <;> simp only at hn ⊢
      case clear =>
        split at hn
        · rename_i t x hts hxs
          exact ZCd hM ht ho hxs hts hn
        · exact hn.elim
      all_goals exact hn.elim
    all_goals exact hn.elim
  case makeMap t r =>
    cases r with
    | some _=>exact hn.elim
    | none=>exact ZuA hM ho
  case lookup t m k c =>
    cases c with
    | true=>exact hn.elim
    | false=>exact ZEa hM ht ho hn
  case mapUpdate t m k v=>exact ZF0 hM ht ho hn
  all_goals exact hn.elim
theorem Zoi {W0:World} {E0:Env} (hT:ZsK X W0 E0 T) (hg:Zbz W0 E0 W E) (hM:RepM X W E M) (ht:Zb5 X W E M tm a.tmps.toList) (hn:(Zc6 T tm M o).need):ZGF X P o a W E M (Zc6 T tm M o).val (Zc6 T tm M o).mem:=by
  unfold Zc6 at hn ⊢
  cases hc:Nat.beq (clsO T o) 2 with
  | false=>rw [hc] at hn; exact Zoh hT hg hM ht hn
  | true =>
    rw [hc] at hn
    simp only [cond_true] at hn ⊢
    cases hcut:isCut T o with
    | true =>
      rw [hcut] at hn
      exact (ZEd hM ht hn).toW
    | false =>
    rw [hcut] at hn
    simp only [cond_false] at hn ⊢
    obtain ⟨E1,g1,m1,r1,t1⟩:=ZF2 (T:=T) (o:=o) hM ht
    intro next Q hK
    refine Zoh hT (hg.trans g1) r1 t1 hn next Q (fun u W' E' g m r hv=>?_)
    obtain ⟨E2,g2,m2,r2⟩:=Zvi r
    exact hK u W' E2 (g1.trans (g.trans g2)) (m1.trans (m.trans m2)) r2 (hv.mono g2 m2 r.len)
theorem Zne {W' : World} {E' : Env} {M' : Mem} {v:AV} {u:Value} {dst:Option Tmp} (ht:Zb5 X W' E' M' tm a.tmps.toList) (hv:ZcR X W' E' M' v u):Zb5 X W' E' M' (ZjK tm dst v) (a.put dst u).tmps.toList:=by
  cases dst with
  | none=>exact ht
  | some d =>
    show Zb5 X W' E' M' (tm.set d v) (a.tmps.setIfInBounds d u).toList
    rw [Array.toList_setIfInBounds]
    exact ht.set d hv
theorem Zjp {v:Value} {dst:Option Tmp}:(a.put dst v).defers=a.defers:=by cases dst <;> rfl
theorem ZAq {l:List AV} {d:Nat} {v:AV} (h:l.getD d .any=v) (hv:v ≠ .any):l.set d v=l:=by
  rw [List.getD_eq_getElem?_getD] at h
  cases hq:l[d]? with
  | none=>rw [hq] at h; exact absurd h.symm hv
  | some x =>
    rw [hq] at h
    obtain rfl:x=v:=h
    obtain ⟨h1,h2⟩:=List.getElem?_eq_some_iff.1 hq
    rw [← h2]
    exact List.set_getElem_self h1
theorem ZqL {all:List Oper} {j d:Nat} {g:Bool} (hd:(all[j]?).bind (·.dst)=some d) (ht:Zb5 X W E M tm a.tmps.toList) (hg:tm.getD d .any=.w (.c (.bool g))):yielded all.toArray a.tmps j=some g:=by
  rw [List.getD_eq_getElem?_getD] at hg
  cases hq:tm[d]? with
  | none=>rw [hq] at hg; cases hg
  | some x =>
    rw [hq] at hg
    obtain rfl:x=_:=hg
    obtain ⟨v,h1,h2⟩:=ht.get hq
    have hv:v=.bool g:=h2
    unfold yielded
    have e1:(all.toArray[j]?).bind (·.dst)=some d:=by rw [List.getElem?_toArray]; exact hd
    have e2:a.tmps[d]?=some (.bool g):=by rw [← Array.getElem?_toList,h1,hv]
    rw [e1,Option.bind_some,e2]
theorem ZqM {all:List Oper} {j d:Nat} {l:List AW} (hd:(all[j]?).bind (·.dst)=some d) (ht:Zb5 X W E M tm a.tmps.toList) (hg:tm.getD d .any=.tp l):yielded all.toArray a.tmps j=none:=by
  rw [List.getD_eq_getElem?_getD] at hg
  cases hq:tm[d]? with
  | none=>rw [hq] at hg; cases hg
  | some y =>
    rw [hq] at hg
    obtain rfl:y=.tp l:=hg
    obtain ⟨v,k1,k2⟩:=ht.get hq
    unfold yielded
    have e1:(all.toArray[j]?).bind (·.dst)=some d:=by rw [List.getElem?_toArray]; exact hd
    have e2:a.tmps[d]?=some v:=by rw [← Array.getElem?_toList,k1]
    rw [e1,Option.bind_some,e2]
    obtain ⟨vs,rfl,_⟩:=k2
    rfl
end
section
variable {P:Program} {X:List Nat} {W:World} {E:Env} {M:Mem} {a:Act} {tm:List AV} {o:Oper} {T:Tab P}
structure Ze9 (X:List Nat) (tm:List AV) (M:Mem) (a:Act) (W:World) (E:Env):Prop where
  mem:RepM X W E M
  tmps:Zb5 X W E M tm a.tmps.toList
  dfr:a.defers=[]
theorem ZqN {all:List Oper} {os:List Oper} {Q:Exit→Act→World→Prop} (hw:Region.wanted o (yielded all.toArray a.tmps)=true) (h:o.wp P a W (wpList P all.toArray Q os) Q):wpList P all.toArray Q (o :: os) a W:=by
  unfold wpList
  rw [if_pos hw]
  exact .inl h
theorem Zky {all:List Oper} {os:List Oper} {Q:Exit→Act→World→Prop} (hw:Region.wanted o (yielded all.toArray a.tmps)=false) (h:wpList P all.toArray Q os (a.put o.dst undef) W):wpList P all.toArray Q (o :: os) a W:=by
  unfold wpList
  rw [if_neg (by rw [hw]; exact Bool.false_ne_true)]
  exact h
theorem ZqO:ZcR X W E M Zhw undef:=⟨[],rfl,rfl⟩
theorem Ze9.skip (h:Ze9 X tm M a W E) (dst:Option Tmp):Ze9 X (ZjK tm dst Zhw) M (a.put dst undef) W E:=⟨h.mem,Zne h.tmps ZqO,by rw [Zjp]; exact h.dfr⟩
theorem Ze9.lit {d:Nat} {g:Bool} (h:Ze9 X tm M a W E) (hg:tm.getD d .any=.w (.c (.bool g))):Ze9 X (tm.set d (.c (.bool g))) M a W E:=by
  rw [ZAq hg (by simp)]
  exact h
theorem ZF3 {q:Bool→Prop} (hM:RepM X W E M) (ht:Zb5 X W E M tm a.tmps.toList) (h:ZJ9 P tm M o=some q):∃ b:Bool,(execOp a.eval o).run P W=.ok (.value (.bool b)) W∧q b:=by
  unfold ZJ9 at h
  split at h
  · rename_i op t x yt ho
    split at h
    · rename_i e c hu hx
      split at h
      · rename_i L r hr
        have hp:=ZaE (M:=M) (W:=W) (E:=E) ht x
        rw [hx] at hp
        obtain ⟨A,cap,F,hv,hs,_⟩:=ZhV hM hr hp
        have hn:A.isNone=true→r.xs.length=0:=fun hA=>by
          rcases hs.2.2 with ⟨h1,_⟩ | ⟨_,b,off,G,h1,_⟩
          · rw [h1]; rfl
          · rw [h1] at hA; cases hA
        have hg:∀ op,(eqGuard op t x (.const (.slice none 0 0)) (.slice A r.xs.length cap) (.slice none 0 0)).run P W=.ok () W:=fun op=>by
          exact ZlD
        have he:a.eval (.const (.slice none 0 0))=.slice none 0 0:=rfl
        split at h
        · obtain rfl:=Option.some.inj h
          refine ⟨A.isNone,?_,hn⟩
          exact Zwy
        · obtain rfl:=Option.some.inj h
          refine ⟨!A.isNone,?_,fun hb=>hn (by simpa using hb)⟩
          exact Zwy
        · cases h
      · cases h
    · cases h
  · cases h
structure Zkz (T:Tab P) (W0:World) (E0:Env) (W:World) (E:Env) (M:Mem):Prop where
  g:Zbz W0 E0 W E
  kept:∀ i ∈ T.inp,M[i]?=some .dead∨∃ (t:Ty) (xs:List t.den) (v c:Nat) (hh:Option (Nat × Nat × Nat)),M[i]?=some (.row t xs v c hh)∧(v=0→∀ e0,E0[i]?=some e0→∃ e,E[i]?=some e∧e.val=e0.val)
theorem Zkz.step {W0 W' : World} {E0 E' : Env} {M' : Mem} (h:Zkz T W0 E0 W E M) (g:Zbz W E W' E') (m:Za8 W E M W' E' M'):Zkz T W0 E0 W' E' M':=by
  refine ⟨h.g.trans g,fun i hi=>?_⟩
  have hm:=m i
  rcases h.kept i hi with hd | ⟨t,xs,v,c,hh,h1,h2⟩
  · rw [hd] at hm; exact .inl hm
  · rw [h1] at hm
    rcases hm with hd | ⟨xs',v',c',hh',h3,h4,h5⟩
    · exact .inl hd
    · refine .inr ⟨t,xs',v',c',hh',h3,fun hv e0 he0=>?_⟩
      obtain ⟨e,q1,q2⟩:=h2 (by omega) e0 he0
      obtain ⟨e',r1,r2,_⟩:=h5 (by omega) e q1
      exact ⟨e',r1,r2.trans q2⟩
theorem Zez {all:List Oper} {Q:Exit→Act→World→Prop} {W0:World} {E0:Env} (hT:ZsK X W0 E0 T) {K:List AV→Mem→Prop} (hK:∀ tm M a W E,K tm M→Ze9 X tm M a W E→Zkz T W0 E0 W E M→Q .normal a W) :
    ∀ (os:List Oper) (tm:List AV) (M:Mem) (a:Act) (W:World) (E:Env),Zmb T all os tm M K→Ze9 X tm M a W E→Zkz T W0 E0 W E M→wpList P all.toArray Q os a W
  | [],tm,M,a,W,E,h,hr,hg=>hK tm M a W E h hr hg
  | o :: os,tm,M,a,W,E,h,hr,hg=>by
    have run:∀ (tm:List AV),Ze9 X tm M a W E→Region.wanted o (yielded all.toArray a.tmps)=true→ZGC (Zc6 T tm M o) (ZGB o M (Zc6 T tm M o).mem (fun M'=>Zmb T all os (ZjK tm o.dst (Zc6 T tm M o).val) M' K))→wpList P all.toArray Q (o :: os) a W:=fun tm hr hw h=>by
      have h:=Zge h
      refine ZqN hw (Zoi hT hg.g hr.mem hr.tmps h.1 _ _ fun u W' E' g m r hv=>?_)
      exact Zez hT hK os _ _ _ W' E' (Zlk h.2) ⟨r,Zne (hr.tmps.mono g m hr.mem.len) hv,by rw [Zjp]; exact hr.dfr⟩ (hg.step g m)
    unfold Zmb at h
    cases hgd:o.guard with
    | none =>
      rw [hgd] at h
      simp only at h
      split at h
      · rename_i q hq
        obtain ⟨b,h1,h2⟩:=ZF3 hr.mem hr.tmps hq
        refine ZqN (by unfold Region.wanted; rw [hgd]) ?_
        unfold Oper.wp
        rw [h1]
        exact Zez hT hK os _ _ _ W E (h b h2) ⟨hr.mem,Zne hr.tmps rfl,by rw [Zjp]; exact hr.dfr⟩ hg
      · exact run tm hr (by unfold Region.wanted; rw [hgd]) h
    | some jw =>
      obtain ⟨j,want⟩:=jw
      rw [hgd] at h
      simp only at h
      cases hd:(all[j]?).bind (·.dst) with
      | none=>rw [hd] at h; exact h.elim
      | some d =>
        rw [hd] at h
        simp only at h
        have wnt:∀ g,yielded all.toArray a.tmps j=some g→Region.wanted o (yielded all.toArray a.tmps)=(g == want):=fun g hy=>by
          unfold Region.wanted
          rw [hgd]
          show (yielded all.toArray a.tmps j == some want)=_
          rw [hy]
          cases g <;> cases want <;> rfl
        split at h
        · rename_i g hq
          have hy:=ZqL hd hr.tmps hq
          have hl:=hr.lit hq
          cases want with
          | true =>
            simp only at h
            cases g with
            | true=>exact run _ hl (by rw [wnt _ hy]; rfl) h
            | false=>exact Zky (by rw [wnt _ hy]; rfl) (Zez hT hK os _ _ _ W E h (hl.skip _) hg)
          | false =>
            simp only at h
            cases g with
            | true=>exact Zky (by rw [wnt _ hy]; rfl) (Zez hT hK os _ _ _ W E h (hl.skip _) hg)
            | false=>exact run _ hl (by rw [wnt _ hy]; rfl) h
        · rename_i l hq
          have hy:=ZqM hd hr.tmps hq
          refine Zky ?_ (Zez hT hK os _ _ _ W E h (hr.skip _) hg)
          unfold Region.wanted
          rw [hgd]
          show (yielded all.toArray a.tmps j == some want)=false
          rw [hy]
          rfl
        · exact h.elim
end
section
variable {P:Program} {X:List Nat} {W:World} {E:Env} {M:Mem} {a:Act} {tm:List AV} {o:Oper} {T:Tab P} {ops:Array Oper}
theorem ZuB {N:Mem} {i v:Nat} {r:Zgx} (h:ZcW M i v=some r):ZcW (M ++ N) i v=some r:=by
  have h1:=Zc2 h
  have hl:=(List.getElem?_eq_some_iff.1 h1).1
  unfold ZcW
  rw [List.getElem?_append_left hl,h1]
  simp
theorem ZiQ {N:Mem}:∀ {L:Lnd},ZdZ M L=true→ZdZ (M ++ N) L=true
  | .no,_=>rfl
  | .at i v c,h=>by
    have h:ZdE M i v c=true:=h
    show ZdE (M ++ N) i v c=true
    unfold ZdE at h ⊢
    split at h
    · rename_i t xs cv cc hM
      exact Zpx
    · cases h
theorem Zoj {N:Mem} {i v:Nat} {r:Zgx} (h:ZjJ M i v=some r):ZjJ (M ++ N) i v=some r:=by
  unfold ZjJ at h ⊢
  split at h
  · rename_i t xs cv cc hh hM
    exact Zpx
  · cases h
theorem Zhf {N:Mem} {i v c n k o:Nat} {r:Zgx} (h:Zcv M i v c n k o=some r):Zcv (M ++ N) i v c n k o=some r:=by
  unfold Zcv at h ⊢
  split at h
  · rename_i t xs cv cc hM
    exact Zpx
  · cases h
theorem Zok {N:Mem} {c:AC} {q:Lnd × Zgx} (h:ZfV M c=some q):ZfV (M ++ N) c=some q:=by
  unfold ZfV at h ⊢
  split at h
  · rename_i L t xs
    cases hl:ZdZ M L with
    | false=>rw [hl] at h; cases h
    | true=>rw [hl] at h; simp only [ZiQ hl]; exact h
  · rename_i i v
    cases hr:ZcW M i v with
    | none=>rw [hr] at h; cases h
    | some r=>rw [hr] at h; simp only [ZuB hr]; exact h
  · rename_i i v c n k o
    cases hr:Zcv M i v c n k o with
    | none=>rw [hr] at h; cases h
    | some r=>rw [hr] at h; simp only [Zhf hr]; exact h
  · cases h
theorem ZF4 {N:Mem} {i:Nat} {b:Blk} (h:M[i]?=some b):(M ++ N)[i]?=some b:=by
  rw [List.getElem?_append_left (List.getElem?_eq_some_iff.1 h).1]
  exact h
theorem Zzq {n:Nat} (h:clsO T o=n) (hn:n≤1):ZIn T o=n:=by
  unfold clsO at h
  cases hc:isCut T o with
  | true=>rw [hc] at h; simp only [cond_true] at h; omega
  | false=>rw [hc] at h; exact h
def ZJ6 (N:Mem) (M:Mem) (r r' : OR):Prop:=r'.need∧r'.val=r.val∧r'.mem=M ++ N∧r.mem=M
theorem Zbk {N:Mem} {p:Prop} {v:AV} (h:p):ZJ6 N M ⟨p,v,M⟩ ⟨p,v,M ++ N⟩:=⟨h,rfl,rfl,rfl⟩
set_option maxHeartbeats 1000000 in
theorem ZF5 (N:Mem) (hc:clsO T o=0) (hn:(opA P tm M o).need):ZJ6 N M (opA P tm M o) (opA P tm (M ++ N) o):=by
  have hc:=Zzq hc (Nat.zero_le 1)
  unfold ZIn at hc
  unfold opA at hn ⊢
  cases ho:o.op <;> simp only [ho] at hn hc ⊢
  case alloc=>cases hc
  case box=>cases hc
  case store=>cases hc
  case buildSlice t _ _=>exfalso; cases hf:ZuZ P t <;> rw [hf] at hc <;> cases hc
  case makeSlice=>cases hc
  case move=>exact Zbk trivial
  case assign=>exact Zbk trivial
  case pick c x y=>split at hn <;> first | exact Zbk hn | exact hn.elim
  case load t x =>
    split at hn
    · rename_i i q hx
      split at hn
      · rename_i l hb
        simp only [ZF4 hb]
        exact ZhF
      · exact hn.elim
    · rename_i L t' xs k q hx
      cases hL:ZdZ M L with
      | false=>rw [hL] at hn; exact hn.elim
      | true =>
        simp only [hL,ZiQ hL,cond_true] at hn ⊢
        exact ZhF
    · rename_i i v n k q hx
      cases hr:ZcW M i v with
      | none=>rw [hr] at hn; exact hn.elim
      | some r =>
        simp only [hr,ZuB hr] at hn ⊢
        cases hL:Nat.beq n r.t.n with
        | false=>rw [hL] at hn; exact hn.elim
        | true =>
          simp only [hL,cond_true] at hn ⊢
          exact ZhF
    · rename_i i v c n k o' m y q hx
      cases hr:Zcv M i v c n k o' with
      | none=>rw [hr] at hn; exact hn.elim
      | some r =>
        simp only [hr,Zhf hr] at hn ⊢
        cases hL:Nat.beq m r.t.n with
        | false=>rw [hL] at hn; exact hn.elim
        | true =>
          simp only [hL,cond_true] at hn ⊢
          exact ZhF
    · exact hn.elim
  case build t parts=>split at hn <;> first | exact Zbk hn | exact hn.elim
  case nilCheck x =>
    split at hn
    · exact Zbk hn
    · rename_i L t' xs k q hx
      cases hL:ZdZ M L with
      | false=>rw [hL] at hn; exact hn.elim
      | true=>simp only [ZiQ hL,cond_true]; exact Zbk trivial
    · rename_i i v n k q hx
      cases hr:ZjJ M i v with
      | none=>rw [hr] at hn; exact hn.elim
      | some r=>simp only [Zoj hr,Option.isSome,cond_true]; exact Zbk trivial
    · rename_i i v c n k o' m y q hx
      cases hr:Zcv M i v c n k o' with
      | none=>rw [hr] at hn; exact hn.elim
      | some r=>simp only [Zhf hr,Option.isSome,cond_true]; exact Zbk trivial
    · exact Zbk hn
    · exact hn.elim
  case binOp=>exact Zbk hn
  case unOp op t x=>cases op <;> simp only at hn ⊢ <;> first | exact hn.elim | (split at hn <;> first | exact Zbk hn | exact hn.elim)
  case convert s d x =>
    split at hn
    · exact Zbk hn
    · rename_i c hd hx
      split at hn
      · rename_i e hs
        cases hu:ZIk P e with
        | false=>rw [hu] at hn; exact hn.elim
        | true =>
          simp only [hu,cond_true] at hn ⊢
          cases hst:Zzh M c with
          | none=>rw [hst] at hn; exact hn.elim
          | some xs =>
            rw [hst] at hn
            simp only [ZEZ (fun q hq=>Zok hq) hst]
            exact Zbk hn
      · exact hn.elim
    · exact hn.elim
  case makeFunc fn first captured=>cases fn <;> simp only at hn ⊢ <;> first | exact hn.elim | (split at hn <;> first | exact Zbk hn | exact hn.elim)
  case slice t x lo hi mx =>
    cases mx with
    | some _=>exact hn.elim
    | none =>
      simp only at hn ⊢
      split at hn
      · exact ZhF
      · split at hn
        · rename_i c hx
          cases hr:ZfV M c with
          | none=>rw [hr] at hn; exact hn.elim
          | some q =>
            simp only [hr,Zok hr] at hn ⊢
            exact Zbk hn
        · exact hn.elim
      · exact hn.elim
  case fieldAddr s x n =>
    split at hn
    · rename_i f hf
      cases hz:Nat.beq (ZbQ P f.type) 0 with
      | true=>rw [hz] at hn; exact hn.elim
      | false =>
        rw [hz] at hn
        simp only [cond_false] at hn ⊢
        split at hn
        · exact Zbk hn
        · rename_i L t' xs k q hx
          cases hL:ZdZ M L with
          | false=>rw [hL] at hn; exact hn.elim
          | true=>simp only [ZiQ hL,cond_true]; exact Zbk trivial
        · rename_i i v n k q hx
          cases hr:ZjJ M i v with
          | none=>rw [hr] at hn; exact hn.elim
          | some r=>simp only [Zoj hr,Option.isSome,cond_true]; exact Zbk trivial
        · rename_i i v c n k o' m y q hx
          cases hr:Zcv M i v c n k o' with
          | none=>rw [hr] at hn; exact hn.elim
          | some r=>simp only [Zhf hr,Option.isSome,cond_true]; exact Zbk trivial
        · exact hn.elim
    · exact hn.elim
  case indexAddr t x i =>
    split at hn
    · rename_i e L t' xs k n hu hx hi
      cases hL:ZdZ M L with
      | false=>rw [hL] at hn; exact hn.elim
      | true =>
        simp only [hL,ZiQ hL,cond_true] at hn ⊢
        exact Zbk hn
    · rename_i e i v k n hu hx hi
      cases hr:ZjJ M i v with
      | none=>rw [hr] at hn; exact hn.elim
      | some r =>
        simp only [hr,Zoj hr] at hn ⊢
        exact Zbk hn
    · rename_i e i v c n' k' o' k n hu hx hi
      cases hr:Zcv M i v c n' k' o' with
      | none=>rw [hr] at hn; exact hn.elim
      | some r =>
        simp only [hr,Zhf hr] at hn ⊢
        exact Zbk hn
    · exact hn.elim
  case index t x i=>split at hn <;> first | exact Zbk hn | exact hn.elim
  case extract x n =>
    split at hn
    · exact ZhF
    · exact hn.elim
  case call c =>
    obtain ⟨cal,xs,ts⟩:=c
    cases cal <;> simp only at hn hc ⊢ <;> try exact hn.elim
    rename_i b
    cases b <;> simp only at hn hc ⊢ <;> try exact hn.elim
    case append=>cases hc
    case len =>
      split at hn
      · split at hn
        · exact Zbk hn
        · exact Zbk hn
        · rename_i e c _ hu hx
          cases hr:ZfV M c with
          | none=>rw [hr] at hn; exact hn.elim
          | some q =>
            simp only [hr,Zok hr] at hn ⊢
            exact Zbk hn
        · exact hn.elim
      · exact hn.elim
    case min=>split at hn <;> first | exact Zbk hn | exact hn.elim
    case max=>split at hn <;> first | exact Zbk hn | exact hn.elim
  all_goals exact hn.elim
theorem Zol (hc:clsO T o≤1):Zc6 T tm M o=ZkG T tm M o:=by
  unfold Zc6
  have:Nat.beq (clsO T o) 2=false:=by
    cases h:Nat.beq (clsO T o) 2 with
    | false=>rfl
    | true=>have:=Nat.eq_of_beq_eq_true h; omega
  rw [this]
  rfl
theorem ZqP (hc:clsO T o=0):Zc6 T tm M o=opA P tm M o:=by
  rw [Zol (by omega)]
  unfold ZkG
  have hc:=Zzq hc (Nat.zero_le 1)
  unfold ZIn at hc
  cases ho:o.op <;> simp only [ho] at hc ⊢
  case call c =>
    obtain ⟨cal,xs,ts⟩:=c
    cases cal <;> first | rfl | skip
    all_goals try (cases hc; done)
    rename_i fn
    cases fn <;> first | (cases hc; done) | skip
    rename_i f
    exfalso
    have hc:(match findM f T.G with | some _=>2 | none=>1)=0:=hc
    split at hc <;> cases hc
theorem Zjq (N:Mem) (hc:clsO T o=0) (hn:(Zc6 T tm M o).need):ZJ6 N M (Zc6 T tm M o) (Zc6 T tm (M ++ N) o):=by
  rw [ZqP hc] at hn ⊢
  rw [ZqP hc]
  exact ZF5 N hc hn
theorem ZEe {f:FuncId} {args:List AV} (hn:(Zqq T M f args).need):∃ N,(Zqq T M f args).mem=M ++ N:=by
  unfold Zqq at hn ⊢
  cases hH:ZCn f T.H with
  | some h =>
    rw [hH] at hn
    simp only at hn ⊢
    split at hn
    · exact Zpz
    · exact Zpz
    · exact hn.elim
  | none =>
    rw [hH] at hn
    simp only at hn ⊢
    cases hH2:Zq7 f T.H2 with
    | some h =>
      rw [hH2] at hn
      simp only at hn ⊢
      split at hn
      · exact Zpz
      · exact hn.elim
    | none =>
    rw [hH2] at hn
    simp only at hn ⊢
    cases hE:ZsI f T.Γ with
    | none=>rw [hE] at hn; exact hn.elim
    | some e =>
      rw [hE] at hn
      simp only at hn ⊢
      cases hd:Zjw M e.ins args with
      | none=>rw [hd] at hn; exact hn.elim
      | some x =>
        simp only
        cases hp:ZHk e.ins || args.any ZEF with
        | true=>exact ⟨e.new x,rfl⟩
        | false=>exact ⟨e.new x,rfl⟩
theorem Zom:∀ {t:Ty} {l:List AC} {x:t.den} {r:List AC} {js:List Nat},t.flat=true→ZCW M t l=some (x,r,js)→js=[]
  | .int k,l,x,r,js,_,h=>by
    have h:Zup k l=some (x,r,js):=h
    unfold Zup at h
    exact Zlz
  | .bool,l,x,r,js,_,h=>by
    have h:Zob l=some (x,r,js):=h
    unfold Zob at h
    exact Zlz
  | .opq,l,x,r,js,_,h=>by
    have h:Zur l=some (x,r,js):=h
    unfold Zur at h
    exact Zlz
  | .str,l,x,r,js,_,h=>by
    have h:Zuq l=some (x,r,js):=h
    unfold Zuq at h
    exact Zlz
  | .list _,_,_,_,_,hf,_=>by cases hf
  | .prod a b,l,x,r,js,hf,h=>by
    have hf:(a.flat && b.flat)=true:=hf
    rw [Bool.and_eq_true] at hf
    unfold ZCW at h
    cases ha:ZCW M a l with
    | none=>rw [ha] at h; cases h
    | some q =>
      obtain ⟨y,l1,j1⟩:=q
      rw [ha] at h
      simp only at h
      cases hb:ZCW M b l1 with
      | none=>rw [hb] at h; cases h
      | some q =>
        obtain ⟨z,r2,j2⟩:=q
        rw [hb] at h
        injection h with h
        injection h with h1 h2
        injection h2 with h3 h4
        rw [← h4,Zom hf.1 ha,Zom hf.2 hb]
        rfl
theorem ZkY {t:Ty} (hf:t.flat=true):∀ {l:List (Nat × AV)} {k:Nat} {ys:List t.den} {js:List Nat},ZeG M t k l=some (ys,js)→js=[]
  | [],_,_,_,h=>by injection h with h; injection h with h1 h2; exact h2.symm
  | (i,x) :: l,k,ys,js,h=>by
    unfold ZeG at h
    cases hb:Nat.beq i k with
    | false=>rw [hb] at h; cases h
    | true =>
      rw [hb] at h
      simp only [cond_true] at h
      cases hv:ZHe M t x with
      | none=>rw [hv] at h; cases h
      | some q =>
        obtain ⟨y,j1⟩:=q
        rw [hv] at h
        simp only at h
        cases hp:ZeG M t (k + 1) l with
        | none=>rw [hp] at h; cases h
        | some q =>
          obtain ⟨zs,j2⟩:=q
          rw [hp] at h
          injection h with h
          injection h with h1 h2
          have e2:=ZkY hf hp
          have e1:j1=[]:=by
            unfold ZHe at hv
            split at hv
            · split at hv
              · rename_i hq
                injection hv with hv
                injection hv with _ h3
                rw [← h3]
                exact Zom hf hq
              · cases hv
            · cases hv
          rw [← h2,e1,e2]
          rfl
theorem ZEf (hc:clsO T o≤1) (hn:(Zc6 T tm M o).need):∃ N,(Zc6 T tm M o).mem=M ++ N:=by
  by_cases h0:clsO T o=0
  · exact ⟨[],by rw [List.append_nil]; exact (Zjq [] h0 hn).2.2.2⟩
  · rw [Zol hc] at hn ⊢
    unfold ZkG at hn ⊢
    have hcq:=Zzq rfl hc
    rw [← hcq] at hc h0
    clear hcq
    unfold ZIn at hc h0
    cases ho:o.op <;> simp only [ho] at hc h0 hn ⊢ <;> try exact (h0 trivial).elim
    case store=>omega
    case buildSlice t len parts =>
      have hfl:ZuZ P t=true:=by
        cases hf:ZuZ P t with
        | true=>rfl
        | false=>rw [hf] at hc; exact absurd hc (by decide)
      unfold ZuZ at hfl
      unfold opA at hn ⊢
      simp only [ho] at hn ⊢
      split at hfl
      · rename_i e hu
        simp only [hu] at hn ⊢
        split at hfl
        · rename_i tt htt
          simp only [htt] at hn ⊢
          split at hn
          · rename_i ys js hp
            have:=ZkY hfl hp
            subst this
            cases hcnd:(Zhe P e tt.n && Nat.ble (len * tt.n) 16777216) && (Nat.beq len parts.size && Zbu []) with
            | false=>rw [hcnd] at hn; exact hn.elim
            | true=>simp only [hcnd,cond_true]; exact ⟨_,rfl⟩
          · rw [hfl] at hn
            exact hn.elim
        · cases hfl
      · cases hfl
    case makeSlice t l c =>
      unfold opA at hn ⊢
      simp only [ho] at hn ⊢
      split at hn
      · split at hn
        · rename_i tt z htt hz
          cases hcnd:z.cells.toList.all ZiK && Zhe P _ tt.n with
          | false=>rw [hcnd] at hn; exact hn.elim
          | true =>
            simp only [hcnd,cond_true] at hn ⊢
            split at hn
            · exact ⟨_,rfl⟩
            · exact hn.elim
        · exact hn.elim
      · exact hn.elim
    case alloc e =>
      unfold opA at hn ⊢
      simp only [ho] at hn ⊢
      split at hn
      · rename_i z hz
        cases hok:z.cells.toList.all ZiK with
        | false=>rw [hok] at hn; exact hn.elim
        | true=>exact ⟨_,rfl⟩
      · exact hn.elim
    case box e x =>
      unfold opA at hn ⊢
      simp only [ho] at hn ⊢
      split at hn
      · exact ⟨_,rfl⟩
      · exact hn.elim
    case call c =>
      obtain ⟨cal,xs,ts⟩:=c
      cases cal <;> simp only at hc h0 hn ⊢
      case value fn =>
        cases fn <;> simp only at hc h0 <;> try (omega; done)
        rename_i f
        have hc:(match findM f T.G with | some _=>2 | none=>1)≤1:=hc
        cases hG:findM f T.G with
        | some e=>rw [hG] at hc; exact absurd (show 2≤1 from hc) (by decide)
        | none =>
          have e1:evalA tm (.func f)=.w (.c (.fn f [])):=rfl
          rw [e1] at hn ⊢
          simp only at hn ⊢
          unfold ZuY at hn ⊢
          rw [Zo5 hG] at hn ⊢
          exact ZEe hn
      case builtin b=>cases b <;> simp only at hc h0 <;> first | omega | exact (h0 trivial).elim | exact (h0 rfl).elim
      all_goals omega
theorem ZuC {tm' : List AV} (h:∀ x ∈ o.op.operands,evalA tm x=evalA tm' x):opA P tm M o=opA P tm' M o:=by
  unfold opA
  cases ho:o.op <;> simp only [ho,Op.operands] at h ⊢
  case makeFunc fn first captured =>
    have:captured.toList.map (evalA tm)=captured.toList.map (evalA tm'):=List.map_congr_left fun x hx=>h x (by simp at hx ⊢; exact .inr hx)
    cases fn <;> simp only [this]
  case unOp op t x =>
    have:=h x (by simp)
    cases op <;> simp only [this]
  case slice t x lo hi mx=>cases lo <;> cases hi <;> cases mx <;> simp_all
  case call c =>
    obtain ⟨cal,args,ts⟩:=c
    simp only [Call.operands] at h
    cases cal <;> simp only at h ⊢
    rename_i b
    have hm:args.toList.map (evalA tm)=args.toList.map (evalA tm'):=List.map_congr_left fun x hx=>h x (by simp at hx ⊢; exact hx)
    have hmem:∀ x ∈ args.toList,evalA tm x=evalA tm' x:=fun x hx=>h x (by simp at hx ⊢; exact hx)
    cases b <;> simp only [hm] <;> try rfl
    case append =>
      cases hts:ts.toList with
      | nil=>rfl
      | cons t l =>
        cases l with
        | nil=>rfl
        | cons t2 l =>
          cases l with
          | cons _ _=>rfl
          | nil =>
            cases hxs:args.toList with
            | nil=>rfl
            | cons x k =>
              cases k with
              | nil=>rfl
              | cons y k =>
                cases k with
                | cons _ _=>rfl
                | nil=>simp only [hmem x (by rw [hxs]; simp),hmem y (by rw [hxs]; simp)]
    case len =>
      cases hts:ts.toList with
      | nil=>rfl
      | cons t l =>
        cases l with
        | cons _ _=>rfl
        | nil =>
          cases hxs:args.toList with
          | nil=>rfl
          | cons x k =>
            cases k with
            | cons _ _=>rfl
            | nil=>simp only [hmem x (by rw [hxs]; simp)]
  case build t parts =>
    exact Zwb
  case buildSlice t len parts =>
    exact Zwb
  all_goals first | rfl | (simp_all; done)
theorem Zzr {tm' : List AV} (hc:clsO T o≤1) (h:∀ x ∈ o.op.operands,evalA tm x=evalA tm' x):Zc6 T tm M o=Zc6 T tm' M o:=by
  have h2:=ZuC (P:=P) (M:=M) h
  rw [Zol hc,Zol hc]
  exact ZvS
theorem ZuD {dst:Option Tmp} {v:AV} {x:Operand} (h:∀ d,dst=some d→x ≠ .tmp d):evalA (ZjK tm dst v) x=evalA tm x:=by
  cases dst with
  | none=>rfl
  | some d =>
    cases x with
    | tmp t =>
      have hne:d ≠ t:=fun e=>h d rfl (by rw [e])
      exact Zwx
    | const v=>rfl
    | global g=>rfl
    | func f=>rfl
theorem ZEg {dst:Option Tmp} {v:AV} (hc:clsO T o≤1) (h:∀ d,dst=some d→d ∉ o.looksAt ops):Zc6 T (ZjK tm dst v) M o=Zc6 T tm M o :=
  Zzr hc fun x hx=>ZuD fun d hd hxd=>h d hd (by
    subst hxd
    exact List.mem_append_left _ (List.mem_filterMap.2 ⟨.tmp d,by simpa using hx,rfl⟩))
theorem Zon {d:Nat} {v:AV} {t:Nat} (h:d ≠ t):ZiM (tm.set d v) M t=((ZiM tm M t).1.set d v,(ZiM tm M t).2):=by
  unfold ZiM
  rw [List.getElem?_set_ne h]
  cases tm[t]? with
  | none=>rfl
  | some x =>
    simp only
    cases liftV M x with
    | none=>rfl
    | some p=>simp only; rw [List.set_comm _ _ h]
theorem ZiR {d:Nat} {v:AV}:∀ (l:List MTy) (xs:List Operand) (tm:List AV) (M:Mem),(∀ x ∈ xs,x ≠ .tmp d)→Zbc l xs (tm.set d v) M=((Zbc l xs tm M).1.set d v,(Zbc l xs tm M).2)
  | [],_,_,_,_=>by unfold Zbc; rfl
  | y :: l,[],tm,M,_=>by
    have e:∀ tm,Zbc (y :: l) [] tm M=(tm,M):=fun tm=>by cases y <;> rfl
    rw [e,e]
  | y :: l,x :: xs,tm,M,h=>by
    have h' : ∀ x ∈ xs,x ≠ .tmp d:=fun x hx=>h x (List.mem_cons_of_mem _ hx)
    have go:∀ t,d ≠ t→(∀ tm,Zbc (y :: l) (x :: xs) tm M=Zbc l xs (ZiM tm M t).1 (ZiM tm M t).2)→Zbc (y :: l) (x :: xs) (tm.set d v) M=((Zbc (y :: l) (x :: xs) tm M).1.set d v,(Zbc (y :: l) (x :: xs) tm M).2):=fun t ht e=>by
      rw [e,e,Zon ht]
      exact ZiR l xs _ _ h'
    have stay:(∀ tm,Zbc (y :: l) (x :: xs) tm M=Zbc l xs tm M)→Zbc (y :: l) (x :: xs) (tm.set d v) M=((Zbc (y :: l) (x :: xs) tm M).1.set d v,(Zbc (y :: l) (x :: xs) tm M).2):=fun e=>by
      rw [e,e]
      exact ZiR l xs _ _ h'
    have hx:=h x List.mem_cons_self
    cases y <;> cases x <;> first
      | exact stay fun tm=>rfl
      | exact go _ (fun q=>hx (by rw [q])) fun tm=>rfl
theorem ZF6 {d:Nat} {v:AV} (h:∀ x ∈ o.op.operands,x ≠ .tmp d):ZEG T (tm.set d v) M o=((ZEG T tm M o).1.set d v,(ZEG T tm M o).2):=by
  unfold ZEG
  cases ho:o.op <;> simp only [ho,Op.operands] at h ⊢
  case store t p x =>
    cases p with
    | tmp p=>exact Zon fun q=>h (.tmp p) (by simp) (by rw [q])
    | const v=>rfl
    | global g=>rfl
    | func f=>rfl
  case call c =>
    obtain ⟨cal,args,ts⟩:=c
    simp only [Call.operands] at h
    cases cal <;> simp only at h ⊢
    case builtin b =>
      cases b <;> simp only
      case append =>
        cases ha:args.toList with
        | nil=>rfl
        | cons x xs =>
          have hx:=h x (by simp; exact Array.mem_toList_iff.1 (by rw [ha]; exact List.mem_cons_self))
          cases x with
          | tmp t=>exact Zon fun q=>hx (by rw [q])
          | const v=>rfl
          | global g=>rfl
          | func f=>rfl
    case value fn =>
      cases fn with
      | func f =>
        simp only
        cases findM f T.G with
        | none=>rfl
        | some e=>exact ZiR _ _ _ _ fun x hx=>h x (by simp at hx ⊢; exact .inr hx)
      | tmp t=>rfl
      | const v=>rfl
      | global g=>rfl
theorem Zoo {tm' : List AV} (h:∀ x ∈ o.op.operands,evalA tm x=evalA tm' x):ZkG T tm M o=ZkG T tm' M o:=by
  have h2:=ZuC (P:=P) (M:=M) h
  exact ZvS
theorem ZCg {tm' : List AV} (h:∀ x ∈ o.op.operands,evalA tm x=evalA tm' x):ZHm (P:=P) tm M o=ZHm (P:=P) tm' M o:=by
  unfold ZHm
  cases ho:o.op <;> simp only [ho,Op.operands] at h ⊢
  case slice t x lo hi mx =>
    cases mx with
    | some m=>rfl
    | none =>
      simp only
      rw [h x (by simp)]
      have e1:lo.map (evalA tm)=lo.map (evalA tm'):=by
        cases lo with
        | none=>rfl
        | some y=>exact congrArg some (h y (by simp))
      have e2:hi.map (evalA tm)=hi.map (evalA tm'):=by
        cases hi with
        | none=>rfl
        | some y=>exact congrArg some (h y (by simp))
      rw [e1,e2]
  case call c =>
    obtain ⟨cal,args,ts⟩:=c
    simp only [Call.operands] at h
    cases cal <;> simp only at h ⊢
    case builtin b =>
      cases b <;> simp only
      case clear =>
        cases hts:ts.toList with
        | nil=>rfl
        | cons t l =>
          cases l with
          | cons _ _=>rfl
          | nil =>
            cases ha:args.toList with
            | nil=>rfl
            | cons x xs =>
              cases xs with
              | cons _ _=>rfl
              | nil=>simp only; rw [h x (by simp; exact Array.mem_toList_iff.1 (by rw [ha]; exact List.mem_cons_self))]
  case makeMap t r=>cases r <;> rfl
  case lookup t m k c =>
    cases c with
    | true=>rfl
    | false=>show ZzC P M t (evalA tm m) (evalA tm k)=ZzC P M t (evalA tm' m) (evalA tm' k); rw [h m (by simp),h k (by simp)]
  case mapUpdate t m k v=>show ZH0 P M t (evalA tm m) (evalA tm k) (evalA tm v)=ZH0 P M t (evalA tm' m) (evalA tm' k) (evalA tm' v); rw [h m (by simp),h k (by simp),h v (by simp)]
theorem Zmt {dst:Option Tmp} {v:AV} (h:∀ d,dst=some d→d ∉ o.looksAt ops):Zc6 T (ZjK tm dst v) M o=Zc6 T tm M o:=by
  cases dst with
  | none=>rfl
  | some d =>
    have hd:∀ x ∈ o.op.operands,x ≠ .tmp d:=fun x hx hxd=>h d rfl (by
      subst hxd
      exact List.mem_append_left _ (List.mem_filterMap.2 ⟨.tmp d,by simpa using hx,rfl⟩))
    have ev:∀ tm:List AV,∀ x ∈ o.op.operands,evalA (tm.set d v) x=evalA tm x:=fun tm x hx =>
      ZuD (dst:=some d) (v:=v) fun e he hxd=>hd x hx (by rw [hxd,Option.some.inj he])
    show Zc6 T (tm.set d v) M o=_
    unfold Zc6
    cases Nat.beq (clsO T o) 2 with
    | false=>exact Zoo (ev tm)
    | true =>
      cases isCut T o with
      | true=>exact ZCg (ev tm)
      | false =>
        show (let g:=ZEG T (tm.set d v) M o; let r:=ZkG T g.1 g.2 o; (⟨r.need,r.val,Znc r.mem⟩:OR))=_
        rw [ZF6 hd]
        simp only
        rw [Zoo (ev _)]
        rfl
theorem ZEh {M' : Mem} (h:Zu1 o=true):(Zc6 T tm M o).need=(Zc6 T tm M' o).need∧(Zc6 T tm M o).val=(Zc6 T tm M' o).val:=by
  unfold Zu1 at h
  cases ho:o.op <;> rw [ho] at h <;> try cases h
  have e:∀ M,Zc6 T tm M o=ZkG T tm M o:=fun M=>Zol (by unfold clsO isCut ZIn; rw [ho]; exact Nat.zero_le _)
  rw [e,e]
  unfold ZkG
  rw [ho]
  show (opA P tm M o).need=(opA P tm M' o).need∧(opA P tm M o).val=(opA P tm M' o).val
  unfold opA
  rw [ho]
  exact ⟨rfl,rfl⟩
def Zm3 (ops:Array Oper) (o:Oper) (tm:List AV):Option Bool :=
  match o.guard with
  | none=>some true
  | some (j,want)=>match (ops[j]?).bind (·.dst) with
    | some d=>match tm.getD d .any with
      | .w (.c (.bool g))=>some (g == want)
      | .tp _=>some false
      | _=>none
    | none=>none
theorem Zop {dst:Option Tmp} {v:AV} (h:∀ d,dst=some d→d ∉ o.looksAt ops):Zm3 ops o (ZjK tm dst v)=Zm3 ops o tm:=by
  unfold Zm3
  cases hg:o.guard with
  | none=>rfl
  | some gw =>
    obtain ⟨j,want⟩:=gw
    simp only
    cases ht:(ops[j]?).bind (·.dst) with
    | none=>rfl
    | some t =>
      have:(ZjK tm dst v).getD t .any=tm.getD t .any:=by
        cases dst with
        | none=>rfl
        | some d =>
          have hne:d ≠ t:=fun e=>h d rfl (by subst e; simp [Oper.looksAt,hg,ht])
          exact Zwx
      simp only [this]
theorem ZuE {x y:Option Tmp} (v u:AV) (h:∀ d,x=some d→y ≠ some d):ZjK (ZjK tm x v) y u=ZjK (ZjK tm y u) x v:=by
  cases x with
  | none=>rfl
  | some d =>
    cases y with
    | none=>rfl
    | some e =>
      have hne:d ≠ e:=fun q=>h d rfl (by rw [q])
      show (tm.set d v).set e u=(tm.set e u).set d v
      rw [List.set_comm _ _ hne]
def qA (T:Tab P) (ops:Array Oper) (i:Nat) (K:List AV→Mem→Prop) (tm:List AV) (M:Mem):Prop :=
  match ops[i]? with
  | none=>K tm M
  | some o=>match Zm3 ops o tm with
    | some true=>(Zc6 T tm M o).need∧K (ZjK tm o.dst (Zc6 T tm M o).val) (Zc6 T tm M o).mem
    | some false=>K (ZjK tm o.dst Zhw) M
    | none=>False
theorem Zsx {i:Nat} {K K' : List AV→Mem→Prop} (h:∀ a m,K a m→K' a m) (hh:qA T ops i K tm M):qA T ops i K' tm M:=by
  unfold qA at *
  split
  · rename_i ho; simp only [ho] at hh; exact h _ _ hh
  · rename_i o ho
    simp only [ho] at hh
    split
    · rename_i hw; simp only [hw] at hh; exact ⟨hh.1,h _ _ hh.2⟩
    · rename_i hw; simp only [hw] at hh; exact h _ _ hh
    · rename_i hw; simp only [hw] at hh
def ZF7 (T:Tab P) (ops:Array Oper) (Q:List AV→Mem→Prop):Nat→Array Bool→List AV→Mem→Prop
  | 0,listed,tm,M=>Region.ready .any ops listed=[]∧Q tm M
  | fuel + 1,listed,tm,M=>(Region.ready .any ops listed=[]→Q tm M)∧∀ i ∈ Region.ready .any ops listed,qA T ops i (ZF7 T ops Q fuel (listed.setIfInBounds i true)) tm M
def Yld (T:Tab P) (ops:Array Oper) (o:Oper) (v:AV) (tm:List AV) (M:Mem):Prop :=
  (Zm3 ops o tm=some true∧(Zc6 T tm M o).need∧v=(Zc6 T tm M o).val)∨(Zm3 ops o tm=some false∧v=Zhw)
theorem Yld.qA {i:Nat} {v:AV} (hi:ops[i]?=some o) (hc:clsO T o=0) (hy:Yld T ops o v tm M) {K:List AV→Mem→Prop} (h:K (ZjK tm o.dst v) M):qA T ops i K tm M:=by
  unfold Go.Proofs.YtkompmgleojmlaaGreat.qA
  simp only [hi]
  rcases hy with ⟨hw,hv,rfl⟩ | ⟨hw,rfl⟩
  · simp only [hw]; exact ⟨hv,by rw [(Zjq [] hc hv).2.2.2]; exact h⟩
  · simp only [hw]; exact h
theorem ZIP {j:Nat} {oi oj:Oper} {v:AV} (hj:ops[j]?=some oj) (hap:oi.apart ops oj=true) (hci:clsO T oi=0) (hcj:clsO T oj≤1∨Zu1 oi=true) {K:List AV→Mem→Prop} (hy:Yld T ops oi v tm M) (h:qA T ops j K (ZjK tm oi.dst v) M) :
    qA T ops j (fun a' m'=>Yld T ops oi v a' m'∧K (ZjK a' oi.dst v) m') tm M:=by
  obtain ⟨h1,h2,h3⟩:=Oper.apart_spec hap
  have keep:∀ u N,Yld T ops oi v (ZjK tm oj.dst u) (M ++ N):=fun u N=>by
    unfold Yld
    rw [Zop h3,ZEg (by omega) h3]
    rcases hy with ⟨hw,hv,rfl⟩ | hy
    · obtain ⟨m1,m2,_,_⟩:=Zjq N hci hv
      exact .inl ⟨hw,m1,m2.symm⟩
    · exact .inr hy
  have keepP:Zu1 oi=true→∀ u M',Yld T ops oi v (ZjK tm oj.dst u) M':=fun hp u M'=>by
    unfold Yld
    rw [Zop h3,Zmt h3]
    rcases hy with ⟨hw,hv,rfl⟩ | hy
    · obtain ⟨m1,m2⟩:=ZEh (T:=T) (tm:=tm) (M:=M) (M':=M') hp
      exact .inl ⟨hw,by rw [← m1]; exact hv,m2⟩
    · exact .inr hy
  unfold qA at *
  simp only [hj] at *
  rw [Zop h1,Zmt h1] at h
  split
  · rename_i hw
    simp only [hw] at h
    refine ⟨h.1,?_,by rw [← ZuE _ _ h2]; exact h.2⟩
    rcases hcj with hcj | hp
    · obtain ⟨N,hN⟩:=ZEf hcj h.1
      rw [hN]; exact keep _ N
    · exact keepP hp _ _
  · rename_i hw
    simp only [hw] at h
    exact ⟨by have:=keep Zhw []; rwa [List.append_nil] at this,by rw [← ZuE _ _ h2]; exact h⟩
  · rename_i hw
    simp only [hw] at h
def Zoq (ops:Array Oper) (listed:Array Bool):Prop:=∀ (j:Nat) (o:Oper),ops[j]?=some o→listed.getD j false=true→∀ e ∈ o.after,Region.binds .any e=true→listed.getD e.on false=true
theorem ZCh {listed:Array Bool} (hcl:Zoq ops listed) {i:Nat}:∀ (n j:Nat),listed.getD j false=true→ZCY ops n i j=true→listed.getD i false=true
  | 0,_,_,h=>by cases h
  | n + 1,j,hj,h=>by
    unfold ZCY at h
    cases ho:ops[j]? with
    | none=>rw [ho] at h; cases h
    | some o =>
      rw [ho] at h
      obtain ⟨e,he,hb⟩:=Array.any_eq_true'.1 h
      rw [Bool.and_eq_true,Bool.or_eq_true] at hb
      have:=hcl j o ho hj e he hb.1
      exact Zwu
theorem ZEi {listed:Array Bool} (hcl:Zoq ops listed) {i j:Nat} (hj:j ∈ Region.ready .any ops listed) {n:Nat} (h:ZCY ops n i j=true):listed.getD i false=true:=by
  cases n with
  | zero=>cases h
  | succ n =>
    obtain ⟨_,o,ho,hall⟩:=mem_ready.1 hj
    unfold ZCY at h
    rw [ho] at h
    obtain ⟨e,he,hb⟩:=Array.any_eq_true'.1 h
    rw [Bool.and_eq_true,Bool.or_eq_true] at hb
    have:=hall e he hb.1
    exact Zwu
theorem Zl1 {listed:Array Bool} (hcl:Zoq ops listed) {i:Nat} (hi:i ∈ Region.ready .any ops listed):Zoq ops (listed.setIfInBounds i true):=fun j o ho hj e he hb=>by
  by_cases hji:i=j
  · subst hji
    obtain ⟨_,o',ho',hall⟩:=mem_ready.1 hi
    obtain rfl:o'=o:=Option.some.inj (ho'.symm.trans ho)
    exact getD_set_true (hall e he hb)
  · rw [getD_set_ne false hji] at hj
    exact getD_set_true (hcl j o ho hj e he hb)
theorem ZHN {listed:Array Bool} {i:Nat} (h:listed.getD i true=false):listed.getD i false=false:=by
  rcases Nat.lt_or_ge i listed.size with h' | h'
  · simp [h'] at h ⊢; exact h
  · simp [Array.getElem?_eq_none h']
theorem ZuF {Q:List AV→Mem→Prop} {i:Nat} {oi:Oper} {v:AV} (hi:ops[i]?=some oi) (hci:clsO T oi=0) :
    ∀ (fuel:Nat) (listed:Array Bool) (tm:List AV) (M:Mem),Zoq ops listed →
      (∀ j oj,ops[j]?=some oj→j ≠ i→listed.getD j true=false→ZCY ops ops.size i j=false→oi.apart ops oj=true∧(clsO T oj≤1∨Zu1 oi=true)) →
      i ∈ Region.ready .any ops listed→Yld T ops oi v tm M →
      ZF7 T ops Q fuel (listed.setIfInBounds i true) (ZjK tm oi.dst v) M→ZF7 T ops Q (fuel + 1) listed tm M:=by
  intro fuel
  induction fuel with
  | zero =>
    intro listed tm M _ _ hr hy H
    refine ⟨fun h=>(by rw [h] at hr; cases hr),fun j hj=>?_⟩
    by_cases hji:j=i
    · subst hji; exact hy.qA hi hci H
    · have:=ready_mono hj hji
      rw [H.1] at this
      cases this
  | succ fuel ih =>
    intro listed tm M hcl hfree hr hy H
    refine ⟨fun h=>(by rw [h] at hr; cases hr),fun j hj=>?_⟩
    by_cases hji:j=i
    · subst hji; exact hy.qA hi hci H
    · have h1:=H.2 j (ready_mono hj hji)
      obtain ⟨hjun,oj,hoj,hall⟩:=mem_ready.1 hj
      have hnd:ZCY ops ops.size i j=false:=by
        cases hd:ZCY ops ops.size i j with
        | false=>rfl
        | true =>
          exact ZwQ
      obtain ⟨hap,hcj⟩:=hfree j oj hoj hji hjun hnd
      have h2:=ZIP hoj hap hci hcj hy h1
      have hfree' : ∀ k ok,ops[k]?=some ok→k ≠ i→(listed.setIfInBounds j true).getD k true=false→ZCY ops ops.size i k=false→oi.apart ops ok=true∧(clsO T ok≤1∨Zu1 oi=true):=fun k ok hk hki hun hno=>by
        refine hfree k ok hk hki ?_ hno
        by_cases hjk:j=k
        · subst hjk; exact hjun
        · rw [getD_set_ne true hjk] at hun; exact hun
      refine Zsx (fun a' m' h3=>ih (listed.setIfInBounds j true) a' m' (Zl1 hcl hj) hfree' (ready_mono hr (Ne.symm hji)) h3.1 ?_) h2
      rw [Array.setIfInBounds_comm _ _ hji]
      exact h3.2
theorem Zor {Q:List AV→Mem→Prop}:∀ (n k:Nat) (listed:Array Bool) (tm:List AV) (M:Mem),ZF7 T ops Q n listed tm M→n≤k→ZF7 T ops Q k listed tm M
  | 0,0,_,_,_,h,_=>h
  | 0,k + 1,listed,tm,M,h,_=>⟨fun _=>h.2,fun i hi=>by rw [h.1] at hi; cases hi⟩
  | n + 1,0,_,_,_,_,hk=>by omega
  | n + 1,k + 1,listed,tm,M,h,hk=>⟨h.1,fun i hi=>Zsx (fun a m h=>Zor n k _ a m h (by omega)) (h.2 i hi)⟩
theorem ZHO {i:Nat} {K:List AV→Mem→Prop} (h:ZH1 T ops i tm M K):qA T ops i K tm M:=by
  unfold ZH1 at h
  cases ho:ops[i]? with
  | none=>rw [ho] at h; exact h.elim
  | some o =>
    rw [ho] at h
    simp only at h
    unfold qA
    simp only [ho]
    have wnt:∀ j want d,o.guard=some (j,want)→(ops[j]?).bind (·.dst)=some d→Zm3 ops o tm=(match tm.getD d .any with
        | .w (.c (.bool g))=>some (g == want)
        | .tp _=>some false
        | _=>none):=fun j want d hg hd=>by
      unfold Zm3
      rw [hg]
      simp only [hd]
    cases hgd:o.guard with
    | none =>
      rw [hgd] at h
      have:Zm3 ops o tm=some true:=by unfold Zm3; rw [hgd]
      simp only [this]
      exact ⟨(Zge h).1,Zlk (Zge h).2⟩
    | some jw =>
      obtain ⟨j,want⟩:=jw
      rw [hgd] at h
      simp only at h
      cases hd:(ops[j]?).bind (·.dst) with
      | none=>rw [hd] at h; exact h.elim
      | some d =>
        rw [hd] at h
        simp only at h
        have wn:=wnt j want d hgd hd
        split at h
        · rename_i g hq
          rw [hq] at wn
          have hs:tm.set d (.c (.bool g))=tm:=ZAq hq (by simp)
          cases want <;> cases g <;> simp only [hs] at h wn
          · rw [wn]; exact ⟨(Zge h).1,Zlk (Zge h).2⟩
          · rw [wn]; exact h
          · rw [wn]; exact h
          · rw [wn]; exact ⟨(Zge h).1,Zlk (Zge h).2⟩
        · rename_i l' hq
          rw [hq] at wn
          rw [wn]
          exact h
        · exact h.elim
theorem Zhg {Q:List AV→Mem→Prop}:∀ (t:Tr) (listed:Array Bool) (tm:List AV) (M:Mem),Zoq ops listed→Zll T ops t tm M Q →
    (okA T ops t false listed=true→ZF7 T ops Q t.len listed tm M) ∧
      (okA T ops t true listed=true→∀ k,t.len≤k + 1→∀ j ∈ t.heads,j ∈ Region.ready .any ops listed∧qA T ops j (ZF7 T ops Q k (listed.setIfInBounds j true)) tm M)
  | .nil,_,_,_,_,h=>⟨fun hB=>⟨by simpa [okA] using hB,h⟩,fun hB=>by simp [okA] at hB⟩
  | .alt t u,listed,tm,M,hcl,h=>by
    obtain ⟨ht,hu⟩:=h
    have it:=(Zhg t listed tm M hcl ht).2
    have iu:=(Zhg u listed tm M hcl hu).2
    have both:okA T ops t true listed=true→okA T ops u true listed=true→∀ k,(Tr.alt t u).len≤k + 1→∀ j ∈ (Tr.alt t u).heads,j ∈ Region.ready .any ops listed∧qA T ops j (ZF7 T ops Q k (listed.setIfInBounds j true)) tm M:=fun h1 h2 k hk j hj=>by
      have hk' : max t.len u.len≤k + 1:=hk
      rcases List.mem_append.1 hj with hj | hj
      · exact it h1 k (by omega) j hj
      · exact iu h2 k (by omega) j hj
    refine ⟨fun hB=>?_,fun hB=>?_⟩
    · unfold okA at hB
      simp only [Bool.false_or,Bool.and_eq_true] at hB
      have hall:∀ i ∈ Region.ready .any ops listed,i ∈ (Tr.alt t u).heads:=fun i hi=>by
        obtain ⟨k,hk,hb⟩:=List.any_eq_true.1 (List.all_eq_true.1 hB.1 i hi)
        rw [← Nat.eq_of_beq_eq_true hb]; exact hk
      cases hn:(Tr.alt t u).len with
      | zero =>
        exfalso
        cases hh:(Tr.alt t u).heads with
        | nil =>
          exact ZvT
        | cons j js =>
          have h0:∀ t:Tr,t.len=0→t.heads=[]:=fun t=>by
            induction t with
            | nil=>intro _; rfl
            | one i t _=>intro h; exact absurd h (Nat.succ_ne_zero _)
            | alt t u ih ih2 =>
              intro h
              have h' : max t.len u.len=0:=h
              simp [Tr.heads,ih (by omega),ih2 (by omega)]
          rw [h0 _ hn] at hh
          cases hh
      | succ k =>
        have hb:=both hB.2.1 hB.2.2 k (by omega)
        refine ⟨fun h0=>?_,fun j hj=>(hb j (hall j hj)).2⟩
        cases hh:(Tr.alt t u).heads with
        | nil =>
          exfalso
          exact ZvT
        | cons j js =>
          have:=(hb j (by rw [hh]; exact List.mem_cons_self)).1
          rw [h0] at this
          cases this
    · unfold okA at hB
      simp only [Bool.true_or,Bool.true_and,Bool.and_eq_true] at hB
      exact both hB.1 hB.2
  | .one i l,listed,tm,M,hcl,h=>by
    have hq:qA T ops i (fun tm M=>Zll T ops l tm M Q) tm M:=ZHO h
    have hrd:∀ b,okA T ops (.one i l) b listed=true→i ∈ Region.ready .any ops listed∧((b || ZGA T ops listed i)=true)∧okA T ops l false (listed.setIfInBounds i true)=true:=fun b hB=>by
      unfold okA at hB
      rw [Bool.and_eq_true,Bool.and_eq_true] at hB
      obtain ⟨hr,hf,hB'⟩:=hB
      obtain ⟨k,hk,hb⟩:=List.any_eq_true.1 hr
      obtain rfl:=Nat.eq_of_beq_eq_true hb; exact ⟨hk,hf,hB'⟩
    refine ⟨fun hB=>?_,fun hB k hk j hj=>?_⟩
    · obtain ⟨hr,hf,hB'⟩:=hrd false hB
      rw [Bool.false_or] at hf
      have ih:=fun tm M h=>(Zhg (Q:=Q) l (listed.setIfInBounds i true) tm M (Zl1 hcl hr) h).1 hB'
      cases ho:ops[i]? with
      | none =>
        obtain ⟨_,o,ho',_⟩:=mem_ready.1 hr
        rw [ho] at ho'
        cases ho'
      | some o =>
        have hfs:∀ j oj,ops[j]?=some oj→j ≠ i→listed.getD j true=false→ZCY ops ops.size i j=false→clsO T o=0∧o.apart ops oj=true∧(clsO T oj≤1∨Zu1 o=true):=fun j oj hj hji hun hnd=>by
          unfold ZGA at hf
          rw [ho] at hf
          have h1:=List.all_eq_true.1 hf j (List.mem_range.2 (Array.getElem?_eq_some_iff.1 hj).1)
          have hb:Nat.beq j i=false:=by
            cases hb:Nat.beq j i with
            | false=>rfl
            | true=>exact absurd (Nat.eq_of_beq_eq_true hb) hji
          rw [hb,hun,hnd,hj] at h1
          simp only [Bool.false_or,Bool.or_false,Bool.and_eq_true,Bool.or_eq_true] at h1
          exact ⟨Nat.eq_of_beq_eq_true h1.1,h1.2.1,h1.2.2.imp Nat.le_of_ble_eq_true id⟩
        by_cases hc:clsO T o=0
        ·
          unfold qA at hq
          simp only [ho] at hq
          have hfree:=fun j oj hj hji hun hnd=>(hfs j oj hj hji hun hnd).2
          split at hq
          · rename_i hw
            have hm:=(Zjq (T:=T) [] hc hq.1).2.2.2
            rw [hm] at hq
            exact ZuF ho hc l.len listed tm M hcl hfree hr (.inl ⟨hw,hq.1,rfl⟩) (ih _ _ hq.2)
          · rename_i hw
            exact ZuF ho hc l.len listed tm M hcl hfree hr (.inr ⟨hw,rfl⟩) (ih _ _ hq)
          · exact hq.elim
        ·
          refine ⟨fun h0=>(by rw [h0] at hr; cases hr),fun j hj=>?_⟩
          have hji:j=i:=by
            by_cases hji:j=i
            · exact hji
            · obtain ⟨hjun,oj,hoj,_⟩:=mem_ready.1 hj
              cases hd:ZCY ops ops.size i j with
              | false=>exact absurd (hfs j oj hoj hji hjun hd).1 hc
              | true =>
                exact ZwQ
          subst hji
          exact Zsx (fun a m h=>ih a m h) hq
    · obtain rfl:j=i:=by simpa [Tr.heads] using hj
      obtain ⟨hr,_,hB'⟩:=hrd true hB
      refine ⟨hr,Zsx (fun a m h=>Zor _ _ _ _ _ ((Zhg (Q:=Q) l (listed.setIfInBounds j true) a m (Zl1 hcl hr) h).1 hB') ?_) hq⟩
      have hk' : l.len + 1≤k + 1:=hk
      omega
theorem Zzs (n:Nat):Zoq ops (Array.replicate n false):=fun j o _ hj=>by
  rcases Nat.lt_or_ge j n with h | h
  · simp [h] at hj
  · simp [Nat.not_lt.2 h] at hj
theorem ZAr {k:Nat}:∀ (l:List Tr),(∀ t ∈ l,t.len≤k)→(ZJw l).len≤k
  | [],_=>Nat.zero_le _
  | [t],h=>h t List.mem_cons_self
  | t :: u :: l,h=>by
    have h1:=h t List.mem_cons_self
    have h2:=ZAr (u :: l) (fun t ht=>h t (List.mem_cons_of_mem _ ht))
    show max t.len (ZJw (u :: l)).len≤k
    omega
theorem ZqQ:∀ (n:Nat) (listed:Array Bool),(Zhv T ops n listed).len≤n
  | 0,_=>Nat.le_refl _
  | n + 1,listed=>by
    unfold Zhv
    split
    · rename_i i _
      exact ZwO
    · refine ZAr _ fun t ht=>?_
      obtain ⟨i,_,rfl⟩:=List.mem_map.1 ht
      exact ZwO
theorem Znf {Q:List AV→Mem→Prop} {Q' : Exit→Act→World→Prop} {W0:World} {E0:Env} (hT:ZsK X W0 E0 T) (hQ:∀ tm M a W E,Q tm M→Ze9 X tm M a W E→Zkz T W0 E0 W E M→Q' .normal a W):∀ (fuel:Nat) (listed:Array Bool) (tm:List AV) (M:Mem) (a:Act) (W:World) (E:Env),
    Ze9 X tm M a W E→Zkz T W0 E0 W E M→ZF7 T ops Q fuel listed tm M→wpAny P .any ops Q' fuel listed a W
  | 0,_,_,_,_,_,_,hr,hg,h=>⟨h.1,hQ _ _ _ _ _ h.2 hr hg⟩
  | fuel + 1,listed,tm,M,a,W,E,hr,hg,h=>by
    refine ⟨fun h0=>hQ _ _ _ _ _ (h.1 h0) hr hg,fun i hi=>?_⟩
    have hh:=h.2 i hi
    unfold qA at hh
    unfold wpOp
    cases ho:ops[i]? with
    | none=>rw [ho] at hh; exact Znf hT hQ fuel _ _ _ _ _ _ hr hg hh
    | some o =>
      rw [ho] at hh
      simp only at hh ⊢
      have wnt:∀ b,Zm3 ops o tm=some b→Region.wanted o (yielded ops a.tmps)=b:=fun b hb=>by
        unfold Zm3 at hb
        unfold Region.wanted
        cases hgd:o.guard with
        | none=>rw [hgd] at hb; exact Option.some.inj hb
        | some jw =>
          obtain ⟨j,want⟩:=jw
          rw [hgd] at hb
          simp only at hb ⊢
          cases hd:(ops[j]?).bind (·.dst) with
          | none=>rw [hd] at hb; cases hb
          | some d =>
            rw [hd] at hb
            simp only at hb
            have hd' : (ops.toList[j]?).bind (·.dst)=some d:=by rw [Array.getElem?_toList]; exact hd
            split at hb
            · rename_i g hq
              have:=ZqL hd' hr.tmps hq
              rw [show yielded ops a.tmps j=some g from this,← Option.some.inj hb]
              cases g <;> cases want <;> rfl
            · rename_i l hq
              have:=ZqM hd' hr.tmps hq
              rw [show yielded ops a.tmps j=none from this,← Option.some.inj hb]
              rfl
            · cases hb
      split at hh
      · rename_i hw
        rw [if_pos (wnt _ hw)]
        refine .inl (Zoi hT hg.g hr.mem hr.tmps hh.1 _ _ fun u W' E' g m r hv=>?_)
        exact Znf hT hQ fuel _ _ _ _ _ _ ⟨r,Zne (hr.tmps.mono g m hr.mem.len) hv,by rw [Zjp]; exact hr.dfr⟩ (hg.step g m) hh.2
      · rename_i hw
        rw [if_neg (by rw [wnt _ hw]; exact Bool.false_ne_true)]
        exact Znf hT hQ fuel _ _ _ _ _ _ (hr.skip _) hg hh
      · exact hh.elim
end
end Go.Proofs.YtkompmgleojmlaaGreat
