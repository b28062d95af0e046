import Derived.Test.YtkeglpnnedflnaaGreatDoorPBmO
import Derived.Deep.LoopGhost
import Derived.Still
import Derived.Laws.Cover3
set_option linter.unusedSimpArgs false
set_option linter.unusedVariables false
namespace Go.Proofs.YtkeglpnnedflnaaGreatDoor
open Go.ChangeShapes Go.WideShapes Go.ChangeAt Go.RowKit Go.Joins Go.Deep
open GoRep (rep bulk)
section
variable {P:Program} {X:List Nat} {W:World} {E:Env} {M:Mem} {a:Act} {tm:List AV} {o:Oper} {T:Tab P}
theorem ZhF {W' : World} {E' : Env} (g:Zbb W [] W' E'):Zbb W E W' E where
 os:=g.os
 tape:=g.tape
 output:=g.output
 size:=g.size
 keep b hb _:=g.keep b hb (by simp [foots])
 new b hb:=.inl hb
 blk i e he:=⟨e,he,rfl⟩
theorem Zim {W' : World} {E' : Env} (g:Zbb W [] W' E') (hM:RepM X W E M):ZaK W E M W' E M:=by
 have:=Zdo (W:=W) (W':=W') (ZhF g) hM (fun b hb=>g.keep b (hM.lt b hb) (by simp [foots])) [] []
 rwa [List.append_nil,List.append_nil] at this
theorem Zn3 {W' : World} {E' : Env} (g:Zbb W [] W' E') (hM:RepM X W E M):RepM X W' E M :=
 ⟨hM.len,hM.nodup,fun i b e hb he=>(hM.at_ i b e hb he).keep (ZhF g) (Zim g hM) hM.len (fun q hq=>g.keep q (hM.lt q (Zaw.2 ⟨e,List.mem_of_getElem? he,hq⟩)) (by simp [foots])),
  fun b hb=>Nat.lt_of_lt_of_le (hM.lt b hb) g.size,hM.xlt,fun b hb=>Nat.lt_of_lt_of_le (hM.xsz b hb) g.size⟩
theorem Zfk {y:ATy} {l:List ATy} {x:AV} {xs:List AV} {d:AD (y :: l)} (h:Zij M (y :: l) (x :: xs)=some d):Zhz M y x=some d.1∧Zij M l xs=some d.2:=by
 unfold Zij at h
 cases hq:Zhz M y x with
 | none=>rw [hq] at h; cases h
 | some z =>
  rw [hq] at h
  simp only at h
  cases hz:Zij M l xs with
  | none=>rw [hz] at h; cases h
  | some ys =>
   rw [hz] at h
   obtain rfl:(z,ys)=d:=Option.some.inj h
   exact ⟨rfl,rfl⟩
theorem ZOD {W:World} (hsz:∀ b ∈ X,b < W.heap.size):RepM X W [] []:=⟨rfl,List.nodup_nil,fun i b e h=>by simp at h,fun b hb=>by simp [foots] at hb,fun b _=>by simp [foots],hsz⟩
theorem ZzN {M M' : Mem}:∀ (t:Ty) {l:List AC},(∀ c ∈ l,ZLW c=false)→ZgB M t l=ZgB M' t l
 | .int _,_,_=>rfl
 | .bool,_,_=>rfl
 | .str,_,_=>rfl
 | .opq,_,_=>rfl
 | .prod a b,l,hl=>by
  unfold ZgB
  rw [ZzN (M:=M) (M':=M') a hl]
  cases ha:ZgB M' a l with
  | none=>rfl
  | some q =>
   obtain ⟨y,l1⟩:=q
   have h1:=Zn1 a hl ha
   simp only
   rw [ZzN (M:=M) (M':=M') b (fun c hc=>hl c (by rw [h1]; simp [hc]))]
 | .list a,l,hl=>by
  show Zhy M a l=Zhy M' a l
  cases l with
  | nil=>rfl
  | cons c l =>
   have hc:=hl c List.mem_cons_self
   cases c with
   | hs L t xs =>
    cases L with
    | no=>rfl
    | «at» i v c=>cases hc
   | int k x=>rfl
   | bool b=>rfl
   | str s=>rfl
   | opq s=>rfl
   | _=>cases hc
theorem Zsr {M M' : Mem} {y:ATy} {agg:Bool} {t:Ty} {x:t.den} {d:y.ty.den} (h:Zhz M y (ZcT agg t x)=some d) (hp:∀ t,y ≠ .p t):Zhz M' y (ZcT agg t x)=some d:=by
 cases y with
 | p t'=>exact absurd rfl (hp t')
 | z =>
  have he:=Zkg h
  cases agg with
  | true=>cases he
  | false =>
   have hr:=ZmS (t:=t) (x:=x)
   injection he with h4
   injection h4 with h5
   rw [h5] at hr
   cases hr
 | q t' =>
  cases agg with
  | false=>cases h
  | true =>
   exact Zvg
 | v t' =>
  cases agg with
  | true=>cases h
  | false =>
   have h:(match ZgB M t' [enc1 t x] with | some (x,[])=>some x | _=>none)=some d:=h
   show (match ZgB M' t' [enc1 t x] with | some (x,[])=>some x | _=>none)=some d
   rw [ZzN (M:=M') (M':=M) t' (fun c hc=>by obtain rfl:=List.mem_singleton.1 hc; exact ZmS)]
   exact h
 | s t' =>
  cases agg with
  | false=>cases h
  | true =>
   have h:(match ZgB M t' (cellsOf t x) with | some (x,[])=>some x | _=>none)=some d:=h
   show (match ZgB M' t' (cellsOf t x) with | some (x,[])=>some x | _=>none)=some d
   rw [ZzN (M:=M') (M':=M) t' (Zfj t x)]
   exact h
theorem ZGc:∀ {l:List ATy} {agg:Bool} {t:Ty} {x:t.den} {d:AD l},Zij M l [ZcT agg t x]=some d→Zij [] l [ZcT agg t x]=some d
 | [],_,_,_,_,h=>by simp [Zij] at h
 | y :: l,agg,t,x,d,h=>by
  obtain ⟨h1,h2⟩:=Zfk h
  have h3:Zhz [] y (ZcT agg t x)=some d.1:=by
   have hel:=Zkg h1
   cases y with
   | v t'=>exact Zsr h1 (fun t h=>by cases h)
   | s t'=>exact Zsr h1 (fun t h=>by cases h)
   | q t'=>exact Zsr h1 (fun t h=>by cases h)
   | z=>exact Zsr h1 (fun t h=>by cases h)
   | p t' =>
    exfalso
    revert hel
    cases agg with
    | true=>intro hel; cases hel
    | false =>
     intro hel
     have hr:=ZmS (t:=t) (x:=x)
     have he:ZcT false t x=.w (.c (enc1 t x)):=rfl
     rw [he] at hel
     injection hel with h4
     injection h4 with h5
     rw [h5] at hr
     cases hr
  have h4:Zij [] l []=some d.2:=by
   cases l with
   | nil=>exact h2
   | cons _ _=>cases h2
  unfold Zij
  rw [h3]
  try simp only [Zz6]
  simp only [h4]
  rfl
theorem Zjj {W' : World} {E' : Env} (g:Zbb W [] W' E'):∀ {cs:List CV} {vs:List Value},ZDG X W cs vs→ZcC X W' [] [] (cs.map CV.arg) vs
 | [],_,h=>h
 | c :: cs,_,⟨v,r,e,⟨h1,F,⟨b,off,G,q0,q1,q2,q3⟩,q4⟩,h2⟩=>by
  subst q0
  refine ⟨v,r,e,⟨h1,b :: G,⟨b,off,G,rfl,q1,q2,q3.keep (g.keep b (q4 b (by simp)).2 (by simp [foots])) (fun k hk=>g.keep k (q4 k (by simp [hk])).2 (by simp [foots]))⟩,fun k hk=>⟨(q4 k hk).1,Nat.lt_of_lt_of_le (q4 k hk).2 g.size⟩⟩,Zjj g h2⟩
theorem ZJq {agg:Bool} {t:Ty} {x:t.den} {v:Value} (h:Zhv X W E M (elW agg t x) v):Zcd X W E M (ZcT agg t x) v:=by cases agg <;> exact h
theorem ZDQ {fg:FuncId} {cs:List CV} {caps:List Value} {agg:Bool} {t:Ty} {p:t.den→Bool} (hsz:∀ b ∈ X,b < W.heap.size) (hgl:ZiD W []) (hc:ZDG X W cs caps) (ent:∀ args w,(callFunc fg args).run P w=.ok (.enter fg args) w)
 (h:∀ x,Zaq P fg (elW agg t x :: cs.map CV.arg) (.c (.bool (p x))) []):ZnR X W P (.func (.func fg) #[] caps.toArray) agg t p :=
 ⟨fg,caps,rfl,ent,fun W' E' x v g hx=>h x X W' (v :: caps) (fun b hb=>Nat.lt_of_lt_of_le (hsz b hb) g.size) (hgl.grow g).nil ⟨v,caps,rfl,hx,Zjj g hc⟩⟩
theorem ZBw {fg:FuncId} {cs:List CV} {caps:List Value} {agg:Bool} {t:Ty} {p:t.den→t.den→Bool} (hsz:∀ b ∈ X,b < W.heap.size) (hgl:ZiD W []) (hc:ZDG X W cs caps) (ent:∀ args w,(callFunc fg args).run P w=.ok (.enter fg args) w)
 (h:∀ x y,Zaq P fg (elW agg t x :: elW agg t y :: cs.map CV.arg) (.c (.bool (p x y))) []):Zsl X W P (.func (.func fg) #[] caps.toArray) agg t p :=
 ⟨fg,caps,rfl,ent,fun W' E' x y v v2 g hx hy=>h x y X W' (v :: v2 :: caps) (fun b hb=>Nat.lt_of_lt_of_le (hsz b hb) g.size) (hgl.grow g).nil ⟨v,_,rfl,hx,v2,caps,rfl,hy,Zjj g hc⟩⟩
theorem Zyw {W0:World} {E0:Env} (hT:ZpZ X W0 E0 T) (hg0:Zbb W0 E0 W E) {f:FuncId} {args:List AV} {vs:List Value} (hM:RepM X W E M) (hr:Zbv X W E M args vs) (hn:(Zp1 T M f args).need) :
 (∀ args w,(callFunc f args).run P w=.ok (.enter f args) w) ∧
 Calls P f vs.toArray W (fun e W'=>∃ u E',e=.returned u∧Zbb W E W' E'∧ZaK W E M W' E' (Zp1 T M f args).mem∧RepM X W' E' (Zp1 T M f args).mem∧Zcd X W' E' (Zp1 T M f args).mem (Zp1 T M f args).val u):=by
 have hgl:ZiD W E:=hT.2.2.2.grow hg0
 unfold Zp1 at hn ⊢
 cases hH:ZBs f T.H with
 | some h =>
  rw [hH] at hn
  simp only at hn ⊢
  split at hn
  ·rename_i c g ids
   split at hn
   ·rename_i xs hxs
    obtain rfl:=Zsq hH
    obtain ⟨v,r,e,h1,v2,r2,e2,h2,h3⟩:=hr
    subst e
    subst e2
    obtain rfl:r2=[]:=h3
    obtain ⟨caps,rfl,hcaps⟩:=(h2:∃ vs,v2=.func (.func g) #[] vs.toArray∧Zdm E ids vs)
    obtain ⟨hn,hsc⟩:=hn
    refine ⟨h.ent,?_⟩
    have hxs':=Zik (X':=X) hM (fun b hb=>.inl hb) hxs (⟨v,[],rfl,h1,rfl⟩:Zbu X W E M [c] [v])
    obtain ⟨v',r',e',q1,_⟩:=hxs'
    obtain ⟨rfl,_⟩:v=v'∧[]=r':=by simpa using e'
    have hd:=hn h.t.dflt
    unfold ZpY at hn hd
    cases hg:Zsj g T.Γ with
    | none=>rw [hg] at hd; exact hd.elim
    | some eg =>
     rw [hg] at hd hn
     obtain rfl:=ZmR hg
     obtain ⟨fg,ins,pre,res,new,ok,ent⟩:=eg
     simp only at hd hn ok ent
     cases ins with
     | nil=>exact hd.elim
     | cons a0 ps =>
      have hcons:∀ x,∃ y:AD (a0 :: ps),Zij M (a0 :: ps) ([ZcT h.agg h.t x] ++ ids.map (fun i=>.c (.bp i 0)))=some y∧new y=[]∧pre y∧Zlx (res y):=fun x=>by
       have:=hn x
       cases hy:Zij M (a0 :: ps) ([ZcT h.agg h.t x] ++ ids.map (fun i=>.c (.bp i 0))) with
       | none=>rw [hy] at this; exact this.elim
       | some y =>
        rw [hy] at this
        simp only at this
        cases hnw:new y with
        | nil=>rw [hnw] at this; exact ⟨y,rfl,hnw,this.1,this.2⟩
        | cons _ _=>rw [hnw] at this; exact this.elim
      obtain ⟨y0,hy0,_⟩:=hcons h.t.dflt
      obtain ⟨_,hds⟩:=Zfk hy0
      obtain ⟨hce,hcv⟩:=Zn2 hM hds hcaps
      obtain ⟨p,hp⟩:∃ p:h.t.den→Bool,p=fun x=>match ZpY T.Γ M fg [ZcT h.agg h.t x] ids with | some (_,r)=>ZBr r | none=>false:=⟨_,rfl⟩
      have hgoal:=h.ok p xs _ X W v hM.xsz hgl.nil q1 (ZDQ hM.xsz hgl.nil hcv ent (fun x=>?_))
      ·exact Zvb
      ·obtain ⟨y,hy,hnw,hpre,hb⟩:=hcons x
       obtain ⟨he,hds'⟩:=Zfk hy
       have hy2:y.2=y0.2:=Option.some.inj (hds'.symm.trans hds)
       have hbc:=ok y hpre
       have hpx:res y=.c (.bool (p x)):=by
        rw [hp]
        unfold ZpY
        rw [hg]
        simp only [hy,hnw]
        revert hb
        generalize res y=r
        exact ZoV
       rw [hpx,hnw] at hbc
       have hel:=Zkg he
       unfold elW
       rw [hel]
       show Zaq P fg (ZmC a0 y.1 :: (ZBv ps y0.2).map CV.arg) _ _
       rw [← hce,← hy2]
       exact hbc
   ·exact hn.elim
  ·rename_i c u
   split at hn
   ·rename_i ce xs hce hxs
    obtain ⟨rfl,hTc⟩:E0=[]∧∀ c,T.C=some c→ZMx X W0 c:=hT.1.resolve_left (by rw [hce]; simp)
    obtain rfl:=Zsq hH
    obtain ⟨v,r,e,h1,v2,r2,e2,h2,h3⟩:=hr
    subst e
    subst e2
    obtain rfl:r2=[]:=h3
    obtain ⟨hu,hn,hsc⟩:=hn
    obtain rfl:v2=u:=h2.1
    subst hu
    refine ⟨h.ent,?_⟩
    have hxs':=Zik (X':=X) hM (fun b hb=>.inl hb) hxs (⟨v,[],rfl,h1,rfl⟩:Zbu X W E M [c] [v])
    obtain ⟨v',r',e',q1,_⟩:=hxs'
    obtain ⟨rfl,_⟩:v=v'∧[]=r':=by simpa using e'
    obtain ⟨p,hp⟩:∃ p:h.t.den→Bool,p=fun x=>match Zij M ce.ins [ZcT h.agg h.t x] with | some y=>ZBr (ce.res y) | none=>false:=⟨_,rfl⟩
    have hgoal:=h.ok p xs ce.u X W v hM.xsz hgl.nil q1 ⟨ce.g,ce.caps,ce.hu,ce.ent,fun W' E' x vx g hx=>?_⟩
    ·exact Zvb
    ·have hnx:=hn x
     cases hy:Zij M ce.ins [ZcT h.agg h.t x] with
     | none=>rw [hy] at hnx; exact hnx.elim
     | some y =>
      rw [hy] at hnx
      simp only at hnx
      have hpx:ce.res y=.c (.bool (p x)):=by
       rw [hp]
       try simp only [Zz6]
       simp only [hy]
       revert hnx
       generalize ce.res y=r
       exact ZoV
      have hr1:Zbv X W' [] [] [ZcT h.agg h.t x] [vx]:=⟨vx,[],rfl,ZJq hx,rfl⟩
      have hgw:Zbb W0 [] W' E':=by
       have g1:Zbb W0 [] W []:=⟨hg0.os,hg0.tape,hg0.output,hg0.size,hg0.keep,fun b hb=>by simp [foots] at hb,fun i e h=>by simp at h⟩
       exact g1.trans g
      have ha:=Zkf (X':=X) (M:=[]) (ZOD (fun b hb=>Nat.lt_of_lt_of_le (hM.xsz b hb) g.size)) (fun b hb=>.inl hb) (ZGc hy) hr1
      have:=hTc ce hce W' E' y [vx] hgw ha
      rw [hpx] at this
      exact this
   ·exact hn.elim
  ·exact hn.elim
 | none =>
  rw [hH] at hn
  simp only at hn ⊢
  cases hH2:ZqB f T.H2 with
  | some h =>
   rw [hH2] at hn
   simp only at hn ⊢
   split at hn
   ·rename_i c c2 g ids
    split at hn
    ·rename_i xs ys hxs hys
     obtain rfl:=ZtQ hH2
     obtain ⟨v,r,e,h1,v2,r2,e2,k1,v3,r3,e3,h2,h3⟩:=hr
     subst e
     subst e2
     subst e3
     obtain rfl:r3=[]:=h3
     obtain ⟨caps,rfl,hcaps⟩:=(h2:∃ vs,v3=.func (.func g) #[] vs.toArray∧Zdm E ids vs)
     obtain ⟨hn,hsc⟩:=hn
     refine ⟨h.ent,?_⟩
     have hxs':=Zik (X':=X) hM (fun b hb=>.inl hb) hxs (⟨v,[],rfl,h1,rfl⟩:Zbu X W E M [c] [v])
     obtain ⟨v',r',e',q1,_⟩:=hxs'
     obtain ⟨rfl,_⟩:v=v'∧[]=r':=by simpa using e'
     have hys':=Zik (X':=X) hM (fun b hb=>.inl hb) hys (⟨v2,[],rfl,k1,rfl⟩:Zbu X W E M [c2] [v2])
     obtain ⟨v'',r'',e'',q2,_⟩:=hys'
     obtain ⟨rfl,_⟩:v2=v''∧[]=r'':=by simpa using e''
     have hd:=hn h.t.dflt h.t.dflt
     unfold ZpY at hn hd
     cases hg:Zsj g T.Γ with
     | none=>rw [hg] at hd; exact hd.elim
     | some eg =>
      rw [hg] at hd hn
      obtain rfl:=ZmR hg
      obtain ⟨fg,ins,pre,res,new,ok,ent⟩:=eg
      simp only at hd hn ok ent
      cases ins with
      | nil=>exact hd.elim
      | cons a0 ins =>
      cases ins with
      | nil =>
       have hz:Zij M [a0] ([ZcT h.agg h.t h.t.dflt,ZcT h.agg h.t h.t.dflt] ++ ids.map (fun i=>.c (.bp i 0)))=none:=by
        show (match Zhz M a0 (ZcT h.agg h.t h.t.dflt) with | some y=>(match (none:Option Unit) with | some ys=>some (y,ys) | none=>none) | none=>none)=none
        split <;> rfl
       rw [hz] at hd
       exact hd.elim
      | cons a1 ps =>
       have hcons:∀ x y,∃ d:AD (a0 :: a1 :: ps),Zij M (a0 :: a1 :: ps) ([ZcT h.agg h.t x,ZcT h.agg h.t y] ++ ids.map (fun i=>.c (.bp i 0)))=some d∧new d=[]∧pre d∧Zlx (res d):=fun x y=>by
        have:=hn x y
        cases hy:Zij M (a0 :: a1 :: ps) ([ZcT h.agg h.t x,ZcT h.agg h.t y] ++ ids.map (fun i=>.c (.bp i 0))) with
        | none=>rw [hy] at this; exact this.elim
        | some d =>
         rw [hy] at this
         simp only at this
         cases hnw:new d with
         | nil=>rw [hnw] at this; exact ⟨d,rfl,hnw,this.1,this.2⟩
         | cons _ _=>rw [hnw] at this; exact this.elim
       obtain ⟨y0,hy0,_⟩:=hcons h.t.dflt h.t.dflt
       obtain ⟨_,hds1⟩:=Zfk hy0
       obtain ⟨_,hds⟩:=Zfk hds1
       obtain ⟨hce,hcv⟩:=Zn2 hM hds hcaps
       obtain ⟨p,hp⟩:∃ p:h.t.den→h.t.den→Bool,p=fun x y=>match ZpY T.Γ M fg [ZcT h.agg h.t x,ZcT h.agg h.t y] ids with | some (_,r)=>ZBr r | none=>false:=⟨_,rfl⟩
       have hgoal:=h.ok p xs ys _ X W v v2 hM.xsz hgl.nil q1 q2 (ZBw hM.xsz hgl.nil hcv ent (fun x y=>?_))
       ·refine hgoal.mono fun en W' hq=>?_
        obtain ⟨u,E',rfl,g,r,hv⟩:=hq
        refine ⟨u,E,rfl,ZhF g,Zim g hM,Zn3 g hM,?_⟩
        rw [hp] at hv
        exact ZnV (hsc _ _ _) hv
       ·obtain ⟨d,hy,hnw,hpre,hb⟩:=hcons x y
        obtain ⟨he,hds1'⟩:=Zfk hy
        obtain ⟨he2,hds'⟩:=Zfk hds1'
        have hy2:d.2.2=y0.2.2:=Option.some.inj (hds'.symm.trans hds)
        have hbc:=ok d hpre
        have hpx:res d=.c (.bool (p x y)):=by
         rw [hp]
         unfold ZpY
         rw [hg]
         simp only [hy,hnw]
         revert hb
         generalize res d=r
         exact ZoV
        rw [hpx,hnw] at hbc
        have hel:=Zkg he
        have hel2:=Zkg he2
        unfold elW
        rw [hel,hel2]
        show Zaq P fg (ZmC a0 d.1 :: ZmC a1 d.2.1 :: (ZBv ps y0.2.2).map CV.arg) _ _
        rw [← hce,← hy2]
        exact hbc
    ·exact hn.elim
   ·exact hn.elim
  | none =>
  rw [hH2] at hn
  simp only at hn ⊢
  cases hE:Zsj f T.Γ with
  | none=>rw [hE] at hn; exact hn.elim
  | some e =>
   rw [hE] at hn
   simp only at hn ⊢
   cases hd:Zij M e.ins args with
   | none=>rw [hd] at hn; exact hn.elim
   | some x =>
    rw [hd] at hn
    obtain rfl:=ZmR hE
    simp only at hn ⊢
    refine ⟨e.ent,?_⟩
    cases hp:ZHL e.ins || args.any ZDH with
    | true =>
     rw [hp] at hn
     simp only [cond_true] at hn ⊢
     have ha:=Zkf (X':=X) hM (fun b hb=>.inl hb) hd hr
     refine (e.ok x hn.1 X W vs hM.xsz hgl.nil ha).mono fun en W' hq=>?_
     obtain ⟨u,E',rfl,g,r,hv⟩:=hq
     obtain ⟨m,rm⟩:=ZtP g (fun b hb=>hb) hM r (.inl hn.2.2)
     exact ⟨u,E ++ E',rfl,Zn0 g hM,m,rm,ZqG hM.len (fun b hb=>hb) (.inl hn.2.1) hv⟩
    | false =>
     rw [hp] at hn
     simp only [cond_false] at hn ⊢
     rw [Bool.or_eq_false_iff] at hp
     have ha:=Zkf (X':=X ++ foots E) hM (fun b hb=>(List.mem_append.1 hb).imp id (fun h=>⟨h,hp⟩)) hd hr
     refine (e.ok x hn.1 (X ++ foots E) W vs (fun b hb=>(List.mem_append.1 hb).elim (hM.xsz b) (hM.lt b)) hgl.nil ha).mono fun en W' hq=>?_
     obtain ⟨u,E',rfl,g,r,hv⟩:=hq
     obtain ⟨m,rm⟩:=ZtP g (fun b hb=>List.mem_append_left _ hb) hM r (.inr ⟨hn.2,fun b hb=>List.mem_append_right _ hb⟩)
     exact ⟨u,E ++ E',rfl,Zn0 g hM,m,rm,ZqG hM.len (fun b hb=>List.mem_append_left _ hb) (.inr (fun b hb=>List.mem_append_right _ hb)) hv⟩
theorem Zyx {W0:World} {E0:Env} (hT:ZpZ X W0 E0 T) (hg0:Zbb W0 E0 W E) {f:FuncId} {args:List AV} {vs:List Value} (hM:RepM X W E M) (hr:Zbv X W E M args vs) (hn:(ZtG T M f args).need) :
 (∀ args w,(callFunc f args).run P w=.ok (.enter f args) w) ∧
 Calls P f vs.toArray W (fun e W'=>∃ u E',e=.returned u∧Zbb W E W' E'∧ZaK W E M W' E' (ZtG T M f args).mem∧RepM X W' E' (ZtG T M f args).mem∧Zcd X W' E' (ZtG T M f args).mem (ZtG T M f args).val u):=by
 unfold ZtG at hn ⊢
 cases hG:ZnS f args T.G with
 | some e =>
  rw [hG] at hn
  simp only at hn ⊢
  obtain rfl:=Zt6 hG
  exact ⟨e.ent,ZyF (hT.2.2.2.grow hg0) hM hr hn⟩
 | none =>
  rw [hG] at hn
  simp only at hn ⊢
  exact Zyw hT hg0 hM hr hn
theorem ZBx {fn:Operand} {f:FuncId} {ids:List Nat} (ht:Zbv X W E M tm a.tmps.toList) (h:evalA tm fn=.w (.c (.fn f ids))):∃ caps:List Value,a.eval fn=.func (.func f) #[] caps.toArray∧Zdm E ids caps:=by
 have:=Zam ht fn
 rw [h] at this
 exact this
theorem Zn4 {W0:World} {E0:Env} (hT:ZpZ X W0 E0 T) (hg:Zbb W0 E0 W E) (hM:RepM X W E M) (ht:Zbv X W E M tm a.tmps.toList) (hn:(Zjh T tm M o).need):ZGb X P o a W E M (Zjh T tm M o).val (Zjh T tm M o).mem:=by
 unfold Zjh at hn ⊢
 cases ho:o.op <;> simp only [ho] at hn ⊢
 case call c =>
  obtain ⟨cal,args,ts⟩:=c
  cases cal <;> simp only at hn ⊢
  case value fn =>
   split at hn
   ·rename_i f ids hf
    obtain ⟨caps,hfe,hcaps⟩:=ZBx ht hf
    obtain ⟨hent,hc⟩:=Zyx hT hg hM ((ZmP ht args.toList).append (ZDO hcaps)) hn
    exact ZqI ho hfe hent hc
   ·rename_i u hu
    split at hn
    ·rename_i ce hce
     obtain ⟨rfl,hTc⟩:E0=[]∧∀ c,T.C=some c→ZMx X W0 c:=hT.1.resolve_left (by rw [hce]; simp)
     split at hn
     ·rename_i x hx
      obtain ⟨hn,hsc⟩:=hn
      have he:=Zam (M:=M) ht fn
      rw [hu] at he
      have hfe:a.eval fn=.func (.func ce.g) #[] ce.caps.toArray:=by
       have:a.eval fn=u:=he.1
       rw [this,hn]
       exact ce.hu
      have ha:=Zkf (X':=X) hM (fun b hb=>.inl hb) hx (ZmP ht args.toList)
      refine ZqI ho hfe ce.ent ((hTc ce hce W E x _ hg ha).mono fun en W' hq=>?_)
      obtain ⟨v,E',rfl,g,r,hv⟩:=hq
      exact ⟨v,E,rfl,ZhF g,Zim g hM,Zn3 g hM,ZnV hsc hv⟩
     ·exact hn.elim
    ·exact hn.elim
   ·exact hn.elim
  all_goals exact (ZtC hM ht hn).toW
 all_goals exact (ZtC hM ht hn).toW
theorem ZhG:∀ {l:List MTy} {xs:List Operand} {tm:List AV} {M:Mem} {E:Env},RepM X W E M→Zbv X W E M tm a.tmps.toList →
 ∃ E',Zbb W E W E'∧ZaK W E M W E' (ZaL l xs tm M).2∧RepM X W E' (ZaL l xs tm M).2∧Zbv X W E' (ZaL l xs tm M).2 (ZaL l xs tm M).1 a.tmps.toList
 | [],xs,tm,M,E,hM,ht=>by unfold ZaL; exact ⟨E,Zbb.refl W E,ZaK.refl W E M,hM,ht⟩
 | y :: l,[],tm,M,E,hM,ht=>by
  have e:ZaL (y :: l) [] tm M=(tm,M):=by cases y <;> rfl
  rw [e]
  exact ⟨E,Zbb.refl W E,ZaK.refl W E M,hM,ht⟩
 | y :: l,x :: xs,tm,M,E,hM,ht=>by
  have go:∀ t,ZaL (y :: l) (x :: xs) tm M=ZaL l xs (Zhx tm M t).1 (Zhx tm M t).2→∃ E',Zbb W E W E'∧ZaK W E M W E' (ZaL (y :: l) (x :: xs) tm M).2∧RepM X W E' (ZaL (y :: l) (x :: xs) tm M).2∧Zbv X W E' (ZaL (y :: l) (x :: xs) tm M).2 (ZaL (y :: l) (x :: xs) tm M).1 a.tmps.toList:=fun t e=>by
   rw [e]
   obtain ⟨E1,g1,m1,r1,t1⟩:=ZoG hM ht t
   obtain ⟨E2,g2,m2,r2,t2⟩:=ZhG (l:=l) (xs:=xs) r1 t1
   exact ⟨E2,g1.trans g2,m1.trans m2,r2,t2⟩
  have stay:ZaL (y :: l) (x :: xs) tm M=ZaL l xs tm M→∃ E',Zbb W E W E'∧ZaK W E M W E' (ZaL (y :: l) (x :: xs) tm M).2∧RepM X W E' (ZaL (y :: l) (x :: xs) tm M).2∧Zbv X W E' (ZaL (y :: l) (x :: xs) tm M).2 (ZaL (y :: l) (x :: xs) tm M).1 a.tmps.toList:=fun e=>by
   rw [e]
   exact ZhG (l:=l) (xs:=xs) hM ht
  cases y with
  | q g t=>cases x <;> first | exact go _ rfl | exact stay rfl
  | g g t=>cases x <;> first | exact go _ rfl | exact stay rfl
  | a y=>exact stay rfl
  | m t=>exact stay rfl
  | e t=>exact stay rfl
  | b t=>exact stay rfl
  | f g c=>exact stay rfl
theorem ZGd (hM:RepM X W E M) (ht:Zbv X W E M tm a.tmps.toList):∃ E',Zbb W E W E'∧ZaK W E M W E' (ZDI T tm M o).2∧RepM X W E' (ZDI T tm M o).2∧Zbv X W E' (ZDI T tm M o).2 (ZDI T tm M o).1 a.tmps.toList:=by
 have stay:∃ E',Zbb W E W E'∧ZaK W E M W E' M∧RepM X W E' M∧Zbv X W E' M tm a.tmps.toList:=⟨E,Zbb.refl W E,ZaK.refl W E M,hM,ht⟩
 unfold ZDI
 split
 ·exact ZoG hM ht _
 ·split
  ·split
   ·exact ZoG hM ht _
   ·exact stay
  ·split
   ·exact ZhG hM ht
   ·exact stay
  ·exact stay
 ·exact stay
theorem ZDR (hM:RepM X W E M) (ht:Zbv X W E M tm a.tmps.toList) (hn:(ZHM (P:=P) tm M o).need):Zdv X P o a W E M (ZHM (P:=P) tm M o).val (ZHM (P:=P) tm M o).mem:=by
 unfold ZHM at hn ⊢
 cases ho:o.op <;> simp only [ho] at hn ⊢
 case slice t x lo hi mx =>
  cases mx with
  | some _=>exact hn.elim
  | none=>exact ZGp hM ht ho hn
 case call c =>
  obtain ⟨cal,xs,ts⟩:=c
  cases cal <;> simp only at hn ⊢
  case builtin b =>
   cases b <;> simp only at hn ⊢
   case clear =>
    split at hn
    ·rename_i t x hts hxs
     exact ZBD hM ht ho hxs hts hn
    ·exact hn.elim
   all_goals exact hn.elim
  all_goals exact hn.elim
 case makeMap t r =>
  cases r with
  | some _=>exact hn.elim
  | none=>exact Zuc hM ho
 case lookup t m k c =>
  cases c with
  | true=>exact hn.elim
  | false=>exact ZEe hM ht ho hn
 case mapUpdate t m k v=>exact ZGq hM ht ho hn
 case buildSlice t len parts=>exact ZGr hM ht ho hn
 case assign x=>exact ZGs hM ht ho hn
 all_goals exact hn.elim
theorem Zn5 {W0:World} {E0:Env} (hT:ZpZ X W0 E0 T) (hg:Zbb W0 E0 W E) (hM:RepM X W E M) (ht:Zbv X W E M tm a.tmps.toList) (hn:(Zcy T tm M o).need):ZGb X P o a W E M (Zcy T tm M o).val (Zcy T tm M o).mem:=by
 unfold Zcy at hn ⊢
 cases hc:Nat.beq (clsO T o) 2 with
 | false=>rw [hc] at hn; exact Zn4 hT hg hM ht hn
 | true =>
  rw [hc] at hn
  simp only [cond_true] at hn ⊢
  cases hcut:isCut T o with
  | true =>
   rw [hcut] at hn
   exact (ZDR hM ht hn).toW
  | false =>
  rw [hcut] at hn
  simp only [cond_false] at hn ⊢
  obtain ⟨E1,g1,m1,r1,t1⟩:=ZGd (T:=T) (o:=o) hM ht
  intro next Q hK
  refine Zn4 hT (hg.trans g1) r1 t1 hn next Q (fun u W' E' g m r hv=>?_)
  obtain ⟨E2,g2,m2,r2⟩:=Zuw r
  exact hK u W' E2 (g1.trans (g.trans g2)) (m1.trans (m.trans m2)) r2 (hv.mono g2 m2 r.len)
theorem ZmT {W' : World} {E' : Env} {M' : Mem} {v:AV} {u:Value} {dst:Option Tmp} (ht:Zbv X W' E' M' tm a.tmps.toList) (hv:Zcd X W' E' M' v u):Zbv X W' E' M' (ZiE tm dst v) (a.put dst u).tmps.toList:=by
 cases dst with
 | none=>exact ht
 | some d =>
  show Zbv X W' E' M' (tm.set d v) (a.tmps.setIfInBounds d u).toList
  rw [Array.toList_setIfInBounds]
  exact ht.set d hv
theorem Zin {v:Value} {dst:Option Tmp}:(a.put dst v).defers=a.defers:=by cases dst <;> rfl
theorem ZzO {l:List AV} {d:Nat} {v:AV} (h:l.getD d .any=v) (hv:v ≠ .any):l.set d v=l:=by
 rw [List.getD_eq_getElem?_getD] at h
 cases hq:l[d]? with
 | none=>rw [hq] at h; exact absurd h.symm hv
 | some x =>
  rw [hq] at h
  obtain rfl:x=v:=h
  obtain ⟨h1,h2⟩:=List.getElem?_eq_some_iff.1 hq
  rw [← h2]
  exact List.set_getElem_self h1
theorem ZqJ {all:List Oper} {j d:Nat} {g:Bool} (hd:(all[j]?).bind (·.dst)=some d) (ht:Zbv X W E M tm a.tmps.toList) (hg:tm.getD d .any=.w (.c (.bool g))):yielded all.toArray a.tmps j=some g:=by
 rw [List.getD_eq_getElem?_getD] at hg
 cases hq:tm[d]? with
 | none=>rw [hq] at hg; cases hg
 | some x =>
  rw [hq] at hg
  obtain rfl:x=_:=hg
  obtain ⟨v,h1,h2⟩:=ht.get hq
  have hv:v=.bool g:=h2
  unfold yielded
  have e1:(all.toArray[j]?).bind (·.dst)=some d:=by rw [List.getElem?_toArray]; exact hd
  have e2:a.tmps[d]?=some (.bool g):=by rw [← Array.getElem?_toList,h1,hv]
  rw [e1,Option.bind_some,e2]
theorem ZqK {all:List Oper} {j d:Nat} {l:List AW} (hd:(all[j]?).bind (·.dst)=some d) (ht:Zbv X W E M tm a.tmps.toList) (hg:tm.getD d .any=.tp l):yielded all.toArray a.tmps j=none:=by
 rw [List.getD_eq_getElem?_getD] at hg
 cases hq:tm[d]? with
 | none=>rw [hq] at hg; cases hg
 | some y =>
  rw [hq] at hg
  obtain rfl:y=.tp l:=hg
  obtain ⟨v,k1,k2⟩:=ht.get hq
  unfold yielded
  have e1:(all.toArray[j]?).bind (·.dst)=some d:=by rw [List.getElem?_toArray]; exact hd
  have e2:a.tmps[d]?=some v:=by rw [← Array.getElem?_toList,k1]
  rw [e1,Option.bind_some,e2]
  obtain ⟨vs,rfl,_⟩:=k2
  rfl
end
section
variable {P:Program} {X:List Nat} {W:World} {E:Env} {M:Mem} {a:Act} {tm:List AV} {o:Oper} {T:Tab P}
structure Zel (X:List Nat) (tm:List AV) (M:Mem) (a:Act) (W:World) (E:Env):Prop where
 mem:RepM X W E M
 tmps:Zbv X W E M tm a.tmps.toList
 dfr:a.defers=[]
theorem ZqL {all:List Oper} {os:List Oper} {Q:Exit→Act→World→Prop} (hw:Region.wanted o (yielded all.toArray a.tmps)=true) (h:o.wp P a W (wpList P all.toArray Q os) Q):wpList P all.toArray Q (o :: os) a W:=by
 unfold wpList
 rw [if_pos hw]
 exact .inl h
theorem Zjk {all:List Oper} {os:List Oper} {Q:Exit→Act→World→Prop} (hw:Region.wanted o (yielded all.toArray a.tmps)=false) (h:wpList P all.toArray Q os (a.put o.dst undef) W):wpList P all.toArray Q (o :: os) a W:=by
 unfold wpList
 rw [if_neg (by rw [hw]; exact Bool.false_ne_true)]
 exact h
theorem ZqM:Zcd X W E M Zgc undef:=⟨[],rfl,rfl⟩
theorem Zel.skip (h:Zel X tm M a W E) (dst:Option Tmp):Zel X (ZiE tm dst Zgc) M (a.put dst undef) W E:=⟨h.mem,ZmT h.tmps ZqM,by rw [Zin]; exact h.dfr⟩
theorem Zel.lit {d:Nat} {g:Bool} (h:Zel X tm M a W E) (hg:tm.getD d .any=.w (.c (.bool g))):Zel X (tm.set d (.c (.bool g))) M a W E:=by
 rw [ZzO hg (by simp)]
 exact h
theorem ZGe {q:Bool→Prop} (hM:RepM X W E M) (ht:Zbv X W E M tm a.tmps.toList) (h:ZOC P tm M o=some q):∃ b:Bool,(execOp a.eval o).run P W=.ok (.value (.bool b)) W∧q b:=by
 unfold ZOC at h
 split at h
 ·rename_i op t x yt ho
  split at h
  ·rename_i e c hu hx
   split at h
   ·rename_i L r hr
    have hp:=Zam (M:=M) (W:=W) (E:=E) ht x
    rw [hx] at hp
    obtain ⟨A,cap,F,hv,hs,_⟩:=ZgJ hM hr hp
    have hn:A.isNone=true→r.xs.length=0:=fun hA=>by
     rcases hs.2.2 with ⟨h1,_⟩ | ⟨_,b,off,G,h1,_⟩
     ·rw [h1]; rfl
     ·rw [h1] at hA; cases hA
    have hg:∀ op,(eqGuard op t x (.const (.slice none 0 0)) (.slice A r.xs.length cap) (.slice none 0 0)).run P W=.ok () W:=fun op=>by
     exact ZkT
    have he:a.eval (.const (.slice none 0 0))=.slice none 0 0:=rfl
    split at h
    ·obtain rfl:=Option.some.inj h
     refine ⟨A.isNone,?_,hn⟩
     exact Zvu
    ·obtain rfl:=Option.some.inj h
     refine ⟨!A.isNone,?_,fun hb=>hn (by simpa using hb)⟩
     exact Zvu
    ·cases h
   ·cases h
  ·cases h
 ·cases h
structure Zhl (T:Tab P) (W0:World) (E0:Env) (W:World) (E:Env) (M:Mem):Prop where
 g:Zbb W0 E0 W E
 kept:∀ i ∈ T.inp,M[i]?=some .dead∨∃ (t:Ty) (xs:List t.den) (v c:Nat) (hh:Option (Nat × Nat × Nat)),M[i]?=some (.row t xs v c hh)∧(v=0→∀ e0,E0[i]?=some e0→∃ e,E[i]?=some e∧e.val=e0.val)
theorem Zhl.step {W0 W' : World} {E0 E' : Env} {M' : Mem} (h:Zhl T W0 E0 W E M) (g:Zbb W E W' E') (m:ZaK W E M W' E' M'):Zhl T W0 E0 W' E' M':=by
 refine ⟨h.g.trans g,fun i hi=>?_⟩
 have hm:=m i
 rcases h.kept i hi with hd | ⟨t,xs,v,c,hh,h1,h2⟩
 ·rw [hd] at hm; exact .inl hm
 ·rw [h1] at hm
  rcases hm with hd | ⟨xs',v',c',hh',h3,h4,h5⟩
  ·exact .inl hd
  ·refine .inr ⟨t,xs',v',c',hh',h3,fun hv e0 he0=>?_⟩
   obtain ⟨e,q1,q2⟩:=h2 (by omega) e0 he0
   obtain ⟨e',r1,r2,_⟩:=h5 (by omega) e q1
   exact ⟨e',r1,r2.trans q2⟩
theorem Zdi {all:List Oper} {Q:Exit→Act→World→Prop} {W0:World} {E0:Env} (hT:ZpZ X W0 E0 T) {K:List AV→Mem→Prop} (hK:∀ tm M a W E,K tm M→Zel X tm M a W E→Zhl T W0 E0 W E M→Q .normal a W) :
 ∀ (os:List Oper) (tm:List AV) (M:Mem) (a:Act) (W:World) (E:Env),Zhj T all os tm M K→Zel X tm M a W E→Zhl T W0 E0 W E M→wpList P all.toArray Q os a W
 | [],tm,M,a,W,E,h,hr,hg=>hK tm M a W E h hr hg
 | o :: os,tm,M,a,W,E,h,hr,hg=>by
  have run:∀ (tm:List AV),Zel X tm M a W E→Region.wanted o (yielded all.toArray a.tmps)=true→ZF8 (Zcy T tm M o) (ZF7 o M (Zcy T tm M o).mem (fun M'=>Zhj T all os (ZiE tm o.dst (Zcy T tm M o).val) M' K))→wpList P all.toArray Q (o :: os) a W:=fun tm hr hw h=>by
   have h:=Zfh h
   refine ZqL hw (Zn5 hT hg.g hr.mem hr.tmps h.1 _ _ fun u W' E' g m r hv=>?_)
   exact Zdi hT hK os _ _ _ W' E' (Zkc h.2) ⟨r,ZmT (hr.tmps.mono g m hr.mem.len) hv,by rw [Zin]; exact hr.dfr⟩ (hg.step g m)
  unfold Zhj at h
  cases hgd:o.guard with
  | none =>
   rw [hgd] at h
   simp only at h
   split at h
   ·rename_i q hq
    obtain ⟨b,h1,h2⟩:=ZGe hr.mem hr.tmps hq
    refine ZqL (by unfold Region.wanted; rw [hgd]) ?_
    unfold Oper.wp
    rw [h1]
    exact Zdi hT hK os _ _ _ W E (h b h2) ⟨hr.mem,ZmT hr.tmps rfl,by rw [Zin]; exact hr.dfr⟩ hg
   ·exact run tm hr (by unfold Region.wanted; rw [hgd]) h
  | some jw =>
   obtain ⟨j,want⟩:=jw
   rw [hgd] at h
   simp only at h
   cases hd:(all[j]?).bind (·.dst) with
   | none=>rw [hd] at h; exact h.elim
   | some d =>
    rw [hd] at h
    simp only at h
    have wnt:∀ g,yielded all.toArray a.tmps j=some g→Region.wanted o (yielded all.toArray a.tmps)=(g == want):=fun g hy=>by
     unfold Region.wanted
     rw [hgd]
     show (yielded all.toArray a.tmps j == some want)=_
     rw [hy]
     cases g <;> cases want <;> rfl
    split at h
    ·rename_i g hq
     have hy:=ZqJ hd hr.tmps hq
     have hl:=hr.lit hq
     cases want with
     | true =>
      simp only at h
      cases g with
      | true=>exact run _ hl (by rw [wnt _ hy]; rfl) h
      | false=>exact Zjk (by rw [wnt _ hy]; rfl) (Zdi hT hK os _ _ _ W E h (hl.skip _) hg)
     | false =>
      simp only at h
      cases g with
      | true=>exact Zjk (by rw [wnt _ hy]; rfl) (Zdi hT hK os _ _ _ W E h (hl.skip _) hg)
      | false=>exact run _ hl (by rw [wnt _ hy]; rfl) h
    ·rename_i l hq
     have hy:=ZqK hd hr.tmps hq
     refine Zjk ?_ (Zdi hT hK os _ _ _ W E h (hr.skip _) hg)
     unfold Region.wanted
     rw [hgd]
     show (yielded all.toArray a.tmps j == some want)=false
     rw [hy]
     rfl
    ·exact h.elim
end
section
variable {P:Program} {X:List Nat} {W:World} {E:Env} {M:Mem} {a:Act} {tm:List AV} {o:Oper} {T:Tab P} {ops:Array Oper}
theorem ZtR {N:Mem} {i v:Nat} {r:ZfD} (h:Zcn M i v=some r):Zcn (M ++ N) i v=some r:=by
 have h1:=Zco h
 have hl:=(List.getElem?_eq_some_iff.1 h1).1
 unfold Zcn
 rw [List.getElem?_append_left hl,h1]
 simp
theorem ZhH {N:Mem}:∀ {L:Lnd},Zdu M L=true→Zdu (M ++ N) L=true
 | .no,_=>rfl
 | .at i v c,h=>by
  have h:Zc5 M i v c=true:=h
  show Zc5 (M ++ N) i v c=true
  unfold Zc5 at h ⊢
  split at h
  ·rename_i t xs cv cc hM
   exact ZoY
  ·cases h
theorem Zn6 {N:Mem} {i v:Nat} {r:ZfD} (h:ZiC M i v=some r):ZiC (M ++ N) i v=some r:=by
 unfold ZiC at h ⊢
 split at h
 ·rename_i t xs cv cc hh hM
  exact ZoY
 ·cases h
theorem Zgd {N:Mem} {i v c n k o:Nat} {r:ZfD} (h:Zb7 M i v c n k o=some r):Zb7 (M ++ N) i v c n k o=some r:=by
 unfold Zb7 at h ⊢
 split at h
 ·rename_i t xs cv cc hM
  exact ZoY
 ·cases h
theorem Zn7 {N:Mem} {c:AC} {q:Lnd × ZfD} (h:Zfa M c=some q):Zfa (M ++ N) c=some q:=by
 unfold Zfa at h ⊢
 split at h
 ·rename_i L t xs
  cases hl:Zdu M L with
  | false=>rw [hl] at h; cases h
  | true=>rw [hl] at h; simp only [ZhH hl]; exact h
 ·rename_i i v
  cases hr:Zcn M i v with
  | none=>rw [hr] at h; cases h
  | some r=>rw [hr] at h; simp only [ZtR hr]; exact h
 ·rename_i i v c n k o
  cases hr:Zb7 M i v c n k o with
  | none=>rw [hr] at h; cases h
  | some r=>rw [hr] at h; simp only [Zgd hr]; exact h
 ·cases h
theorem ZGf {N:Mem} {i:Nat} {b:Blk} (h:M[i]?=some b):(M ++ N)[i]?=some b:=by
 rw [List.getElem?_append_left (List.getElem?_eq_some_iff.1 h).1]
 exact h
theorem Zyy {n:Nat} (h:clsO T o=n) (hn:n≤1):ZJZ T o=n:=by
 unfold clsO at h
 cases hc:isCut T o with
 | true=>rw [hc] at h; simp only [cond_true] at h; omega
 | false=>rw [hc] at h; exact h
def ZOE (N:Mem) (M:Mem) (r r' : OR):Prop:=r'.need∧r'.val=r.val∧r'.mem=M ++ N∧r.mem=M
theorem ZaU {N:Mem} {p:Prop} {v:AV} (h:p):ZOE N M ⟨p,v,M⟩ ⟨p,v,M ++ N⟩:=⟨h,rfl,rfl,rfl⟩
set_option maxHeartbeats 1000000 in
theorem ZGg (N:Mem) (hc:clsO T o=0) (hn:(opA P tm M o).need):ZOE N M (opA P tm M o) (opA P tm (M ++ N) o):=by
 have hc:=Zyy hc (Nat.zero_le 1)
 unfold ZJZ at hc
 unfold opA at hn ⊢
 cases ho:o.op <;> simp only [ho] at hn hc ⊢
 case alloc=>cases hc
 case box=>cases hc
 case store=>cases hc
 case buildSlice t _ _=>exfalso; cases hf:ZtH P t <;> rw [hf] at hc <;> cases hc
 case makeSlice=>cases hc
 case move=>exact ZaU trivial
 case assign=>exact ZaU trivial
 case pick c x y=>split at hn <;> first | exact ZaU hn | exact hn.elim
 case load t x =>
  split at hn
  ·rename_i i q hx
   split at hn
   ·rename_i l hb
    simp only [ZGf hb]
    exact Zfw
   ·exact hn.elim
  ·rename_i L t' xs k q hx
   cases hL:Zdu M L with
   | false=>rw [hL] at hn; exact hn.elim
   | true =>
    simp only [hL,ZhH hL,cond_true] at hn ⊢
    exact Zfw
  ·rename_i i v n k q hx
   cases hr:Zcn M i v with
   | none=>rw [hr] at hn; exact hn.elim
   | some r =>
    simp only [hr,ZtR hr] at hn ⊢
    cases hL:Nat.beq n r.t.n with
    | false=>rw [hL] at hn; exact hn.elim
    | true =>
     simp only [hL,cond_true] at hn ⊢
     exact Zfw
  ·rename_i i v c n k o' m y q hx
   cases hr:Zb7 M i v c n k o' with
   | none=>rw [hr] at hn; exact hn.elim
   | some r =>
    simp only [hr,Zgd hr] at hn ⊢
    cases hL:Nat.beq m r.t.n with
    | false=>rw [hL] at hn; exact hn.elim
    | true =>
     simp only [hL,cond_true] at hn ⊢
     exact Zfw
  ·exact hn.elim
 case build t parts=>split at hn <;> first | exact ZaU hn | exact hn.elim
 case nilCheck x =>
  split at hn
  ·exact ZaU hn
  ·rename_i L t' xs k q hx
   cases hL:Zdu M L with
   | false=>rw [hL] at hn; exact hn.elim
   | true=>simp only [ZhH hL,cond_true]; exact ZaU trivial
  ·rename_i i v n k q hx
   cases hr:ZiC M i v with
   | none=>rw [hr] at hn; exact hn.elim
   | some r=>simp only [Zn6 hr,Option.isSome,cond_true]; exact ZaU trivial
  ·rename_i i v c n k o' m y q hx
   cases hr:Zb7 M i v c n k o' with
   | none=>rw [hr] at hn; exact hn.elim
   | some r=>simp only [Zgd hr,Option.isSome,cond_true]; exact ZaU trivial
  ·exact ZaU hn
  ·exact hn.elim
 case binOp=>exact ZaU hn
 case unOp op t x=>cases op <;> simp only at hn ⊢ <;> first | exact hn.elim | (split at hn <;> first | exact ZaU hn | exact hn.elim)
 case convert s d x =>
  split at hn
  ·exact ZaU hn
  ·rename_i c hd hx
   split at hn
   ·rename_i e hs
    cases hu:ZJW P e with
    | false=>rw [hu] at hn; exact hn.elim
    | true =>
     simp only [hu,cond_true] at hn ⊢
     cases hst:Zyj M c with
     | none=>rw [hst] at hn; exact hn.elim
     | some xs =>
      rw [hst] at hn
      simp only [ZEt (fun q hq=>Zn7 hq) hst]
      exact ZaU hn
   ·exact hn.elim
  ·exact hn.elim
 case makeFunc fn first captured=>cases fn <;> simp only at hn ⊢ <;> first | exact hn.elim | (split at hn <;> first | exact ZaU hn | exact hn.elim)
 case slice t x lo hi mx =>
  cases mx with
  | some _=>exact hn.elim
  | none =>
   simp only at hn ⊢
   split at hn
   ·exact Zfw
   ·split at hn
    ·rename_i c hx
     cases hr:Zfa M c with
     | none=>rw [hr] at hn; exact hn.elim
     | some q =>
      simp only [hr,Zn7 hr] at hn ⊢
      exact ZaU hn
    ·exact hn.elim
   ·exact hn.elim
 case fieldAddr s x n =>
  split at hn
  ·rename_i f hf
   cases hz:Nat.beq (Zbg P f.type) 0 with
   | true=>rw [hz] at hn; exact hn.elim
   | false =>
    rw [hz] at hn
    simp only [cond_false] at hn ⊢
    split at hn
    ·exact ZaU hn
    ·rename_i L t' xs k q hx
     cases hL:Zdu M L with
     | false=>rw [hL] at hn; exact hn.elim
     | true=>simp only [ZhH hL,cond_true]; exact ZaU trivial
    ·rename_i i v n k q hx
     cases hr:ZiC M i v with
     | none=>rw [hr] at hn; exact hn.elim
     | some r=>simp only [Zn6 hr,Option.isSome,cond_true]; exact ZaU trivial
    ·rename_i i v c n k o' m y q hx
     cases hr:Zb7 M i v c n k o' with
     | none=>rw [hr] at hn; exact hn.elim
     | some r=>simp only [Zgd hr,Option.isSome,cond_true]; exact ZaU trivial
    ·exact hn.elim
  ·exact hn.elim
 case indexAddr t x i =>
  split at hn
  ·rename_i e L t' xs k n hu hx hi
   cases hL:Zdu M L with
   | false=>rw [hL] at hn; exact hn.elim
   | true =>
    simp only [hL,ZhH hL,cond_true] at hn ⊢
    exact ZaU hn
  ·rename_i e i v k n hu hx hi
   cases hr:ZiC M i v with
   | none=>rw [hr] at hn; exact hn.elim
   | some r =>
    simp only [hr,Zn6 hr] at hn ⊢
    exact ZaU hn
  ·rename_i e i v c n' k' o' k n hu hx hi
   cases hr:Zb7 M i v c n' k' o' with
   | none=>rw [hr] at hn; exact hn.elim
   | some r =>
    simp only [hr,Zgd hr] at hn ⊢
    exact ZaU hn
  ·exact hn.elim
 case index t x i=>split at hn <;> first | exact ZaU hn | exact hn.elim
 case field s x f =>
  split at hn
  ·split at hn
   ·exact Zfw
   ·exact hn.elim
  ·exact hn.elim
 case extract x n =>
  split at hn
  ·exact Zfw
  ·exact hn.elim
 case call c =>
  obtain ⟨cal,xs,ts⟩:=c
  cases cal <;> simp only at hn hc ⊢ <;> try exact hn.elim
  rename_i b
  cases b <;> simp only at hn hc ⊢ <;> try exact hn.elim
  case append=>cases hc
  case len =>
   split at hn
   ·split at hn
    ·exact ZaU hn
    ·exact ZaU hn
    ·rename_i e c _ hu hx
     cases hr:Zfa M c with
     | none=>rw [hr] at hn; exact hn.elim
     | some q =>
      simp only [hr,Zn7 hr] at hn ⊢
      exact ZaU hn
    ·exact hn.elim
   ·exact hn.elim
  case min=>split at hn <;> first | exact ZaU hn | exact hn.elim
  case max=>split at hn <;> first | exact ZaU hn | exact hn.elim
 all_goals exact hn.elim
theorem Zn8 (hc:clsO T o≤1):Zcy T tm M o=Zjh T tm M o:=by
 unfold Zcy
 have:Nat.beq (clsO T o) 2=false:=by
  cases h:Nat.beq (clsO T o) 2 with
  | false=>rfl
  | true=>have:=Nat.eq_of_beq_eq_true h; omega
 rw [this]
 rfl
theorem ZqN (hc:clsO T o=0):Zcy T tm M o=opA P tm M o:=by
 rw [Zn8 (by omega)]
 unfold Zjh
 have hc:=Zyy hc (Nat.zero_le 1)
 unfold ZJZ at hc
 cases ho:o.op <;> simp only [ho] at hc ⊢
 case call c =>
  obtain ⟨cal,xs,ts⟩:=c
  cases cal <;> first | rfl | skip
  all_goals try (cases hc; done)
  rename_i fn
  cases fn <;> first | (cases hc; done) | skip
  rename_i f
  exfalso
  have hc:(match findM f T.G with | some _=>2 | none=>1)=0:=hc
  split at hc <;> cases hc
theorem Zio (N:Mem) (hc:clsO T o=0) (hn:(Zcy T tm M o).need):ZOE N M (Zcy T tm M o) (Zcy T tm (M ++ N) o):=by
 rw [ZqN hc] at hn ⊢
 rw [ZqN hc]
 exact ZGg N hc hn
theorem ZDS {f:FuncId} {args:List AV} (hn:(Zp1 T M f args).need):∃ N,(Zp1 T M f args).mem=M ++ N:=by
 unfold Zp1 at hn ⊢
 cases hH:ZBs f T.H with
 | some h =>
  rw [hH] at hn
  simp only at hn ⊢
  split at hn
  ·exact Zo1
  ·exact Zo1
  ·exact hn.elim
 | none =>
  rw [hH] at hn
  simp only at hn ⊢
  cases hH2:ZqB f T.H2 with
  | some h =>
   rw [hH2] at hn
   simp only at hn ⊢
   split at hn
   ·exact Zo1
   ·exact hn.elim
  | none =>
  rw [hH2] at hn
  simp only at hn ⊢
  cases hE:Zsj f T.Γ with
  | none=>rw [hE] at hn; exact hn.elim
  | some e =>
   rw [hE] at hn
   simp only at hn ⊢
   cases hd:Zij M e.ins args with
   | none=>rw [hd] at hn; exact hn.elim
   | some x =>
    simp only
    cases hp:ZHL e.ins || args.any ZDH with
    | true=>exact ⟨e.new x,rfl⟩
    | false=>exact ⟨e.new x,rfl⟩
theorem Zn9:∀ {t:Ty} {l:List AC} {x:t.den} {r:List AC} {js:List Nat},t.flat=true→ZB8 M t l=some (x,r,js)→js=[]
 | .int k,l,x,r,js,_,h=>by
  have h:Ztp k l=some (x,r,js):=h
  unfold Ztp at h
  all_goals exact ZkM
 | .bool,l,x,r,js,_,h=>by
  have h:ZnN l=some (x,r,js):=h
  unfold ZnN at h
  all_goals exact ZkM
 | .opq,l,x,r,js,_,h=>by
  have h:Ztr l=some (x,r,js):=h
  unfold Ztr at h
  all_goals exact ZkM
 | .str,l,x,r,js,_,h=>by
  have h:Ztq l=some (x,r,js):=h
  unfold Ztq at h
  all_goals exact ZkM
 | .list _,_,_,_,_,hf,_=>by cases hf
 | .prod a b,l,x,r,js,hf,h=>by
  have hf:(a.flat && b.flat)=true:=hf
  rw [Bool.and_eq_true] at hf
  unfold ZB8 at h
  cases ha:ZB8 M a l with
  | none=>rw [ha] at h; cases h
  | some q =>
   obtain ⟨y,l1,j1⟩:=q
   rw [ha] at h
   simp only at h
   cases hb:ZB8 M b l1 with
   | none=>rw [hb] at h; cases h
   | some q =>
    obtain ⟨z,r2,j2⟩:=q
    rw [hb] at h
    injection h with h
    injection h with h1 h2
    injection h2 with h3 h4
    rw [← h4,Zn9 hf.1 ha,Zn9 hf.2 hb]
    rfl
theorem Zkh {t:Ty} (hf:t.flat=true):∀ {l:List (Nat × AV)} {k:Nat} {ys:List t.den} {js:List Nat},Zei M t k l=some (ys,js)→js=[]
 | [],_,_,_,h=>by injection h with h; injection h with h1 h2; exact h2.symm
 | (i,x) :: l,k,ys,js,h=>by
  unfold Zei at h
  cases hb:Nat.beq i k with
  | false=>rw [hb] at h; cases h
  | true =>
   rw [hb] at h
   simp only [cond_true] at h
   cases hv:ZHH M t x with
   | none=>rw [hv] at h; cases h
   | some q =>
    obtain ⟨y,j1⟩:=q
    rw [hv] at h
    simp only at h
    cases hp:Zei M t (k + 1) l with
    | none=>rw [hp] at h; cases h
    | some q =>
     obtain ⟨zs,j2⟩:=q
     rw [hp] at h
     injection h with h
     injection h with h1 h2
     have e2:=Zkh hf hp
     have e1:j1=[]:=by
      unfold ZHH at hv
      split at hv
      ·split at hv
       ·rename_i hq
        injection hv with hv
        injection hv with _ h3
        rw [← h3]
        exact Zn9 hf hq
       ·cases hv
      ·cases hv
     rw [← h2,e1,e2]
     rfl
theorem ZDT (hc:clsO T o≤1) (hn:(Zcy T tm M o).need):∃ N,(Zcy T tm M o).mem=M ++ N:=by
 by_cases h0:clsO T o=0
 ·exact ⟨[],by rw [List.append_nil]; exact (Zio [] h0 hn).2.2.2⟩
 ·rw [Zn8 hc] at hn ⊢
  unfold Zjh at hn ⊢
  have hcq:=Zyy rfl hc
  rw [← hcq] at hc h0
  clear hcq
  unfold ZJZ at hc h0
  cases ho:o.op <;> simp only [ho] at hc h0 hn ⊢ <;> try exact (h0 trivial).elim
  case store=>omega
  case buildSlice t len parts =>
   have hfl:ZtH P t=true:=by
    cases hf:ZtH P t with
    | true=>rfl
    | false=>rw [hf] at hc; exact absurd hc (by decide)
   unfold ZtH at hfl
   unfold opA at hn ⊢
   simp only [ho] at hn ⊢
   split at hfl
   ·rename_i e hu
    simp only [hu] at hn ⊢
    split at hfl
    ·rename_i tt htt
     simp only [htt] at hn ⊢
     split at hn
     ·rename_i ys js hp
      have:=Zkh hfl hp
      subst this
      cases hcnd:(Zfz P e tt.n && Nat.ble (len * tt.n) 16777216) && (Nat.beq len parts.size && ZaW []) with
      | false=>rw [hcnd] at hn; exact hn.elim
      | true=>simp only [hcnd,cond_true]; exact ⟨_,rfl⟩
     ·rw [hfl] at hn
      exact hn.elim
    ·cases hfl
   ·cases hfl
  case makeSlice t l c =>
   unfold opA at hn ⊢
   simp only [ho] at hn ⊢
   split at hn
   ·split at hn
    ·rename_i tt z htt hz
     cases hcnd:z.cells.toList.all Zhw && Zfz P _ tt.n with
     | false=>rw [hcnd] at hn; exact hn.elim
     | true =>
      simp only [hcnd,cond_true] at hn ⊢
      split at hn
      ·exact ⟨_,rfl⟩
      ·exact hn.elim
    ·exact hn.elim
   ·exact hn.elim
  case alloc e =>
   unfold opA at hn ⊢
   simp only [ho] at hn ⊢
   split at hn
   ·rename_i z hz
    cases hok:z.cells.toList.all Zhw with
    | false=>rw [hok] at hn; exact hn.elim
    | true=>exact ⟨_,rfl⟩
   ·exact hn.elim
  case box e x =>
   unfold opA at hn ⊢
   simp only [ho] at hn ⊢
   split at hn
   ·exact ⟨_,rfl⟩
   ·exact hn.elim
  case call c =>
   obtain ⟨cal,xs,ts⟩:=c
   cases cal <;> simp only at hc h0 hn ⊢
   case value fn =>
    cases fn <;> simp only at hc h0 <;> try (omega; done)
    rename_i f
    have hc:(match findM f T.G with | some _=>2 | none=>1)≤1:=hc
    cases hG:findM f T.G with
    | some e=>rw [hG] at hc; exact absurd (show 2≤1 from hc) (by decide)
    | none =>
     have e1:evalA tm (.func f)=.w (.c (.fn f [])):=rfl
     rw [e1] at hn ⊢
     simp only at hn ⊢
     unfold ZtG at hn ⊢
     rw [Zoi hG] at hn ⊢
     exact ZDS hn
   case builtin b=>cases b <;> simp only at hc h0 <;> first | omega | exact (h0 trivial).elim | exact (h0 rfl).elim
   all_goals omega
theorem ZtS {tm' : List AV} (h:∀ x ∈ o.op.operands,evalA tm x=evalA tm' x):opA P tm M o=opA P tm' M o:=by
 unfold opA
 cases ho:o.op <;> simp only [ho,Op.operands] at h ⊢
 case makeFunc fn first captured =>
  have:captured.toList.map (evalA tm)=captured.toList.map (evalA tm'):=List.map_congr_left fun x hx=>h x (by simp at hx ⊢; exact .inr hx)
  cases fn <;> simp only [this]
 case unOp op t x =>
  have:=h x (by simp)
  cases op <;> simp only [this]
 case slice t x lo hi mx=>cases lo <;> cases hi <;> cases mx <;> simp_all
 case call c =>
  obtain ⟨cal,args,ts⟩:=c
  simp only [Call.operands] at h
  cases cal <;> simp only at h ⊢
  rename_i b
  have hm:args.toList.map (evalA tm)=args.toList.map (evalA tm'):=List.map_congr_left fun x hx=>h x (by simp at hx ⊢; exact hx)
  have hmem:∀ x ∈ args.toList,evalA tm x=evalA tm' x:=fun x hx=>h x (by simp at hx ⊢; exact hx)
  cases b <;> simp only [hm] <;> try rfl
  case append =>
   cases hts:ts.toList with
   | nil=>rfl
   | cons t l =>
    cases l with
    | nil=>rfl
    | cons t2 l =>
     cases l with
     | cons _ _=>rfl
     | nil =>
      cases hxs:args.toList with
      | nil=>rfl
      | cons x k =>
       cases k with
       | nil=>rfl
       | cons y k =>
        cases k with
        | cons _ _=>rfl
        | nil=>simp only [hmem x (by rw [hxs]; simp),hmem y (by rw [hxs]; simp)]
  case len =>
   cases hts:ts.toList with
   | nil=>rfl
   | cons t l =>
    cases l with
    | cons _ _=>rfl
    | nil =>
     cases hxs:args.toList with
     | nil=>rfl
     | cons x k =>
      cases k with
      | cons _ _=>rfl
      | nil=>simp only [hmem x (by rw [hxs]; simp)]
 case build t parts =>
  exact ZoS
 case buildSlice t len parts =>
  exact ZoS
 all_goals first | rfl | (simp_all; done)
theorem Zyz {tm' : List AV} (hc:clsO T o≤1) (h:∀ x ∈ o.op.operands,evalA tm x=evalA tm' x):Zcy T tm M o=Zcy T tm' M o:=by
 have h2:=ZtS (P:=P) (M:=M) h
 rw [Zn8 hc,Zn8 hc]
 exact ZuW
theorem ZtT {dst:Option Tmp} {v:AV} {x:Operand} (h:∀ d,dst=some d→x ≠ .tmp d):evalA (ZiE tm dst v) x=evalA tm x:=by
 cases dst with
 | none=>rfl
 | some d =>
  cases x with
  | tmp t =>
   have hne:d ≠ t:=fun e=>h d rfl (by rw [e])
   exact Zvt
  | const v=>rfl
  | global g=>rfl
  | func f=>rfl
theorem ZDU {dst:Option Tmp} {v:AV} (hc:clsO T o≤1) (h:∀ d,dst=some d→d ∉ o.looksAt ops):Zcy T (ZiE tm dst v) M o=Zcy T tm M o :=
 Zyz hc fun x hx=>ZtT fun d hd hxd=>h d hd (by
  subst hxd
  exact List.mem_append_left _ (List.mem_filterMap.2 ⟨.tmp d,by simpa using hx,rfl⟩))
theorem Zoa {d:Nat} {v:AV} {t:Nat} (h:d ≠ t):Zhx (tm.set d v) M t=((Zhx tm M t).1.set d v,(Zhx tm M t).2):=by
 unfold Zhx
 rw [List.getElem?_set_ne h]
 cases tm[t]? with
 | none=>rfl
 | some x =>
  simp only
  cases liftV M x with
  | none=>rfl
  | some p=>simp only; rw [List.set_comm _ _ h]
theorem ZhI {d:Nat} {v:AV}:∀ (l:List MTy) (xs:List Operand) (tm:List AV) (M:Mem),(∀ x ∈ xs,x ≠ .tmp d)→ZaL l xs (tm.set d v) M=((ZaL l xs tm M).1.set d v,(ZaL l xs tm M).2)
 | [],_,_,_,_=>by unfold ZaL; rfl
 | y :: l,[],tm,M,_=>by
  have e:∀ tm,ZaL (y :: l) [] tm M=(tm,M):=fun tm=>by cases y <;> rfl
  rw [e,e]
 | y :: l,x :: xs,tm,M,h=>by
  have h' : ∀ x ∈ xs,x ≠ .tmp d:=fun x hx=>h x (List.mem_cons_of_mem _ hx)
  have go:∀ t,d ≠ t→(∀ tm,ZaL (y :: l) (x :: xs) tm M=ZaL l xs (Zhx tm M t).1 (Zhx tm M t).2)→ZaL (y :: l) (x :: xs) (tm.set d v) M=((ZaL (y :: l) (x :: xs) tm M).1.set d v,(ZaL (y :: l) (x :: xs) tm M).2):=fun t ht e=>by
   rw [e,e,Zoa ht]
   exact ZhI l xs _ _ h'
  have stay:(∀ tm,ZaL (y :: l) (x :: xs) tm M=ZaL l xs tm M)→ZaL (y :: l) (x :: xs) (tm.set d v) M=((ZaL (y :: l) (x :: xs) tm M).1.set d v,(ZaL (y :: l) (x :: xs) tm M).2):=fun e=>by
   rw [e,e]
   exact ZhI l xs _ _ h'
  have hx:=h x List.mem_cons_self
  cases y <;> cases x <;> first
   | exact stay fun tm=>rfl
   | exact go _ (fun q=>hx (by rw [q])) fun tm=>rfl
theorem ZGh {d:Nat} {v:AV} (h:∀ x ∈ o.op.operands,x ≠ .tmp d):ZDI T (tm.set d v) M o=((ZDI T tm M o).1.set d v,(ZDI T tm M o).2):=by
 unfold ZDI
 cases ho:o.op <;> simp only [ho,Op.operands] at h ⊢
 case store t p x =>
  cases p with
  | tmp p=>exact Zoa fun q=>h (.tmp p) (by simp) (by rw [q])
  | const v=>rfl
  | global g=>rfl
  | func f=>rfl
 case call c =>
  obtain ⟨cal,args,ts⟩:=c
  simp only [Call.operands] at h
  cases cal <;> simp only at h ⊢
  case builtin b =>
   cases b <;> simp only
   case append =>
    cases ha:args.toList with
    | nil=>rfl
    | cons x xs =>
     have hx:=h x (by simp; exact Array.mem_toList_iff.1 (by rw [ha]; exact List.mem_cons_self))
     cases x with
     | tmp t=>exact Zoa fun q=>hx (by rw [q])
     | const v=>rfl
     | global g=>rfl
     | func f=>rfl
  case value fn =>
   cases fn with
   | func f =>
    simp only
    cases findM f T.G with
    | none=>rfl
    | some e=>exact ZhI _ _ _ _ fun x hx=>h x (by simp at hx ⊢; exact .inr hx)
   | tmp t=>rfl
   | const v=>rfl
   | global g=>rfl
theorem Zob {tm' : List AV} (h:∀ x ∈ o.op.operands,evalA tm x=evalA tm' x):Zjh T tm M o=Zjh T tm' M o:=by
 have h2:=ZtS (P:=P) (M:=M) h
 exact ZuW
theorem ZBy {tm' : List AV} (h:∀ x ∈ o.op.operands,evalA tm x=evalA tm' x):ZHM (P:=P) tm M o=ZHM (P:=P) tm' M o:=by
 unfold ZHM
 cases ho:o.op <;> simp only [ho,Op.operands] at h ⊢
 case slice t x lo hi mx =>
  cases mx with
  | some m=>rfl
  | none =>
   simp only
   rw [h x (by simp)]
   have e1:lo.map (evalA tm)=lo.map (evalA tm'):=by
    cases lo with
    | none=>rfl
    | some y=>exact congrArg some (h y (by simp))
   have e2:hi.map (evalA tm)=hi.map (evalA tm'):=by
    cases hi with
    | none=>rfl
    | some y=>exact congrArg some (h y (by simp))
   rw [e1,e2]
 case call c =>
  obtain ⟨cal,args,ts⟩:=c
  simp only [Call.operands] at h
  cases cal <;> simp only at h ⊢
  case builtin b =>
   cases b <;> simp only
   case clear =>
    cases hts:ts.toList with
    | nil=>rfl
    | cons t l =>
     cases l with
     | cons _ _=>rfl
     | nil =>
      cases ha:args.toList with
      | nil=>rfl
      | cons x xs =>
       cases xs with
       | cons _ _=>rfl
       | nil=>simp only; rw [h x (by simp; exact Array.mem_toList_iff.1 (by rw [ha]; exact List.mem_cons_self))]
 case makeMap t r=>cases r <;> rfl
 case lookup t m k c =>
  cases c with
  | true=>rfl
  | false=>show Zyt P M t (evalA tm m) (evalA tm k)=Zyt P M t (evalA tm' m) (evalA tm' k); rw [h m (by simp),h k (by simp)]
 case mapUpdate t m k v=>show ZJl P M t (evalA tm m) (evalA tm k) (evalA tm v)=ZJl P M t (evalA tm' m) (evalA tm' k) (evalA tm' v); rw [h m (by simp),h k (by simp),h v (by simp)]
 case assign x=>rw [h x (by simp)]
 case buildSlice t len parts =>
  exact ZoS
theorem Zl6 {dst:Option Tmp} {v:AV} (h:∀ d,dst=some d→d ∉ o.looksAt ops):Zcy T (ZiE tm dst v) M o=Zcy T tm M o:=by
 cases dst with
 | none=>rfl
 | some d =>
  have hd:∀ x ∈ o.op.operands,x ≠ .tmp d:=fun x hx hxd=>h d rfl (by
   subst hxd
   exact List.mem_append_left _ (List.mem_filterMap.2 ⟨.tmp d,by simpa using hx,rfl⟩))
  have ev:∀ tm:List AV,∀ x ∈ o.op.operands,evalA (tm.set d v) x=evalA tm x:=fun tm x hx =>
   ZtT (dst:=some d) (v:=v) fun e he hxd=>hd x hx (by rw [hxd,Option.some.inj he])
  show Zcy T (tm.set d v) M o=_
  unfold Zcy
  cases Nat.beq (clsO T o) 2 with
  | false=>exact Zob (ev tm)
  | true =>
   cases isCut T o with
   | true=>exact ZBy (ev tm)
   | false =>
    show (let g:=ZDI T (tm.set d v) M o; let r:=Zjh T g.1 g.2 o; (⟨r.need,r.val,ZmO r.mem⟩:OR))=_
    rw [ZGh hd]
    simp only
    rw [Zob (ev _)]
    rfl
theorem ZDV {M' : Mem} (h:ZtJ o=true):(Zcy T tm M o).need=(Zcy T tm M' o).need∧(Zcy T tm M o).val=(Zcy T tm M' o).val:=by
 unfold ZtJ at h
 cases ho:o.op <;> rw [ho] at h <;> try cases h
 have e:∀ M,Zcy T tm M o=Zjh T tm M o:=fun M=>Zn8 (by unfold clsO isCut ZJZ; rw [ho]; exact Nat.zero_le _)
 rw [e,e]
 unfold Zjh
 rw [ho]
 show (opA P tm M o).need=(opA P tm M' o).need∧(opA P tm M o).val=(opA P tm M' o).val
 unfold opA
 rw [ho]
 exact ⟨rfl,rfl⟩
def ZmE (ops:Array Oper) (o:Oper) (tm:List AV):Option Bool :=
 match o.guard with
 | none=>some true
 | some (j,want)=>match (ops[j]?).bind (·.dst) with
  | some d=>match tm.getD d .any with
   | .w (.c (.bool g))=>some (g == want)
   | .tp _=>some false
   | _=>none
  | none=>none
theorem Zoc {dst:Option Tmp} {v:AV} (h:∀ d,dst=some d→d ∉ o.looksAt ops):ZmE ops o (ZiE tm dst v)=ZmE ops o tm:=by
 unfold ZmE
 cases hg:o.guard with
 | none=>rfl
 | some gw =>
  obtain ⟨j,want⟩:=gw
  simp only
  cases ht:(ops[j]?).bind (·.dst) with
  | none=>rfl
  | some t =>
   have:(ZiE tm dst v).getD t .any=tm.getD t .any:=by
    cases dst with
    | none=>rfl
    | some d =>
     have hne:d ≠ t:=fun e=>h d rfl (by subst e; simp [Oper.looksAt,hg,ht])
     exact Zvt
   simp only [this]
theorem ZtU {x y:Option Tmp} (v u:AV) (h:∀ d,x=some d→y ≠ some d):ZiE (ZiE tm x v) y u=ZiE (ZiE tm y u) x v:=by
 cases x with
 | none=>rfl
 | some d =>
  cases y with
  | none=>rfl
  | some e =>
   have hne:d ≠ e:=fun q=>h d rfl (by rw [q])
   show (tm.set d v).set e u=(tm.set e u).set d v
   rw [List.set_comm _ _ hne]
def qA (T:Tab P) (ops:Array Oper) (i:Nat) (K:List AV→Mem→Prop) (tm:List AV) (M:Mem):Prop :=
 match ops[i]? with
 | none=>K tm M
 | some o=>match ZmE ops o tm with
  | some true=>(Zcy T tm M o).need∧K (ZiE tm o.dst (Zcy T tm M o).val) (Zcy T tm M o).mem
  | some false=>K (ZiE tm o.dst Zgc) M
  | none=>False
theorem Zss {i:Nat} {K K' : List AV→Mem→Prop} (h:∀ a m,K a m→K' a m) (hh:qA T ops i K tm M):qA T ops i K' tm M:=by
 unfold qA at *
 split
 ·rename_i ho; simp only [ho] at hh; exact h _ _ hh
 ·rename_i o ho
  simp only [ho] at hh
  split
  ·rename_i hw; simp only [hw] at hh; exact ⟨hh.1,h _ _ hh.2⟩
  ·rename_i hw; simp only [hw] at hh; exact h _ _ hh
  ·rename_i hw; simp only [hw] at hh
def ZGi (T:Tab P) (ops:Array Oper) (Q:List AV→Mem→Prop):Nat→Array Bool→List AV→Mem→Prop
 | 0,listed,tm,M=>Region.ready .any ops listed=[]∧Q tm M
 | fuel + 1,listed,tm,M=>(Region.ready .any ops listed=[]→Q tm M)∧∀ i ∈ Region.ready .any ops listed,qA T ops i (ZGi T ops Q fuel (listed.setIfInBounds i true)) tm M
def Yld (T:Tab P) (ops:Array Oper) (o:Oper) (v:AV) (tm:List AV) (M:Mem):Prop :=
 (ZmE ops o tm=some true∧(Zcy T tm M o).need∧v=(Zcy T tm M o).val)∨(ZmE ops o tm=some false∧v=Zgc)
theorem Yld.qA {i:Nat} {v:AV} (hi:ops[i]?=some o) (hc:clsO T o=0) (hy:Yld T ops o v tm M) {K:List AV→Mem→Prop} (h:K (ZiE tm o.dst v) M):qA T ops i K tm M:=by
 unfold Go.Proofs.YtkeglpnnedflnaaGreatDoor.qA
 try simp only [Zz6]
 simp only [hi]
 rcases hy with ⟨hw,hv,rfl⟩ | ⟨hw,rfl⟩
 ·simp only [hw]; exact ⟨hv,by rw [(Zio [] hc hv).2.2.2]; exact h⟩
 ·simp only [hw]; exact h
theorem ZLX {j:Nat} {oi oj:Oper} {v:AV} (hj:ops[j]?=some oj) (hap:oi.apart ops oj=true) (hci:clsO T oi=0) (hcj:clsO T oj≤1∨ZtJ oi=true) {K:List AV→Mem→Prop} (hy:Yld T ops oi v tm M) (h:qA T ops j K (ZiE tm oi.dst v) M) :
 qA T ops j (fun a' m'=>Yld T ops oi v a' m'∧K (ZiE a' oi.dst v) m') tm M:=by
 obtain ⟨h1,h2,h3⟩:=Oper.apart_spec hap
 have keep:∀ u N,Yld T ops oi v (ZiE tm oj.dst u) (M ++ N):=fun u N=>by
  unfold Yld
  rw [Zoc h3,ZDU (by omega) h3]
  rcases hy with ⟨hw,hv,rfl⟩ | hy
  ·obtain ⟨m1,m2,_,_⟩:=Zio N hci hv
   exact .inl ⟨hw,m1,m2.symm⟩
  ·exact .inr hy
 have keepP:ZtJ oi=true→∀ u M',Yld T ops oi v (ZiE tm oj.dst u) M':=fun hp u M'=>by
  unfold Yld
  rw [Zoc h3,Zl6 h3]
  rcases hy with ⟨hw,hv,rfl⟩ | hy
  ·obtain ⟨m1,m2⟩:=ZDV (T:=T) (tm:=tm) (M:=M) (M':=M') hp
   exact .inl ⟨hw,by rw [← m1]; exact hv,m2⟩
  ·exact .inr hy
 unfold qA at *
 simp only [hj] at *
 rw [Zoc h1,Zl6 h1] at h
 split
 ·rename_i hw
  simp only [hw] at h
  refine ⟨h.1,?_,by rw [← ZtU _ _ h2]; exact h.2⟩
  rcases hcj with hcj | hp
  ·obtain ⟨N,hN⟩:=ZDT hcj h.1
   rw [hN]; exact keep _ N
  ·exact keepP hp _ _
 ·rename_i hw
  simp only [hw] at h
  exact ⟨by have:=keep Zgc []; rwa [List.append_nil] at this,by rw [← ZtU _ _ h2]; exact h⟩
 ·rename_i hw
  simp only [hw] at h
def Zod (ops:Array Oper) (listed:Array Bool):Prop:=∀ (j:Nat) (o:Oper),ops[j]?=some o→listed.getD j false=true→∀ e ∈ o.after,Region.binds .any e=true→listed.getD e.on false=true
inductive ZJr (ops:Array Oper):Nat→Nat→Prop where
 | one {j:Nat} {o:Oper} {e:Edge}:ops[j]?=some o→e ∈ o.after→Region.binds .any e=true→ZJr ops e.on j
 | tr {i j:Nat} {o:Oper} {e:Edge}:ops[j]?=some o→e ∈ o.after→Region.binds .any e=true→ZJr ops i e.on→ZJr ops i j
theorem ZBz {listed:Array Bool} (hcl:Zod ops listed) {i j:Nat} (h:ZJr ops i j):listed.getD j false=true→listed.getD i false=true:=by
 induction h with
 | one h1 h2 h3=>exact fun hj=>hcl _ _ h1 hj _ h2 h3
 | tr h1 h2 h3 _ ih=>exact fun hj=>ih (hcl _ _ h1 hj _ h2 h3)
theorem ZtV {N R i:Nat}:∀ {l:List Edge},(ZDL N R l).testBit i=true→∃ e ∈ l,Region.binds .any e=true∧(e.on=i∨R.testBit (e.on * N + i)=true)
 | [],h=>by
  have h:Nat.testBit 0 i=true:=h
  rw [Nat.zero_testBit] at h
  cases h
 | e :: l,h=>by
  have h:(ZDL N R l ||| (bif Region.binds .any e then (1 <<< e.on) ||| (R >>> (e.on * N)) else 0)).testBit i=true:=h
  rw [Nat.testBit_or,Bool.or_eq_true] at h
  rcases h with h | h
  ·obtain ⟨e',h1,h2⟩:=ZtV h
   exact ⟨e',List.mem_cons_of_mem _ h1,h2⟩
  ·cases hb:Region.binds .any e with
   | false =>
    rw [hb,cond_false,Nat.zero_testBit] at h
    cases h
   | true =>
    rw [hb,cond_true,Nat.testBit_or,Bool.or_eq_true] at h
    refine ⟨e,List.mem_cons_self ..,hb,h.imp (fun h=>?_) (fun h=>?_)⟩
    ·rw [Nat.testBit_shiftLeft,Bool.and_eq_true,Nat.testBit_one_eq_true_iff_self_eq_zero,decide_eq_true_eq] at h
     omega
    ·rw [Nat.testBit_shiftRight] at h
     exact h
theorem ZzP:∀ {l:List Oper} {j R:Nat},ops.toList.drop j=l→(∀ k i,i < ops.size→R.testBit (k * ops.size + i)=true→ZJr ops i k)→∀ k i,i < ops.size→(ZOA ops.size l j R).testBit (k * ops.size + i)=true→ZJr ops i k
 | [],_,_,_,hR=>hR
 | o :: l,j,R,hl,hR=>by
  have ho:ops[j]?=some o:=by
   have:=congrArg (fun x=>x[0]?) hl
   simp only [List.getElem?_drop,Nat.add_zero,List.getElem?_cons_zero] at this
   rw [← Array.getElem?_toList]
   exact this
  refine ZzP (l:=l) (j:=j + 1) ?_ (fun k i hi h=>?_)
  ·rw [← List.drop_drop,hl]
   rfl
  ·have h:(R ||| ((ZDL ops.size R o.after.toList % 2 ^ ops.size) <<< (j * ops.size))).testBit (k * ops.size + i)=true:=h
   rw [Nat.testBit_or,Bool.or_eq_true,Nat.testBit_shiftLeft,Bool.and_eq_true,Nat.testBit_mod_two_pow,Bool.and_eq_true,decide_eq_true_eq,decide_eq_true_eq] at h
   rcases h with h | ⟨h1,h2,h3⟩
   ·exact hR k i hi h
   ·obtain ⟨b,hb⟩:∃ b,b=k * ops.size + i - j * ops.size:=⟨_,rfl⟩
    rw [← hb] at h2 h3
    have e:k * ops.size + i=j * ops.size + b:=by omega
    have hN:0 < ops.size:=by omega
    have ek:k=j:=by
     have e1:(k * ops.size + i) / ops.size=k:=by
      rw [Nat.mul_comm,Nat.mul_add_div hN,Nat.div_eq_of_lt hi,Nat.add_zero]
     have e2:(j * ops.size + b) / ops.size=j:=by
      rw [Nat.mul_comm,Nat.mul_add_div hN,Nat.div_eq_of_lt h2,Nat.add_zero]
     rw [← e1,← e2,e]
    subst ek
    obtain rfl:i=b:=by omega
    obtain ⟨e',h4,h5,h6⟩:=ZtV h3
    have h4:e' ∈ o.after:=Array.mem_toList_iff.1 h4
    rcases h6 with h6 | h6
    ·rw [← h6]
     exact .one ho h4 h5
    ·exact .tr ho h4 h5 (hR _ _ hi h6)
theorem depT_dep {n i j:Nat} (h:ZE6 ops n i j=true):ZJr ops i j:=by
 unfold ZE6 at h
 rw [Bool.and_eq_true] at h
 have hi:i < ops.size:=Nat.le_of_ble_eq_true h.1
 have hb:=Nat.eq_of_beq_eq_true h.2
 refine ZzP (l:=ops.toList) (j:=0) (R:=0) rfl (fun k i _ h=>by rw [Nat.zero_testBit] at h; cases h) j i hi ?_
 have hb:(ZJm ops >>> (j * ops.size + i)) &&& 1=1:=hb
 rw [Nat.and_one_is_mod,Nat.shiftRight_eq_div_pow] at hb
 show (ZJm ops).testBit (j * ops.size + i)=true
 rw [Nat.testBit_eq_decide_div_mod_eq,hb]
 rfl
theorem ZDW {listed:Array Bool} (hcl:Zod ops listed) {i j:Nat} (hj:j ∈ Region.ready .any ops listed) {n:Nat} (h:ZE6 ops n i j=true):listed.getD i false=true:=by
 obtain ⟨_,o,ho,hall⟩:=mem_ready.1 hj
 cases depT_dep h with
 | one h1 h2 h3 =>
  obtain rfl:=Option.some.inj (ho.symm.trans h1)
  exact hall _ h2 h3
 | tr h1 h2 h3 h4 =>
  obtain rfl:=Option.some.inj (ho.symm.trans h1)
  exact ZBz hcl h4 (hall _ h2 h3)
theorem ZlA {listed:Array Bool} (hcl:Zod ops listed) {i:Nat} (hi:i ∈ Region.ready .any ops listed):Zod ops (listed.setIfInBounds i true):=fun j o ho hj e he hb=>by
 by_cases hji:i=j
 ·subst hji
  obtain ⟨_,o',ho',hall⟩:=mem_ready.1 hi
  obtain rfl:o'=o:=Option.some.inj (ho'.symm.trans ho)
  exact getD_set_true (hall e he hb)
 ·rw [getD_set_ne false hji] at hj
  exact getD_set_true (hcl j o ho hj e he hb)
theorem ZJs {listed:Array Bool} {i:Nat} (h:listed.getD i true=false):listed.getD i false=false:=by
 rcases Nat.lt_or_ge i listed.size with h' | h'
 ·simp [h'] at h ⊢; exact h
 ·simp [Array.getElem?_eq_none h']
theorem ZtW {Q:List AV→Mem→Prop} {i:Nat} {oi:Oper} {v:AV} (hi:ops[i]?=some oi) (hci:clsO T oi=0) :
 ∀ (fuel:Nat) (listed:Array Bool) (tm:List AV) (M:Mem),Zod ops listed →
   (∀ j oj,ops[j]?=some oj→j ≠ i→listed.getD j true=false→ZE6 ops ops.size i j=false→oi.apart ops oj=true∧(clsO T oj≤1∨ZtJ oi=true)) →
   i ∈ Region.ready .any ops listed→Yld T ops oi v tm M →
   ZGi T ops Q fuel (listed.setIfInBounds i true) (ZiE tm oi.dst v) M→ZGi T ops Q (fuel + 1) listed tm M:=by
 intro fuel
 induction fuel with
 | zero =>
  intro listed tm M _ _ hr hy H
  refine ⟨fun h=>(by rw [h] at hr; cases hr),fun j hj=>?_⟩
  by_cases hji:j=i
  ·subst hji; exact hy.qA hi hci H
  ·have:=ready_mono hj hji
   rw [H.1] at this
   cases this
 | succ fuel ih =>
  intro listed tm M hcl hfree hr hy H
  refine ⟨fun h=>(by rw [h] at hr; cases hr),fun j hj=>?_⟩
  by_cases hji:j=i
  ·subst hji; exact hy.qA hi hci H
  ·have h1:=H.2 j (ready_mono hj hji)
   obtain ⟨hjun,oj,hoj,hall⟩:=mem_ready.1 hj
   have hnd:ZE6 ops ops.size i j=false:=by
    cases hd:ZE6 ops ops.size i j with
    | false=>rfl
    | true =>
     exact ZvQ
   obtain ⟨hap,hcj⟩:=hfree j oj hoj hji hjun hnd
   have h2:=ZLX hoj hap hci hcj hy h1
   have hfree' : ∀ k ok,ops[k]?=some ok→k ≠ i→(listed.setIfInBounds j true).getD k true=false→ZE6 ops ops.size i k=false→oi.apart ops ok=true∧(clsO T ok≤1∨ZtJ oi=true):=fun k ok hk hki hun hno=>by
    refine hfree k ok hk hki ?_ hno
    by_cases hjk:j=k
    ·subst hjk; exact hjun
    ·rw [getD_set_ne true hjk] at hun; exact hun
   refine Zss (fun a' m' h3=>ih (listed.setIfInBounds j true) a' m' (ZlA hcl hj) hfree' (ready_mono hr (Ne.symm hji)) h3.1 ?_) h2
   rw [Array.setIfInBounds_comm _ _ hji]
   exact h3.2
theorem Zoe {Q:List AV→Mem→Prop}:∀ (n k:Nat) (listed:Array Bool) (tm:List AV) (M:Mem),ZGi T ops Q n listed tm M→n≤k→ZGi T ops Q k listed tm M
 | 0,0,_,_,_,h,_=>h
 | 0,k + 1,listed,tm,M,h,_=>⟨fun _=>h.2,fun i hi=>by rw [h.1] at hi; cases hi⟩
 | n + 1,0,_,_,_,_,hk=>by omega
 | n + 1,k + 1,listed,tm,M,h,hk=>⟨h.1,fun i hi=>Zss (fun a m h=>Zoe n k _ a m h (by omega)) (h.2 i hi)⟩
theorem ZJt {i:Nat} {K:List AV→Mem→Prop} (h:ZJn T ops i tm M K):qA T ops i K tm M:=by
 unfold ZJn at h
 cases ho:ops[i]? with
 | none=>rw [ho] at h; exact h.elim
 | some o =>
  rw [ho] at h
  simp only at h
  unfold qA
  try simp only [Zz6]
  simp only [ho]
  have wnt:∀ j want d,o.guard=some (j,want)→(ops[j]?).bind (·.dst)=some d→ZmE ops o tm=(match tm.getD d .any with
   | .w (.c (.bool g))=>some (g == want)
   | .tp _=>some false
   | _=>none):=fun j want d hg hd=>by
   unfold ZmE
   rw [hg]
   try simp only [Zz6]
   simp only [hd]
  cases hgd:o.guard with
  | none =>
   rw [hgd] at h
   have:ZmE ops o tm=some true:=by unfold ZmE; rw [hgd]
   simp only [this]
   exact ⟨(Zfh h).1,Zkc (Zfh h).2⟩
  | some jw =>
   obtain ⟨j,want⟩:=jw
   rw [hgd] at h
   simp only at h
   cases hd:(ops[j]?).bind (·.dst) with
   | none=>rw [hd] at h; exact h.elim
   | some d =>
    rw [hd] at h
    simp only at h
    have wn:=wnt j want d hgd hd
    split at h
    ·rename_i g hq
     rw [hq] at wn
     have hs:tm.set d (.c (.bool g))=tm:=ZzO hq (by simp)
     cases want <;> cases g <;> simp only [hs] at h wn
     ·rw [wn]; exact ⟨(Zfh h).1,Zkc (Zfh h).2⟩
     ·rw [wn]; exact h
     ·rw [wn]; exact h
     ·rw [wn]; exact ⟨(Zfh h).1,Zkc (Zfh h).2⟩
    ·rename_i l' hq
     rw [hq] at wn
     rw [wn]
     exact h
    ·exact h.elim
theorem ZGj {listed:Array Bool} {i:Nat} (h:ZOB ops listed i=true):i ∈ Region.ready .any ops listed:=by
 unfold ZOB at h
 cases ho:ops[i]? with
 | none=>rw [ho] at h; cases h
 | some o =>
  rw [ho] at h
  simp only [Bool.and_eq_true,Bool.not_eq_true'] at h
  refine mem_ready.2 ⟨h.1,o,ho,fun e he hb=>?_⟩
  have h2:=List.all_eq_true.1 h.2 e (Array.mem_toList_iff.2 he)
  rw [hb,Bool.not_true,Bool.false_or] at h2
  exact h2
theorem ZDX:∀ l:List Nat,(trL l).len=l.length
 | []=>rfl
 | _ :: l=>congrArg (· + 1) (ZDX l)
theorem Zge {Q:List AV→Mem→Prop}:∀ (t:Tr) (listed:Array Bool) (tm:List AV) (M:Mem),Zod ops listed→Zkd T ops t tm M Q →
 (okA T ops t false listed=true→ZGi T ops Q t.len listed tm M) ∧
  (okA T ops t true listed=true→∀ k,t.len≤k + 1→∀ j ∈ t.heads,j ∈ Region.ready .any ops listed∧qA T ops j (ZGi T ops Q k (listed.setIfInBounds j true)) tm M)
 | .nil,_,_,_,_,h=>⟨fun hB=>⟨by simpa [okA] using hB,h⟩,fun hB=>by simp [okA] at hB⟩
 | .alt t u,listed,tm,M,hcl,h=>by
  obtain ⟨ht,hu⟩:=h
  have it:=(Zge t listed tm M hcl ht).2
  have iu:=(Zge u listed tm M hcl hu).2
  have both:okA T ops t true listed=true→okA T ops u true listed=true→∀ k,(Tr.alt t u).len≤k + 1→∀ j ∈ (Tr.alt t u).heads,j ∈ Region.ready .any ops listed∧qA T ops j (ZGi T ops Q k (listed.setIfInBounds j true)) tm M:=fun h1 h2 k hk j hj=>by
   have hk' : max t.len u.len≤k + 1:=hk
   rcases List.mem_append.1 hj with hj | hj
   ·exact it h1 k (by omega) j hj
   ·exact iu h2 k (by omega) j hj
  refine ⟨fun hB=>?_,fun hB=>?_⟩
  ·unfold okA at hB
   simp only [Bool.false_or,Bool.and_eq_true] at hB
   have hall:∀ i ∈ Region.ready .any ops listed,i ∈ (Tr.alt t u).heads:=fun i hi=>by
    obtain ⟨k,hk,hb⟩:=List.any_eq_true.1 (List.all_eq_true.1 hB.1 i hi)
    rw [← Nat.eq_of_beq_eq_true hb]; exact hk
   cases hn:(Tr.alt t u).len with
   | zero =>
    exfalso
    cases hh:(Tr.alt t u).heads with
    | nil =>
     exact ZuX
    | cons j js =>
     have h0:∀ t:Tr,t.len=0→t.heads=[]:=fun t=>by
      induction t with
      | nil=>intro _; rfl
      | one i t _=>intro h; exact absurd h (Nat.succ_ne_zero _)
      | alt t u ih ih2 =>
       intro h
       have h' : max t.len u.len=0:=h
       simp [Tr.heads,ih (by omega),ih2 (by omega)]
     rw [h0 _ hn] at hh
     cases hh
   | succ k =>
    have hb:=both hB.2.1 hB.2.2 k (by omega)
    refine ⟨fun h0=>?_,fun j hj=>(hb j (hall j hj)).2⟩
    cases hh:(Tr.alt t u).heads with
    | nil =>
     exfalso
     exact ZuX
    | cons j js =>
     have:=(hb j (by rw [hh]; exact List.mem_cons_self)).1
     rw [h0] at this
     cases this
  ·unfold okA at hB
   simp only [Bool.true_or,Bool.true_and,Bool.and_eq_true] at hB
   exact both hB.1 hB.2
 | .one i l,listed,tm,M,hcl,h=>by
  have hq:qA T ops i (fun tm M=>Zkd T ops l tm M Q) tm M:=ZJt h
  have hrd:∀ b,okA T ops (.one i l) b listed=true→i ∈ Region.ready .any ops listed∧((b || ZF6 T ops listed i)=true)∧okA T ops l false (listed.setIfInBounds i true)=true:=fun b hB=>by
   unfold okA at hB
   rw [Bool.and_eq_true,Bool.and_eq_true] at hB
   obtain ⟨hr,hf,hB'⟩:=hB
   exact ⟨ZGj hr,hf,hB'⟩
  refine ⟨fun hB=>?_,fun hB k hk j hj=>?_⟩
  ·obtain ⟨hr,hf,hB'⟩:=hrd false hB
   rw [Bool.false_or] at hf
   have ih:=fun tm M h=>(Zge (Q:=Q) l (listed.setIfInBounds i true) tm M (ZlA hcl hr) h).1 hB'
   cases ho:ops[i]? with
   | none =>
    obtain ⟨_,o,ho',_⟩:=mem_ready.1 hr
    rw [ho] at ho'
    cases ho'
   | some o =>
    have hfs:∀ j oj,ops[j]?=some oj→j ≠ i→listed.getD j true=false→ZE6 ops ops.size i j=false→clsO T o=0∧o.apart ops oj=true∧(clsO T oj≤1∨ZtJ o=true):=fun j oj hj hji hun hnd=>by
     unfold ZF6 at hf
     rw [ho] at hf
     have h1:=List.all_eq_true.1 hf j (List.mem_range.2 (Array.getElem?_eq_some_iff.1 hj).1)
     have hb:Nat.beq j i=false:=by
      cases hb:Nat.beq j i with
      | false=>rfl
      | true=>exact absurd (Nat.eq_of_beq_eq_true hb) hji
     rw [hb,hun,hnd,hj] at h1
     simp only [Bool.false_or,Bool.or_false,Bool.and_eq_true,Bool.or_eq_true] at h1
     exact ⟨Nat.eq_of_beq_eq_true h1.1,h1.2.1,h1.2.2.imp Nat.le_of_ble_eq_true id⟩
    by_cases hc:clsO T o=0
    ·
     unfold qA at hq
     simp only [ho] at hq
     have hfree:=fun j oj hj hji hun hnd=>(hfs j oj hj hji hun hnd).2
     split at hq
     ·rename_i hw
      have hm:=(Zio (T:=T) [] hc hq.1).2.2.2
      rw [hm] at hq
      exact ZtW ho hc l.len listed tm M hcl hfree hr (.inl ⟨hw,hq.1,rfl⟩) (ih _ _ hq.2)
     ·rename_i hw
      exact ZtW ho hc l.len listed tm M hcl hfree hr (.inr ⟨hw,rfl⟩) (ih _ _ hq)
     ·exact hq.elim
    ·
     refine ⟨fun h0=>(by rw [h0] at hr; cases hr),fun j hj=>?_⟩
     have hji:j=i:=by
      by_cases hji:j=i
      ·exact hji
      ·obtain ⟨hjun,oj,hoj,_⟩:=mem_ready.1 hj
       cases hd:ZE6 ops ops.size i j with
       | false=>exact absurd (hfs j oj hoj hji hjun hd).1 hc
       | true =>
        exact ZvQ
     subst hji
     exact Zss (fun a m h=>ih a m h) hq
  ·obtain rfl:j=i:=by simpa [Tr.heads] using hj
   obtain ⟨hr,_,hB'⟩:=hrd true hB
   refine ⟨hr,Zss (fun a m h=>Zoe _ _ _ _ _ ((Zge (Q:=Q) l (listed.setIfInBounds j true) a m (ZlA hcl hr) h).1 hB') ?_) hq⟩
   have hk' : l.len + 1≤k + 1:=hk
   omega
theorem ZyA (n:Nat):Zod ops (Array.replicate n false):=fun j o _ hj=>by
 rcases Nat.lt_or_ge j n with h | h
 ·simp [h] at hj
 ·simp [Nat.not_lt.2 h] at hj
theorem ZzQ {k:Nat}:∀ (l:List Tr),(∀ t ∈ l,t.len≤k)→(ZMB l).len≤k
 | [],_=>Nat.zero_le _
 | [t],h=>h t List.mem_cons_self
 | t :: u :: l,h=>by
  have h1:=h t List.mem_cons_self
  have h2:=ZzQ (u :: l) (fun t ht=>h t (List.mem_cons_of_mem _ ht))
  show max t.len (ZMB (u :: l)).len≤k
  omega
theorem ZqO:∀ (n:Nat) (listed:Array Bool),(ZqC T ops n listed).len≤n
 | 0,_=>Nat.le_refl _
 | n + 1,listed=>by
  unfold ZqC
  split
  ·rename_i i _
   exact ZvP
  ·refine ZzQ _ fun t ht=>?_
   obtain ⟨i,_,rfl⟩:=List.mem_map.1 ht
   exact ZvP
theorem ZGk (id:Nat) (ops:Array Oper):(ZE7 T id ops).len≤ops.size:=by
 unfold ZE7
 split
 ·exact ZqO _ _
 ·rw [ZDX,List.length_take]
  omega
theorem ZmU {Q:List AV→Mem→Prop} {Q' : Exit→Act→World→Prop} {W0:World} {E0:Env} (hT:ZpZ X W0 E0 T) (hQ:∀ tm M a W E,Q tm M→Zel X tm M a W E→Zhl T W0 E0 W E M→Q' .normal a W):∀ (fuel:Nat) (listed:Array Bool) (tm:List AV) (M:Mem) (a:Act) (W:World) (E:Env),
 Zel X tm M a W E→Zhl T W0 E0 W E M→ZGi T ops Q fuel listed tm M→wpAny P .any ops Q' fuel listed a W
 | 0,_,_,_,_,_,_,hr,hg,h=>⟨h.1,hQ _ _ _ _ _ h.2 hr hg⟩
 | fuel + 1,listed,tm,M,a,W,E,hr,hg,h=>by
  refine ⟨fun h0=>hQ _ _ _ _ _ (h.1 h0) hr hg,fun i hi=>?_⟩
  have hh:=h.2 i hi
  unfold qA at hh
  unfold wpOp
  cases ho:ops[i]? with
  | none=>rw [ho] at hh; exact ZmU hT hQ fuel _ _ _ _ _ _ hr hg hh
  | some o =>
   rw [ho] at hh
   simp only at hh ⊢
   have wnt:∀ b,ZmE ops o tm=some b→Region.wanted o (yielded ops a.tmps)=b:=fun b hb=>by
    unfold ZmE at hb
    unfold Region.wanted
    cases hgd:o.guard with
    | none=>rw [hgd] at hb; exact Option.some.inj hb
    | some jw =>
     obtain ⟨j,want⟩:=jw
     rw [hgd] at hb
     simp only at hb ⊢
     cases hd:(ops[j]?).bind (·.dst) with
     | none=>rw [hd] at hb; cases hb
     | some d =>
      rw [hd] at hb
      simp only at hb
      have hd' : (ops.toList[j]?).bind (·.dst)=some d:=by rw [Array.getElem?_toList]; exact hd
      split at hb
      ·rename_i g hq
       have:=ZqJ hd' hr.tmps hq
       rw [show yielded ops a.tmps j=some g from this,← Option.some.inj hb]
       cases g <;> cases want <;> rfl
      ·rename_i l hq
       have:=ZqK hd' hr.tmps hq
       rw [show yielded ops a.tmps j=none from this,← Option.some.inj hb]
       rfl
      ·cases hb
   split at hh
   ·rename_i hw
    rw [if_pos (wnt _ hw)]
    refine .inl (Zn5 hT hg.g hr.mem hr.tmps hh.1 _ _ fun u W' E' g m r hv=>?_)
    exact ZmU hT hQ fuel _ _ _ _ _ _ ⟨r,ZmT (hr.tmps.mono g m hr.mem.len) hv,by rw [Zin]; exact hr.dfr⟩ (hg.step g m) hh.2
   ·rename_i hw
    rw [if_neg (by rw [wnt _ hw]; exact Bool.false_ne_true)]
    exact ZmU hT hQ fuel _ _ _ _ _ _ (hr.skip _) hg hh
   ·exact hh.elim
end
theorem ZDY:∀ {x y:List AC},leL x y→x=y
 | [],[],_=>rfl
 | [],_ :: _,h=>h.elim
 | _ :: _,[],h=>h.elim
 | _ :: _,_ :: _,h=>by rw [ZEb h.1,ZDY h.2]
theorem leV_eq {x y:AV} (h:leV x y):y=.any∨x=y:=by
 unfold leV at h
 split at h
 ·exact .inl rfl
 ·exact .inr (by rw [ZEb h])
 ·exact .inr (by rw [ZDY h])
 ·exact .inr h
theorem ZtX {x y:Blk} (h:leB x y):x=y:=by
 unfold leB at h
 split at h
 ·rw [ZDY h]
 ·obtain ⟨⟨e1,e2⟩,e3,e4⟩:=h; subst e3; rw [← e4,e1,e2]
 ·exact h
theorem ZDZ:∀ {x y:Mem},leM x y→∃ z,x=y ++ z
 | x,[],_=>⟨x,rfl⟩
 | [],_ :: _,h=>h.elim
 | _ :: _,_ :: _,h=>by
  obtain ⟨z,e⟩:=ZDZ h.2
  exact ⟨z,by rw [ZtX h.1,e]; rfl⟩
section
variable {P:Program} {X:List Nat} {W:World} {E:Env} {M:Mem} {a:Act} {tm:List AV} {o:Oper} {T:Tab P}
theorem ZJu {x y:AV} {v:Value} (h:leV x y) (hr:Zcd X W E M x v):Zcd X W E M y v:=by
 rcases leV_eq h with rfl | rfl
 ·trivial
 ·exact hr
theorem ZD0:∀ {x y:List AV} {vs:List Value},leT x y→Zbv X W E M x vs→Zbv X W E M y vs
 | [],[],_,_,hr=>hr
 | [],_ :: _,_,h,_=>h.elim
 | _ :: _,[],_,h,_=>h.elim
 | _ :: _,_ :: _,_,h,⟨v,r,e,h1,h2⟩=>⟨v,r,e,ZJu h.1 h1,ZD0 h.2 h2⟩
theorem ZtY {n i q:Nat} {v:Value} (hi:i < n) (h:Zhi E i v q):Zhi (E.take n) i v q:=by
 obtain ⟨e,h1,h2⟩:=h
 exact ⟨e,by rw [List.getElem?_take,if_pos hi]; exact h1,h2⟩
theorem ZqP {n:Nat}:∀ {is:List Nat} {vs:List Value},is.all (Nat.blt · n)=true→Zdm E is vs→Zdm (E.take n) is vs
 | [],_,_,h=>h
 | _ :: _,_,ho,⟨v,r,e,h1,h2⟩=>by
  rw [List.all_cons,Bool.and_eq_true] at ho
  exact ⟨v,r,e,ZtY (Nat.le_of_ble_eq_true ho.1) h1,ZqP ho.2 h2⟩
theorem Zgf (n:Nat):∀ b ∈ foots (E.take n),b ∈ foots E:=fun b hb=>by
 obtain ⟨e,h1,h2⟩:=Zaw.1 hb
 exact Zaw.2 ⟨e,List.mem_of_mem_take h1,h2⟩
theorem Zki {n i v:Nat} {Q:EB→Prop} (hi:i < n) (h:ZbL E M i v Q):ZbL (E.take n) (M.take n) i v Q:=by
 unfold ZbL at h ⊢
 exact Zwb
theorem Zof {n:Nat} {Q:List Nat→Prop}:∀ {L:Lnd},(∀ i v c,L=.at i v c→i < n)→ZjZ X W E M L Q→ZjZ X W (E.take n) (M.take n) L Q
 | .no,_,⟨F,h1,h2⟩=>⟨F,h1,fun b hb=>⟨⟨fun hm=>(h2 b hb).1.1 (Zgf n b hm),(h2 b hb).1.2⟩,(h2 b hb).2⟩⟩
 | .at i v c,hi,h=>by
  have hi:=hi i v c rfl
  have h:Zc4 E M i v c Q:=h
  show Zc4 (E.take n) (M.take n) i v c Q
  unfold Zc4 at h ⊢
  exact Zwb
theorem ZtZ {n i ver c n' k o:Nat} {u:Value} (hi:i < n) (h:Zlr W E M i ver c n' k o u):Zlr W (E.take n) (M.take n) i ver c n' k o u:=by
 obtain ⟨b,h1,h2⟩:=h
 exact ⟨b,Zki hi h1,Zof (X:=[]) (W:=W) (L:=.at i ver c) (fun _ _ _ e=>by injection e with e1 _ _; omega) h2⟩
theorem ZD1 {n:Nat}:∀ {c:AC} {v:Value},okC n c=true→Zbo X W E M c v→Zbo X W (E.take n) (M.take n) c v
 | .int _ _,_,_,h=>h
 | .bool _,_,_,h=>h
 | .str _,_,_,h=>h
 | .opq _,_,_,h=>h
 | .hs L t xs,v,ho,h=>⟨h.1,Zof (fun i v c e=>by subst e; exact Nat.le_of_ble_eq_true ho) h.2⟩
 | .bp _ _,_,ho,h=>ZtY (Nat.le_of_ble_eq_true ho) h
 | .ep L t xs k o,v,ho,h=>⟨h.1,Zof (fun i v c e=>by subst e; exact Nat.le_of_ble_eq_true ho) h.2⟩
 | .row i ver,v,ho,h=>⟨h.1,Zki (Nat.le_of_ble_eq_true ho) h.2⟩
 | .rp i ver n k o,v,ho,h=>⟨h.1,Zki (Nat.le_of_ble_eq_true ho) h.2⟩
 | .sl i ver c n k o,v,ho,h=>⟨h.1,ZtZ (Nat.le_of_ble_eq_true ho) h.2⟩
 | .sp i ver c n k o m x q,v,ho,⟨h0,b,l,cap,h1,h2⟩=>⟨h0,b,l,cap,ZtZ (Nat.le_of_ble_eq_true ho) h1,h2⟩
 | .tl i ver n k,v,ho,h=>⟨h.1,Zki (Nat.le_of_ble_eq_true ho) h.2⟩
 | .mp i,v,ho,⟨e,h1,h2⟩=>⟨e,by rw [List.getElem?_take,if_pos (show i < n from Nat.le_of_ble_eq_true ho)]; exact h1,h2⟩
 | .fn f caps,v,ho,⟨vs,e,h⟩=>⟨vs,e,ZqP ho h⟩
 | .raw _,_,_,h=>h
 | .junk,_,_,h=>h
theorem ZyB {n:Nat}:∀ {l:List AC} {vs:List Value},l.all (okC n)=true→Zbu X W E M l vs→Zbu X W (E.take n) (M.take n) l vs
 | [],_,_,h=>h
 | _ :: _,_,ho,⟨v,r,e,h1,h2⟩=>by
  rw [List.all_cons,Bool.and_eq_true] at ho
  exact ⟨v,r,e,ZD1 ho.1 h1,ZyB ho.2 h2⟩
theorem ZD2 {n:Nat}:∀ {x:AW} {v:Value},okW n x=true→Zhv X W E M x v→Zhv X W (E.take n) (M.take n) x v
 | .c _,_,ho,h=>ZD1 ho h
 | .ag _,_,ho,⟨cs,e,h⟩=>⟨cs,e,ZyB ho h⟩
theorem ZzR {n:Nat}:∀ {l:List AW} {vs:List Value},l.all (okW n)=true→ZcC X W E M l vs→ZcC X W (E.take n) (M.take n) l vs
 | [],_,_,h=>h
 | _ :: _,_,ho,⟨v,r,e,h1,h2⟩=>by
  rw [List.all_cons,Bool.and_eq_true] at ho
  exact ⟨v,r,e,ZD2 ho.1 h1,ZzR ho.2 h2⟩
theorem ZJv {n:Nat}:∀ {x:AV} {v:Value},okV n x=true→Zcd X W E M x v→Zcd X W (E.take n) (M.take n) x v
 | .w _,_,ho,h=>ZD2 ho h
 | .tp _,_,ho,⟨vs,e,h⟩=>⟨vs,e,ZzR ho h⟩
 | .any,_,_,_=>trivial
theorem ZD3 {n:Nat}:∀ {l:List AV} {vs:List Value},l.all (okV n)=true→Zbv X W E M l vs→Zbv X W (E.take n) (M.take n) l vs
 | [],_,_,h=>h
 | _ :: _,_,ho,⟨v,r,e,h1,h2⟩=>by
  rw [List.all_cons,Bool.and_eq_true] at ho
  exact ⟨v,r,e,ZJv ho.1 h1,ZD3 ho.2 h2⟩
theorem ZzS {M N:Mem} (hM:RepM X W E (M ++ N)) (ho:M.all (okB M.length)=true):RepM X W (E.take M.length) M:=by
 have hl:=hM.len
 rw [List.length_append] at hl
 refine ⟨by simp; omega,?_,fun i b e hb he=>?_,fun b hb=>hM.lt b (Zgf _ b hb),fun b hb hf=>hM.xlt b hb (Zgf _ b hf),hM.xsz⟩
 ·have hn:=hM.nodup
  rw [← List.take_append_drop M.length E,ZaV,List.nodup_append] at hn
  exact hn.1
 ·have hi:i < M.length:=(List.getElem?_eq_some_iff.1 hb).1
  rw [List.getElem?_take,if_pos hi] at he
  have h:=hM.at_ i b e (by rw [List.getElem?_append_left hi]; exact hb) he
  have hob:=List.all_eq_true.1 ho b (List.mem_of_getElem? hb)
  cases b with
  | box l =>
   obtain ⟨q1,cs,T,q2,q3⟩:=h
   have:=ZyB (n:=M.length) hob q3
   rw [List.take_left] at this
   exact ⟨q1,cs,T,q2,this⟩
  | row t xs v c hh =>
   cases hh with
   | none=>exact h
   | some _=>cases hob
  | mp _=>exact h
  | dead=>exact h
theorem Zel.le {n0:Nat} {inp:List Nat} {tm0:List AV} {M0:Mem} {h:List AV × Mem} (hr:Zel X tm M a W E) (hle:leS n0 inp tm0 M0 tm M h):Zel X h.1 h.2 a W (E.take h.2.length):=by
 obtain ⟨h1,h2,h3⟩:=hle
 rw [Bool.and_eq_true] at h3
 replace h3:=h3.1
 rw [Bool.and_eq_true] at h3
 obtain ⟨z,e⟩:=ZDZ h2
 subst e
 refine ⟨ZzS hr.mem h3.2,?_,hr.dfr⟩
 have:=ZD3 h3.1 (ZD0 h1 hr.tmps)
 rwa [List.take_left] at this
theorem ZD4 {W0:World} {E0:Env} {n:Nat} (hn:E0.length≤n) (hg:Zbb W0 E0 W E):Zbb W0 E0 W (E.take n):=⟨hg.os,hg.tape,hg.output,hg.size,hg.keep,fun b hb=>hg.new b (Zgf n b hb),fun i e h=>by
 obtain ⟨e',h1,h2⟩:=hg.blk i e h
 exact ⟨e',by rw [List.getElem?_take,if_pos (Nat.lt_of_lt_of_le (List.getElem?_eq_some_iff.1 h).1 hn)]; exact h1,h2⟩⟩
theorem Zog (hM:RepM X W E M):Zbb W E W.drew E:=⟨rfl,rfl,rfl,Nat.le_refl _,fun _ _ _=>rfl,fun _ h=>.inl h,fun _ e h=>⟨e,h,rfl⟩⟩
theorem ZqQ (hM:RepM X W E M):ZaK W E M W.drew E M:=by
 have:=Zdo (W:=W) (W':=W.drew) (Zog hM) hM (fun _ _=>rfl) [] []
 rwa [List.append_nil,List.append_nil] at this
theorem Zel.drew (hr:Zel X tm M a W E):Zel X tm M a W.drew E:=by
 have g:=Zog hr.mem
 have m:=ZqQ hr.mem
 refine ⟨⟨hr.mem.len,hr.mem.nodup,fun i b e hb he=>(hr.mem.at_ i b e hb he).keep g m hr.mem.len (fun _ _=>rfl),hr.mem.lt,hr.mem.xlt,hr.mem.xsz⟩,hr.tmps.mono g m hr.mem.len,hr.dfr⟩
theorem Zst (i:Nat):(M.map (Zdh M))[i]?=(M[i]?).map (Zdh M):=List.getElem?_map
theorem ZLY {i v:Nat} {r:ZfD} (h:Zcn M i v=some r):(M.map (Zdh M))[i]?=some (.row r.t r.xs 0 0 none):=by
 rw [Zst,Zco h]
 rfl
theorem Zt0 {i v c:Nat} (h:Zc5 M i v c=true):∃ (t:Ty) (xs:List t.den),M[i]?=some (.row t xs v c none):=by
 unfold Zc5 at h
 split at h
 ·rename_i t xs cv cc hM
  rw [Bool.and_eq_true] at h
  obtain rfl:=Nat.eq_of_beq_eq_true h.1
  obtain rfl:=Nat.eq_of_beq_eq_true h.2
  exact ⟨t,xs,hM⟩
 ·cases h
theorem ZlB {i v:Nat} {Q:EB→Prop} {r:ZfD} (hr:Zcn M i v=some r) (h:ZbL E M i v Q):ZbL E (M.map (Zdh M)) i 0 Q:=by
 unfold ZbL at h ⊢
 rw [Zco hr] at h
 rw [ZLY hr]
 exact ⟨Nat.le_refl _,fun _=>h.2 rfl⟩
theorem Zjl {i v c:Nat} {Q:List Nat→Prop} (hl:Zc5 M i v c=true) (h:Zc4 E M i v c Q):Zc4 E (M.map (Zdh M)) i 0 0 Q:=by
 obtain ⟨t,xs,hM⟩:=Zt0 hl
 unfold Zc4 at h ⊢
 rw [hM] at h
 rw [Zst,hM]
 exact ⟨Nat.le_refl _,fun _=>⟨Nat.le_refl _,fun _=>(h.2 rfl).2 rfl⟩⟩
theorem ZqR {i ver c n k o:Nat} {u:Value} (hl:Zc5 M i ver c=true) (h:Zlr W E M i ver c n k o u):Zlr W E (M.map (Zdh M)) i 0 0 n k o u:=by
 obtain ⟨b,h1,h2⟩:=h
 obtain ⟨t,xs,hM⟩:=Zt0 hl
 refine ⟨b,ZlB (r:=⟨t,xs,c⟩) ?_ h1,Zjl hl h2⟩
 unfold Zcn
 rw [hM]
 simp
theorem Zt1:∀ {c:AC} {v:Value},Zbo X W E M c v→Zbo X W E (M.map (Zdh M)) (ZDM M c) v
 | .int _ _,_,h=>h
 | .bool _,_,h=>h
 | .str _,_,h=>h
 | .opq _,_,h=>h
 | .hs .no t xs,v,h=>h
 | .hs (.at i u c) t xs,v,h=>by
  show Zbo X W E _ (bif Zc5 M i u c then _ else _) v
  cases hl:Zc5 M i u c with
  | false=>exact h.1
  | true=>exact ⟨h.1,Zjl hl h.2⟩
 | .bp _ _,_,h=>h
 | .ep .no t xs k o,v,h=>h
 | .ep (.at i u c) t xs k o,v,h=>by
  show Zbo X W E _ (bif Zc5 M i u c then _ else _) v
  cases hl:Zc5 M i u c with
  | false=>exact h.1
  | true=>exact ⟨h.1,Zjl hl h.2⟩
 | .row i ver,v,h=>by
  show Zbo X W E _ (bif (Zcn M i ver).isSome then _ else _) v
  cases hl:Zcn M i ver with
  | none=>exact h.1
  | some r=>exact ⟨h.1,ZlB hl h.2⟩
 | .sl i ver c n k o,v,h=>by
  show Zbo X W E _ (bif Zc5 M i ver c then _ else _) v
  cases hl:Zc5 M i ver c with
  | false=>exact h.1
  | true=>exact ⟨h.1,ZqR hl h.2⟩
 | .sp i ver c n k o m x q,v,⟨h0,b,l,cap,h1,h2⟩=>by
  show Zbo X W E _ (bif Zc5 M i ver c then _ else _) v
  cases hl:Zc5 M i ver c with
  | false=>exact h0
  | true=>exact ⟨h0,b,l,cap,ZqR hl h1,h2⟩
 | .rp i ver n k o,v,h=>by
  show Zbo X W E _ (bif (Zcn M i ver).isSome then _ else _) v
  cases hl:Zcn M i ver with
  | none=>exact h.1
  | some r=>exact ⟨h.1,ZlB hl h.2⟩
 | .tl i ver n k,v,h=>h.1
 | .mp _,_,h=>h
 | .fn f caps,v,h=>h
 | .raw _,_,h=>h
 | .junk,_,h=>h
theorem Zoh:∀ {l:List AC} {vs:List Value},Zbu X W E M l vs→Zbu X W E (M.map (Zdh M)) (l.map (ZDM M)) vs
 | [],_,h=>h
 | _ :: _,_,⟨v,r,e,h1,h2⟩=>⟨v,r,e,Zt1 h1,Zoh h2⟩
theorem Zt2:∀ {x:AW} {v:Value},Zhv X W E M x v→Zhv X W E (M.map (Zdh M)) (ZF9 M x) v
 | .c _,_,h=>Zt1 h
 | .ag _,_,⟨cs,e,h⟩=>⟨cs,e,Zoh h⟩
theorem ZqS:∀ {l:List AW} {vs:List Value},ZcC X W E M l vs→ZcC X W E (M.map (Zdh M)) (l.map (ZF9 M)) vs
 | [],_,h=>h
 | _ :: _,_,⟨v,r,e,h1,h2⟩=>⟨v,r,e,Zt2 h1,ZqS h2⟩
theorem ZD5:∀ {x:AV} {v:Value},Zcd X W E M x v→Zcd X W E (M.map (Zdh M)) (Zhk M x) v
 | .w _,_,h=>Zt2 h
 | .tp _,_,⟨vs,e,h⟩=>⟨vs,e,ZqS h⟩
 | .any,_,_=>trivial
theorem Zt3:∀ {l:List AV} {vs:List Value},Zbv X W E M l vs→Zbv X W E (M.map (Zdh M)) (l.map (Zhk M)) vs
 | [],_,h=>h
 | _ :: _,_,⟨v,r,e,h1,h2⟩=>⟨v,r,e,ZD5 h1,Zt3 h2⟩
theorem Zel.back (hr:Zel X tm M a W E) (hno:Zyu M=true):Zel X (tm.map (Zhk M)) (M.map (Zdh M)) a W E:=by
 refine ⟨⟨by rw [List.length_map]; exact hr.mem.len,hr.mem.nodup,fun i b e hb he=>?_,hr.mem.lt,hr.mem.xlt,hr.mem.xsz⟩,Zt3 hr.tmps,hr.dfr⟩
 rw [Zst] at hb
 cases hM:M[i]? with
 | none=>rw [hM] at hb; cases hb
 | some b' =>
  rw [hM] at hb
  obtain rfl:Zdh M b'=b:=by simpa using hb
  have h:=hr.mem.at_ i b' e hM he
  cases b' with
  | box l =>
   obtain ⟨q1,cs,T,q2,q3⟩:=h
   exact ⟨q1,cs,T,q2,Zoh q3⟩
  | row t xs v c hh =>
   cases hh with
   | none=>exact h
   | some _=>have:=List.all_eq_true.1 hno _ (List.mem_of_getElem? hM); cases this
  | mp _=>exact h
  | dead=>exact h
theorem Zbv.put:∀ {l:List AV} {vs:List Value} (j:Nat) {x:AV},Zbv X W E M l vs→(∀ v,vs[j]?=some v→Zcd X W E M x v)→Zbv X W E M (l.set j x) vs
 | [],_,_,_,h,_=>h
 | _ :: _,_,0,_,⟨v,r,e,h1,h2⟩,h=>⟨v,r,e,h v (by rw [e]; rfl),h2⟩
 | _ :: _,_,j + 1,_,⟨v,r,e,h1,h2⟩,h=>⟨v,r,e,h1,Zbv.put j h2 (fun u hu=>h u (by rw [e]; simpa using hu))⟩
theorem Zbu.put:∀ {l:List AC} {vs:List Value} (j:Nat) {x:AC},Zbu X W E M l vs→(∀ v,vs[j]?=some v→Zbo X W E M x v)→Zbu X W E M (l.set j x) vs
 | [],_,_,_,h,_=>h
 | _ :: _,_,0,_,⟨v,r,e,h1,h2⟩,h=>⟨v,r,e,h v (by rw [e]; rfl),h2⟩
 | _ :: _,_,j + 1,_,⟨v,r,e,h1,h2⟩,h=>⟨v,r,e,h1,Zbu.put j h2 (fun u hu=>h u (by rw [e]; simpa using hu))⟩
theorem Zel.nilrow (hr:Zel X tm M a W E) (t:Ty):∃ E',Zbb W E W E'∧ZaK W E M W E' (M ++ [.row t [] 0 0 none])∧Zel X tm (M ++ [.row t [] 0 0 none]) a W E'∧Zbo X W E' (M ++ [.row t [] 0 0 none]) (.row M.length 0) (.slice none 0 0):=by
 obtain ⟨E',g,m,rm,rc⟩:=ZgQ (W':=W) (js:=[]) (t:=t) (ys:=[]) (v:=.slice none 0 0) (T:=0) (cells:=[]) (own:=[]) (G:=[]) hr.mem rfl (by simp) ⟨rfl,rfl,rfl,Nat.le_refl _,fun _ _ _=>rfl⟩ (World.ownsRow_nil W 0 0 t.n) ⟨rfl,rfl⟩ rfl (.inl rfl)
 exact ⟨E',g,m,⟨rm,hr.tmps.mono g m hr.mem.len,hr.dfr⟩,rc⟩
theorem Zel.boxput {b i:Nat} {l:List AC} {x:AC} {v:Value} (hr:Zel X tm M a W E) (hb:M[b]?=some (.box l)) (hl:l[i]?=some (.raw v)) (hx:Zbo X W E M x v):ZaK W E M W E (M.set b (.box (l.set i x)))∧Zel X tm (M.set b (.box (l.set i x))) a W E:=by
 have hbl:=(List.getElem?_eq_some_iff.1 hb).1
 have m:ZaK W E M W E (M.set b (.box (l.set i x))):=fun j=>by
  exact ZvC
 have g:=Zbb.refl W E
 refine ⟨m,⟨by simp [hr.mem.len],hr.mem.nodup,fun j b' e hb' he=>?_,hr.mem.lt,hr.mem.xlt,hr.mem.xsz⟩,hr.tmps.mono g m hr.mem.len,hr.dfr⟩
 by_cases hj:b=j
 ·subst hj
  rw [List.getElem?_set_self hbl] at hb'
  obtain rfl:=Option.some.inj hb'
  obtain ⟨q1,cs,T,q2,q3⟩:=hr.mem.at_ _ _ e hb he
  refine ⟨q1,cs,T,q2,Zbu.mono g m hr.mem.len (Zbu.put i q3 (fun u hu=>?_))⟩
  obtain ⟨w,h1,h2⟩:=q3.get hl
  obtain rfl:w=u:=Option.some.inj (h1.symm.trans hu)
  rw [h2.1]
  exact hx
 ·exact ZvJ
theorem ZGl (hr:Zel X tm M a W E) (p:Pro):∃ E',Zbb W E W E'∧ZaK W E M W E' (ZMC tm M p).2∧Zel X (ZMC tm M p).1 (ZMC tm M p).2 a W E':=by
 obtain ⟨b,i,t⟩:=p
 cases b with
 | none =>
  show ∃ E',Zbb W E W E'∧ZaK W E M W E' (bif Zj2 (tm.getD i .any) then (tm.set i (AV.c (AC.row M.length 0)),M ++ [Blk.row t [] 0 0 none]) else (tm,M)).2∧Zel X (bif Zj2 (tm.getD i .any) then (tm.set i (AV.c (AC.row M.length 0)),M ++ [Blk.row t [] 0 0 none]) else (tm,M)).1 (bif Zj2 (tm.getD i .any) then (tm.set i (AV.c (AC.row M.length 0)),M ++ [Blk.row t [] 0 0 none]) else (tm,M)).2 a W E'
  cases hn:Zj2 (tm.getD i .any) with
  | false=>exact ⟨E,Zbb.refl W E,ZaK.refl W E M,hr⟩
  | true =>
   obtain ⟨E',g,m,r,rc⟩:=hr.nilrow t
   refine ⟨E',g,m,⟨r.mem,Zbv.put i r.tmps (fun u hu=>?_),r.dfr⟩⟩
   have e:=Zts hn
   rw [List.getD_eq_getElem?_getD] at e
   cases hq:tm[i]? with
   | none=>rw [hq] at e; cases e
   | some x =>
    rw [hq] at e
    obtain rfl:x=_:=e
    obtain ⟨w,h1,h2⟩:=hr.tmps.get hq
    obtain rfl:w=u:=Option.some.inj (h1.symm.trans hu)
    have h2:Zbo X W E M (.raw (.slice none 0 0)) w:=h2
    rw [h2.1]
    exact rc
 | some b =>
  show ∃ E',Zbb W E W E'∧ZaK W E M W E' (match M[b]? with | some (.box l)=>bif Zka (l.getD i .junk) then (tm,M.set b (Blk.box (l.set i (AC.row M.length 0))) ++ [Blk.row t [] 0 0 none]) else (tm,M) | _=>(tm,M)).2∧Zel X (match M[b]? with | some (.box l)=>bif Zka (l.getD i .junk) then (tm,M.set b (Blk.box (l.set i (AC.row M.length 0))) ++ [Blk.row t [] 0 0 none]) else (tm,M) | _=>(tm,M)).1
   (match M[b]? with | some (.box l)=>bif Zka (l.getD i .junk) then (tm,M.set b (Blk.box (l.set i (AC.row M.length 0))) ++ [Blk.row t [] 0 0 none]) else (tm,M) | _=>(tm,M)).2 a W E'
  split
  ·rename_i l hb
   cases hn:Zka (l.getD i .junk) with
   | false=>exact ⟨E,Zbb.refl W E,ZaK.refl W E M,hr⟩
   | true =>
    obtain ⟨E',g,m,r,rc⟩:=hr.nilrow t
    have e:=Zt7 hn
    have hl:l[i]?=some (.raw (.slice none 0 0)):=by
     rw [List.getD_eq_getElem?_getD] at e
     cases hq:l[i]? with
     | none=>rw [hq] at e; cases e
     | some x=>rw [hq] at e; exact congrArg some e
    have hbl:=(List.getElem?_eq_some_iff.1 hb).1
    obtain ⟨m2,r2⟩:=r.boxput (b:=b) (i:=i) (l:=l) (by rw [List.getElem?_append_left hbl]; exact hb) hl rc
    rw [List.set_append_left _ _ hbl] at r2 m2
    exact ⟨E',g,m.trans m2,r2⟩
  ·exact ⟨E,Zbb.refl W E,ZaK.refl W E M,hr⟩
theorem ZzT:∀ (ps:List Pro) {tm:List AV} {M:Mem} {E:Env},Zel X tm M a W E→∃ E',Zbb W E W E'∧ZaK W E M W E' (ZJo tm M ps).2∧Zel X (ZJo tm M ps).1 (ZJo tm M ps).2 a W E'
 | [],_,M,E,hr=>⟨E,Zbb.refl W E,ZaK.refl W E M,hr⟩
 | p :: ps,tm,M,E,hr=>by
  obtain ⟨E1,g1,m1,r1⟩:=ZGl hr p
  obtain ⟨E2,g2,m2,r2⟩:=ZzT ps r1
  exact Zh8
theorem Zel.boxput2 {b i:Nat} {l:List AC} {x:AC} (hr:Zel X tm M a W E) (hb:M[b]?=some (.box l)) (hx:∀ e cs T,E[b]?=some e→W.heap[e.blk]?=some (.cells cs T (0,0))→∀ u,cs.toList[i]?=some u→Zbo X W E M x u):ZaK W E M W E (M.set b (.box (l.set i x)))∧Zel X tm (M.set b (.box (l.set i x))) a W E:=by
 have hbl:=(List.getElem?_eq_some_iff.1 hb).1
 have m:ZaK W E M W E (M.set b (.box (l.set i x))):=fun j=>by
  exact ZvC
 have g:=Zbb.refl W E
 refine ⟨m,⟨by simp [hr.mem.len],hr.mem.nodup,fun j b' e hb' he=>?_,hr.mem.lt,hr.mem.xlt,hr.mem.xsz⟩,hr.tmps.mono g m hr.mem.len,hr.dfr⟩
 by_cases hj:b=j
 ·subst hj
  rw [List.getElem?_set_self hbl] at hb'
  obtain rfl:=Option.some.inj hb'
  obtain ⟨q1,cs,T,q2,q3⟩:=hr.mem.at_ _ _ e hb he
  exact ⟨q1,cs,T,q2,Zbu.mono g m hr.mem.len (Zbu.put i q3 (hx e cs T he q2))⟩
 ·exact ZvJ
theorem ZBA (hr:Zel X tm M a W E) (b c k:Nat):∃ E',Zbb W E W E'∧ZaK W E M W E' (ZzL M b c k)∧Zel X tm (ZzL M b c k) a W E':=by
 have stay:∃ E',Zbb W E W E'∧ZaK W E M W E' M∧Zel X tm M a W E':=⟨E,Zbb.refl W E,ZaK.refl W E M,hr⟩
 unfold ZzL
 split
 ·rename_i l hb
  split
  ·rename_i j v hc
   cases hjk:Nat.beq j k with
   | true=>exact stay
   | false =>
    simp only [cond_false]
    split
    ·rename_i t ys vj cj t' xs vk ck hj hk
     cases hv:Nat.beq v vj with
     | false=>exact stay
     | true =>
      simp only [cond_true]
      split
      ·rename_i ht
       subst ht
       obtain rfl:=Nat.eq_of_beq_eq_true hv
       have hne:j ≠ k:=fun e=>by rw [e,Nat.beq_refl] at hjk; cases hjk
       obtain ⟨E',g,m,rm,rc⟩:=ZqW hr.mem hk hj hne
       have hbj:b ≠ j:=fun e=>by rw [e,hj] at hb; cases hb
       have hbk:b ≠ k:=fun e=>by rw [e,hk] at hb; cases hb
       have hb' : ((ZbU M [j]).set k (.row t' ys (vk + 1) (ck + 1) none))[b]?=some (.box l):=by
        rw [List.getElem?_set_ne (Ne.symm hbk),Za2 (fun q hq e=>hbj (by rw [← List.mem_singleton.1 hq]; exact e.symm))]
        exact hb
       obtain ⟨m2,r2⟩:=Zel.boxput2 (X:=X) (tm:=tm) (a:=a) (i:=c) (x:=.row k (vk + 1)) ⟨rm,hr.tmps.mono g m hr.mem.len,hr.dfr⟩ hb' (fun e cs T he hcs u hu=>by
        have hble:b < E.length:=by rw [← hr.mem.len]; exact (List.getElem?_eq_some_iff.1 hb).1
        obtain ⟨e0,he0⟩:∃ e0,E[b]?=some e0:=⟨_,List.getElem?_eq_getElem hble⟩
        obtain ⟨e',h1,h2⟩:=g.blk b e0 he0
        obtain rfl:=Option.some.inj (h1.symm.trans he)
        obtain ⟨_,cs0,T0,q2,q3⟩:=hr.mem.at_ _ _ e0 hb he0
        rw [h2] at hcs
        have hcc:=Option.some.inj (q2.symm.trans hcs)
        injection hcc with hcc
        subst hcc
        obtain ⟨w,w1,w2⟩:=q3.get hc
        obtain rfl:=Option.some.inj (w1.symm.trans hu)
        have h3:=(w2:Zbo X W E M (.row j v) w).2
        unfold ZbL at h3
        rw [hj] at h3
        obtain ⟨ej,p1,p2⟩:=h3.2 rfl
        rw [p2]
        exact rc ej p1)
       exact ⟨E',g,m.trans m2,r2⟩
      ·exact stay
    ·exact stay
  ·exact stay
 ·exact stay
theorem ZlC (b:Nat):∀ (l:List AC) (c:Nat) {M:Mem} {E:Env},Zel X tm M a W E→∃ E',Zbb W E W E'∧ZaK W E M W E' (ZtK M b c l)∧Zel X tm (ZtK M b c l) a W E'
 | [],_,M,E,hr=>⟨E,Zbb.refl W E,ZaK.refl W E M,hr⟩
 | x :: l,c,M,E,hr=>by
  cases x with
  | row k _ =>
   obtain ⟨E1,g1,m1,r1⟩:=ZBA hr b c k
   obtain ⟨E2,g2,m2,r2⟩:=ZlC b l (c + 1) r1
   exact Zh8
  | _=>exact ZlC b l (c + 1) hr
theorem Zip:∀ (b:Nat) (h:Mem) {M:Mem} {E:Env},Zel X tm M a W E→∃ E',Zbb W E W E'∧ZaK W E M W E' (Zke M b h)∧Zel X tm (Zke M b h) a W E'
 | _,[],M,E,hr=>⟨E,Zbb.refl W E,ZaK.refl W E M,hr⟩
 | b,x :: h,M,E,hr=>by
  cases x with
  | box l =>
   obtain ⟨E1,g1,m1,r1⟩:=ZlC b l 0 hr
   obtain ⟨E2,g2,m2,r2⟩:=Zip (b + 1) h r1
   exact Zh8
  | _=>exact Zip (b + 1) h hr
theorem ZzU:∀ {l:List AV} {vs:List Value} (i:Nat) {x:AV},Zbv X W E M l vs→(∀ u,vs[i]?=some u→Zcd X W E M x u)→Zbv X W E M (l.set i x) vs
 | [],_,_,_,h,_=>h
 | _ :: _,_,0,_,⟨v,r,e,_,h2⟩,hx=>⟨v,r,e,hx v (by rw [e]; rfl),h2⟩
 | _ :: _,_,i + 1,_,⟨v,r,e,h1,h2⟩,hx=>⟨v,r,e,h1,ZzU i h2 (fun u hu=>hx u (by rw [e]; simpa using hu))⟩
theorem ZyC {q:List AV × Mem} (hr:Zel X q.1 q.2 a W E) (i k:Nat):∃ E',Zbb W E W E'∧ZaK W E q.2 W E' (ZnU q i k).2∧Zel X (ZnU q i k).1 (ZnU q i k).2 a W E':=by
 have stay:∃ E',Zbb W E W E'∧ZaK W E q.2 W E' q.2∧Zel X q.1 q.2 a W E':=⟨E,Zbb.refl W E,ZaK.refl W E q.2,hr⟩
 unfold ZnU
 split
 ·rename_i j v hc
  cases hjk:Nat.beq j k with
  | true=>exact stay
  | false =>
   simp only [cond_false]
   split
   ·rename_i t ys vj cj t' xs vk ck hj hk
    cases hv:Nat.beq v vj with
    | false=>exact stay
    | true =>
     simp only [cond_true]
     split
     ·rename_i ht
      subst ht
      obtain rfl:=Nat.eq_of_beq_eq_true hv
      have hne:j ≠ k:=fun e=>by rw [e,Nat.beq_refl] at hjk; cases hjk
      obtain ⟨E',g,m,rm,rc⟩:=ZqW hr.mem hk hj hne
      refine ⟨E',g,m,rm,ZzU i (hr.tmps.mono g m hr.mem.len) (fun u hu=>?_),hr.dfr⟩
      obtain ⟨w,w1,w2⟩:=hr.tmps.get hc
      obtain rfl:=Option.some.inj (w1.symm.trans hu)
      have h3:=(w2:Zbo X W E q.2 (.row j v) w).2
      unfold ZbL at h3
      rw [hj] at h3
      obtain ⟨ej,p1,p2⟩:=h3.2 rfl
      rw [p2]
      exact rc ej p1
     ·exact stay
   ·exact stay
 ·exact stay
theorem Zec:∀ (h:List AV) (i:Nat) {q:List AV × Mem} {E:Env},Zel X q.1 q.2 a W E→∃ E',Zbb W E W E'∧ZaK W E q.2 W E' (Zl3 q i h).2∧Zel X (Zl3 q i h).1 (Zl3 q i h).2 a W E'
 | [],_,q,E,hr=>⟨E,Zbb.refl W E,ZaK.refl W E q.2,hr⟩
 | x :: h,i,q,E,hr=>by
  cases x with
  | w z =>
   cases z with
   | c c0 =>
    cases c0 with
    | row k ver =>
     obtain ⟨E1,g1,m1,r1⟩:=ZyC hr i k
     obtain ⟨E2,g2,m2,r2⟩:=Zec h (i + 1) r1
     exact Zh8
    | _=>exact Zec h (i + 1) hr
   | ag l=>exact Zec h (i + 1) hr
  | tp l=>exact Zec h (i + 1) hr
  | any=>exact Zec h (i + 1) hr
theorem ZD6 {n0:Nat} {inp:List Nat} {tm0 tm' : List AV} {M0 M' : Mem} {h:List AV × Mem} (hle:leS n0 inp tm0 M0 tm' M' h):Zyu M0=true:=by
 obtain ⟨_,_,h3⟩:=hle
 simp only [Bool.and_eq_true] at h3
 exact h3.2.2.2
theorem Zhl.head {W0:World} {E0:Env} {tm' : List AV} {h:List AV × Mem} (hT:ZpZ X W0 E0 T) (hs:Zhl T W0 E0 W E M) (hle:leS T.n0 T.inp tm M tm' (M.map (Zdh M)) h):Zhl T W0 E0 W (E.take h.2.length) h.2:=by
 obtain ⟨h1,h2,h3⟩:=hle
 rw [Bool.and_eq_true,Bool.and_eq_true (a:=Nat.ble _ _)] at h3
 obtain ⟨_,hn,hi⟩:=h3
 rw [Bool.and_eq_true] at hi
 replace hi:=hi.1
 have hn:=Nat.le_of_ble_eq_true hn
 rw [hT.2.1] at hn
 refine ⟨ZD4 hn hs.g,fun i hii=>?_⟩
 obtain ⟨z,e⟩:=ZDZ h2
 have hlt:i < h.2.length:=Nat.lt_of_lt_of_le (hT.2.2.1 i hii) hn
 have e1:h.2[i]?=(M.map (Zdh M))[i]?:=by rw [e,List.getElem?_append_left hlt]
 have hv:=List.all_eq_true.1 hi i hii
 rcases hs.kept i hii with hd | ⟨t,xs,v,c,hh,k1,k2⟩
 ·rw [hd] at hv; cases hv
 ·rw [k1] at hv
  cases hh with
  | some _=>cases hv
  | none =>
  obtain rfl:=Nat.eq_of_beq_eq_true (show Nat.beq v 0=true from hv)
  refine .inr ⟨t,xs,0,0,none,by rw [e1,Zst,k1]; rfl,fun _ e0 he0=>?_⟩
  obtain ⟨e',q1,q2⟩:=k2 rfl e0 he0
  exact ⟨e',by rw [List.getElem?_take,if_pos hlt]; exact q1,q2⟩
theorem Zjm {W0:World} {E0:Env} (hT:ZpZ X W0 E0 T) {A:Zbe} {K:Exit→List AV→Mem→Prop} {Q:Exit→Act→World→Prop} (hS:∀ e tm M a W E,K e tm M→Zel X tm M a W E→Zhl T W0 E0 W E M→Q e a W)
 (h2:∀ q,A.inv q→K .normal (A.hd q).1 (A.hd q).2):∀ e tm M a W E,Zp2 T A K e tm M→Zel X tm M a W E→Zhl T W0 E0 W E M→Q e a W:=fun e tm' M' a' W' E' hk hr' hg'=>by
 cases e with
 | normal =>
  obtain ⟨q,hi,hl⟩:=hk
  obtain ⟨E2,g2,m2,r2⟩:=Zip 0 (A.hd q).2 hr'
  obtain ⟨E3,g3,m3,r3⟩:=Zec (A.hd q).1 0 (q:=(tm',Zke M' 0 (A.hd q).2)) r2
  exact hS _ _ _ _ _ _ (h2 q hi) ((r3.back (ZD6 hl)).le hl) (((hg'.step g2 m2).step g3 m3).head hT hl)
 | _=>exact hS _ _ _ _ _ _ hk hr' hg'
theorem Zt4 {L:Nat→List AV→Mem→Zbe} {W0:World} {E0:Env} (hT:ZpZ X W0 E0 T):∀ (c:Code) (tm:List AV) (M:Mem) (a:Act) (W:World) (E:Env) (K:Exit→List AV→Mem→Prop) (Q:Exit→Act→World→Prop),
 (∀ e tm M a W E,K e tm M→Zel X tm M a W E→Zhl T W0 E0 W E M→Q e a W)→ZdT T L c tm M K→Zel X tm M a W E→Zhl T W0 E0 W E M→c.wp P Q a W:=by
 intro c
 induction c with
 | skip=>intro tm M a W E K Q hS h hr hg; exact wp_skip (hS _ _ _ _ _ _ h hr hg)
 | label l=>intro tm M a W E K Q hS h hr hg; exact wp_label (hS _ _ _ _ _ _ h hr hg)
 | exit id=>intro tm M a W E K Q hS h hr hg; exact wp_exit (hS _ _ _ _ _ _ h hr hg)
 | ret=>intro tm M a W E K Q hS h hr hg; exact wp_ret (hS _ _ _ _ _ _ h hr hg)
 | region id ops draw =>
  intro tm M a W E K Q hS h0 hr hg
  have h:bif draw then (P.follows .mixedOrders=true∧okA T ops (ZE7 T id ops) false (Array.replicate ops.size false)=true)∧Zkd T ops (ZE7 T id ops) tm M (fun tm M=>K .normal tm M) else (match T.pro (id + 2000000) with | []=>Zhj T ops.toList ops.toList tm M (fun tm M=>K .normal tm M) | _ :: _=>let A:=L (id + 2000000) (tm.map (Zhk M)) (M.map (Zdh M)); Zhj T ops.toList ops.toList tm M (fun tm M=>Zp2 T A K .normal tm M)∧∀ q,A.inv q→K .normal (A.hd q).1 (A.hd q).2):=by
   have h0:bif ops.toList.any Zyv then False else (bif draw then (P.follows .mixedOrders=true∧okA T ops (ZE7 T id ops) false (Array.replicate ops.size false)=true)∧Zkd T ops (ZE7 T id ops) tm M (fun tm M=>K .normal tm M) else (match T.pro (id + 2000000) with | []=>Zhj T ops.toList ops.toList tm M (fun tm M=>K .normal tm M) | _ :: _=>let A:=L (id + 2000000) (tm.map (Zhk M)) (M.map (Zdh M)); Zhj T ops.toList ops.toList tm M (fun tm M=>Zp2 T A K .normal tm M)∧∀ q,A.inv q→K .normal (A.hd q).1 (A.hd q).2)):=h0
   cases hp:ops.toList.any Zyv with
   | true=>rw [hp] at h0; exact h0.elim
   | false=>rw [hp] at h0; exact h0
  cases draw with
  | false =>
   have h1:(match T.pro (id + 2000000) with | []=>Zhj T ops.toList ops.toList tm M (fun tm M=>K .normal tm M) | _ :: _=>let A:=L (id + 2000000) (tm.map (Zhk M)) (M.map (Zdh M)); Zhj T ops.toList ops.toList tm M (fun tm M=>Zp2 T A K .normal tm M)∧∀ q,A.inv q→K .normal (A.hd q).1 (A.hd q).2):=h
   split at h1
   ·exact wp_region_list (Zdi hT (K:=fun tm M=>K .normal tm M) (fun tm M a W E hk hr hg=>hS _ _ _ _ _ _ hk hr hg) ops.toList tm M a W E h1 hr hg)
   ·simp only at h1
    obtain ⟨h1,h2⟩:=h1
    obtain ⟨A,hA⟩:∃ A,A=L (id + 2000000) (tm.map (Zhk M)) (M.map (Zdh M)):=⟨_,rfl⟩
    rw [← hA] at h1 h2
    have hS':=Zjm hT hS h2
    exact wp_region_list (Zdi hT (K:=fun tm M=>Zp2 T A K .normal tm M) (fun tm M a W E hk hr hg=>hS' _ _ _ _ _ _ hk hr hg) ops.toList tm M a W E h1 hr hg)
  | true =>
   obtain ⟨⟨hm,hB⟩,h⟩:=(h:(P.follows .mixedOrders=true∧okA T ops (ZE7 T id ops) false (Array.replicate ops.size false)=true)∧Zkd T ops (ZE7 T id ops) tm M (fun tm M=>K .normal tm M))
   have:=Zoe _ ops.size _ _ _ ((Zge (T:=T) (ops:=ops) _ _ tm M (ZyA ops.size) h).1 hB) (ZGk _ _)
   exact wp_region_any hm (ZmU (T:=T) (X:=X) (W0:=W0) hT (fun tm M a W E hk hr hg=>hS _ _ _ _ _ _ hk hr hg) _ _ tm M a _ E hr.drew (hg.step (Zog hr.mem) (ZqQ hr.mem)) this)
 | seq x y ihx ihy =>
  intro tm M a W E K Q hS h hr hg
  refine wp_seq (ihx tm M a W E _ _ (fun e tm M a W E hk hr hg=>?_) h hr hg)
  cases e with
  | normal=>exact ihy tm M a W E K Q hS hk hr hg
  | _=>exact hS _ _ _ _ _ _ hk hr hg
 | cond c x y ihx ihy =>
  intro tm M a W E K Q hS h hr hg
  unfold ZdT at h
  split at h
  ·skip
   cases c with
   | tmp t =>
    simp only at h
    split at h
    ·rename_i g hq
     have hl:=hr.lit hq
     have he:=Zam hr.tmps (.tmp t)
     have he' : a.eval (.tmp t)=.bool g:=by
      exact ZvW
     cases g with
     | true=>exact wp_cond_true he' (ihx _ M a W E K Q hS h hl hg)
     | false=>exact wp_cond_false he' (ihy _ M a W E K Q hS h hl hg)
    ·exact h.elim
   | const v =>
    split at h
    ·rename_i t hq; cases hq
    ·rename_i g hq
     obtain rfl:v=.bool g:=by injection hq
     cases g with
     | true=>exact wp_cond_true rfl (ihx _ M a W E K Q hS h hr hg)
     | false=>exact wp_cond_false rfl (ihy _ M a W E K Q hS h hr hg)
    ·exact h.elim
   | global g=>exact h.elim
   | func f=>exact h.elim
  ·simp only at h
   obtain ⟨h,h2⟩:=h
   obtain ⟨A,hA⟩:∃ A,A=L (ZcJ x + 1000000) (tm.map (Zhk M)) (M.map (Zdh M)):=⟨_,rfl⟩
   rw [← hA] at h h2
   have hS':=Zjm hT hS h2
   cases c with
   | tmp t =>
    simp only at h
    split at h
    ·rename_i g hq
     have hl:=hr.lit hq
     have he:=Zam hr.tmps (.tmp t)
     have he' : a.eval (.tmp t)=.bool g:=by
      exact ZvW
     cases g with
     | true=>exact wp_cond_true he' (ihx _ M a W E _ Q hS' h hl hg)
     | false=>exact wp_cond_false he' (ihy _ M a W E _ Q hS' h hl hg)
    ·exact h.elim
   | const v=>exact h.elim
   | global g=>exact h.elim
   | func f=>exact h.elim
 | block id x ih =>
  intro tm M a W E K Q hS h hr hg
  have key:∀ K' : Exit→List AV→Mem→Prop,(∀ e tm M a W E,K' e tm M→Zel X tm M a W E→Zhl T W0 E0 W E M→Q e a W) →
   ZdT T L x tm M (fun e tm M=>match e with | .exit id'=>(bif Nat.beq id' id then K' .normal tm M else K (.exit id') tm M) | e=>K' e tm M)→(Code.block id x).wp P Q a W:=fun K' hS' h=>by
   refine wp_block (ih tm M a W E _ _ (fun e tm M a W E hk hr hg=>?_) h hr hg)
   cases e with
   | exit id' =>
    show (if id'=id then Q .normal a W else Q (.exit id') a W)
    have hk:(bif Nat.beq id' id then K' .normal tm M else K (.exit id') tm M):=hk
    by_cases hid:id'=id
    ·rw [if_pos hid]
     rw [hid,Nat.beq_refl] at hk
     exact hS' _ _ _ _ _ _ hk hr hg
    ·rw [if_neg hid]
     have hb:Nat.beq id' id=false:=by
      cases hb:Nat.beq id' id with
      | false=>rfl
      | true=>exact absurd (Nat.eq_of_beq_eq_true hb) hid
     rw [hb] at hk
     exact hS _ _ _ _ _ _ hk hr hg
   | _=>exact hS' _ _ _ _ _ _ hk hr hg
  unfold ZdT at h
  split at h
  ·exact key K hS h
  ·simp only at h
   obtain ⟨h,h2⟩:=h
   exact key _ (Zjm hT hS h2) h
 | loop x ih =>
  intro tm M a W E K Q hS h hr hg
  unfold ZdT at h
  obtain ⟨E1,g1,m1,r1⟩:=ZzT (T.pro (ZcJ x)) hr
  obtain ⟨tm1,htm1⟩:∃ z,z=(ZJo tm M (T.pro (ZcJ x))).1:=⟨_,rfl⟩
  obtain ⟨M1,hM1⟩:∃ z,z=(ZJo tm M (T.pro (ZcJ x))).2:=⟨_,rfl⟩
  rw [← htm1,← hM1] at r1
  rw [← hM1] at m1
  have hs1:=hg.step g1 m1
  obtain ⟨A,hA⟩:∃ A,A=L (ZcJ x) (tm1.map (Zhk M1)) (M1.map (Zdh M1)):=⟨_,rfl⟩
  have h:(∃ y,A.inv y∧leS T.n0 T.inp tm1 M1 (tm1.map (Zhk M1)) (M1.map (Zdh M1)) (A.hd y)) ∧
   ∀ y,A.inv y→ZdT T L x (A.hd y).1 (A.hd y).2 (fun e tm' M'=>match e with | .normal=>∃ y',A.inv y'∧A.μ y' < A.μ y∧(let p:=Zl3 (tm',Zke M' 0 (A.hd y).2) 0 (A.hd y).1; leS T.n0 T.inp p.1 p.2 (p.1.map (Zhk p.2)) (p.2.map (Zdh p.2)) (A.hd y')) | e=>K e tm' M'):=by rw [hA,htm1,hM1]; exact h
  obtain ⟨⟨y0,hi0,hl0⟩,hround⟩:=h
  refine wp_loop_ghost (fun n a' w'=>∃ y E',A.inv y∧A.μ y=n∧Zel X (A.hd y).1 (A.hd y).2 a' w' E'∧Zhl T W0 E0 w' E' (A.hd y).2) (A.μ y0) ⟨y0,_,hi0,rfl,(r1.back (ZD6 hl0)).le hl0,hs1.head hT hl0⟩ ?_
  intro n a' w' hI
  obtain ⟨y,E',hiy,rfl,hry,hgy⟩:=hI
  refine ih _ _ a' w' E' _ _ (fun e tm' M' a' W' E' hk hr' hg'=>?_) (hround y hiy) hry hgy
  cases e with
  | normal =>
   obtain ⟨y',hi',hlt,hl'⟩:=hk
   obtain ⟨E2,g2,m2,r2⟩:=Zip 0 (A.hd y).2 hr'
   obtain ⟨E3,g3,m3,r3⟩:=Zec (A.hd y).1 0 (q:=(tm',Zke M' 0 (A.hd y).2)) r2
   exact ⟨_,hlt,y',_,hi',rfl,(r3.back (ZD6 hl')).le hl',((hg'.step g2 m2).step g3 m3).head hT hl'⟩
  | _=>exact hS _ _ _ _ _ _ hk hr' hg'
 | _=>intro tm M a W E K Q hS h hr hg; exact h.elim
theorem ZGm {r:ResultVar} {x:AW} (hM:RepM X W E M) (ht:Zbv X W E M tm a.tmps.toList) (h:ZMD P tm M r=some x) :
 ∃ v,((match r with | .tmp t=>pure (a.tmps.getD t undef) | .cell p t=>do loadVar t (← asAddr (a.tmps.getD p undef)):Sem Value)).run P W=.ok v W∧Zhv X W E M x v:=by
 unfold ZMD at h
 split at h
 ·rename_i t
  have he:=Zam ht (.tmp t)
  have he:Zcd X W E M (tm.getD t .any) (a.tmps.getD t undef):=he
  split at h
  ·rename_i y hy
   obtain rfl:=Option.some.inj h
   rw [hy] at he
   exact ⟨_,rfl,he⟩
  ·cases h
 ·rename_i p t
  have he:=Zam ht (.tmp p)
  have he:Zcd X W E M (tm.getD p .any) (a.tmps.getD p undef):=he
  split at h
  ·rename_i i q hy
   rw [hy] at he
   obtain ⟨e,hei,hv⟩:=(he:Zhi E i _ q)
   split at h
   ·rename_i l hb
    split at h
    ·rename_i z hz
     obtain rfl:=Option.some.inj h
     obtain ⟨_,cs,T,hgc,hl⟩:=hM.at_ i _ e hb hei
     obtain ⟨u,h1,h2⟩:=ZzC (P:=P) hgc hl hz
     refine ⟨u,?_,h2⟩
     simp only [Sem.run_bind]
     rw [hv]
     simp only [asAddr,Sem.run_pure,Result.andThen_ok]
     exact h1
    ·cases h
   ·cases h
  ·cases h
theorem ZzV (hM:RepM X W E M) (ht:Zbv X W E M tm a.tmps.toList):∀ {rs:List ResultVar} {l:List AW},ZHO P tm M rs=some l →
 ∃ vs,(rs.mapM (fun r=>(match r with | .tmp t=>pure (a.tmps.getD t undef) | .cell p t=>do loadVar t (← asAddr (a.tmps.getD p undef)):Sem Value))).run P W=.ok vs W∧ZcC X W E M l vs
 | [],l,h=>by
  obtain rfl:=Option.some.inj h
  exact ⟨[],rfl,rfl⟩
 | r :: rs,l,h=>by
  unfold ZHO at h
  cases hx:ZMD P tm M r with
  | none=>rw [hx] at h; cases h
  | some x =>
   rw [hx] at h
   simp only at h
   cases hxs:ZHO P tm M rs with
   | none=>rw [hxs] at h; cases h
   | some xs =>
    rw [hxs] at h
    obtain rfl:=Option.some.inj h
    obtain ⟨v,h1,h2⟩:=ZGm hM ht hx
    obtain ⟨vs,h3,h4⟩:=ZzV hM ht hxs
    refine ⟨v :: vs,?_,v,vs,rfl,h2,h4⟩
    rw [List.mapM_cons]
    simp only [Sem.run_bind,h1,Result.andThen_ok,h3,Sem.run_pure]
theorem ZcC.len:∀ {l:List AW} {vs:List Value},ZcC X W E M l vs→vs.length=l.length
 | [],_,h=>by rw [show _=_ from h]; rfl
 | _ :: _,_,⟨v,r,e,_,h2⟩=>by rw [e,List.length_cons,ZcC.len h2,List.length_cons]
theorem ZyD {fn:Func} {l:List AW} (hM:RepM X W E M) (ht:Zbv X W E M tm a.tmps.toList) (h:ZHO P tm M fn.results.toList=some l):∃ v,(results fn a.tmps).run P W=.ok v W∧Zcd X W E M (ZME l) v:=by
 obtain ⟨vs,h1,h2⟩:=ZzV hM ht h
 have hlen:=h2.len
 have hrun:(results fn a.tmps).run P W=.ok (if h:vs.toArray.size=1 then vs.toArray[0] else .tuple vs.toArray) W:=by
  unfold results
  rw [Array.mapM_eq_mapM_toList]
  simp only [Sem.run_bind,Sem.run_map]
  exact Eq.trans (congrArg (fun z:Result (List Value)=>(z.andThen (fun a w'=>Result.ok a.toArray w')).andThen (fun a w'=>Sem.run P (pure (if h:a.size=1 then a[0] else Value.tuple a)) w')) h1) rfl
 refine ⟨_,hrun,?_⟩
 cases l with
 | nil =>
  obtain rfl:vs=[]:=h2
  exact ⟨[],rfl,rfl⟩
 | cons x l =>
  cases l with
  | nil =>
   obtain ⟨v,r,rfl,q1,rfl⟩:=h2
   exact q1
  | cons y l =>
   have:¬ vs.toArray.size=1:=by simp at hlen ⊢; omega
   rw [dif_neg this]
   exact ⟨vs,rfl,h2⟩
theorem Zt5:∀ {args:List AW} {vs:List Value} (n:Nat),ZcC X W E M args vs→Zbv X W E M (args.map .w ++ List.replicate n Zgc) (vs ++ List.replicate n undef)
 | [],vs,n,h=>by
  obtain rfl:vs=[]:=h
  induction n with
  | zero=>rfl
  | succ n ih=>exact ⟨_,_,rfl,ZqM,ih⟩
 | _ :: _,_,n,⟨v,r,e,h1,h2⟩=>by rw [e]; exact ⟨v,_,rfl,h1,Zt5 n h2⟩
theorem ZE8 (hsz:∀ b ∈ X,b < W.heap.size):RepM X W [] []:=⟨rfl,List.nodup_nil,fun i b e h=>by simp at h,fun b hb=>by simp [foots] at hb,fun b _=>by simp [foots],hsz⟩
theorem Zjn {L:Nat→List AV→Mem→Zbe} {f:FuncId} {fn:Func} {args:List AW} {vs:List Value} {M0:Mem} {E0:Env} {Q:AV→Mem→Prop} (hf:P.funcs[f]?=some fn) (hT:ZpZ X W E0 T) (h:ZBu T L fn args M0 Q) (hM0:RepM X W E0 M0) (hr:ZcC X W E0 M0 args vs)
 (hinp:∀ i ∈ T.inp,∃ t xs v c,M0[i]?=some (.row t xs v c none)) :
 Calls P f vs.toArray W (fun e W'=>∃ v E' M' r,e=.returned v∧Zhl T W E0 W' E' M'∧RepM X W' E' M'∧Zcd X W' E' M' r v∧Q r M'):=by
 unfold ZBu at h
 cases hb:fn.body with
 | none=>rw [hb] at h; exact h.elim
 | some c =>
  rw [hb] at h
  simp only at h
  refine calls_of_wp hf hb (Zt4 (T:=T) (L:=L) (X:=X) (W0:=W) hT c (ZJp fn.ntmps args) M0 _ W E0 _ _ (fun e tm M a W' E' hk hr' hg=>?_) h ⟨hM0,?_,rfl⟩ ⟨Zbb.refl _ _,fun i hi=>?_⟩)
  ·have fin:∀ (hk:match ZHO P tm M fn.results.toList with | some l=>Q (ZME l) M | none=>False),a.defers=[]∧∃ v,(results fn a.tmps).run P W'=.ok v W'∧∃ v' E' M' r,Ending.returned v=.returned v'∧Zhl T W E0 W' E' M'∧RepM X W' E' M'∧Zcd X W' E' M' r v'∧Q r M':=fun hk=>by
    split at hk
    ·rename_i l hl
     obtain ⟨v,h1,h2⟩:=ZyD hr'.mem hr'.tmps hl
     exact ⟨hr'.dfr,v,h1,v,E',M,_,rfl,hg,hr'.mem,h2,hk⟩
    ·exact hk.elim
   cases e with
   | normal=>exact fin hk
   | ret=>exact fin hk
   | _=>exact hk.elim
  ·have:=Zt5 (fn.ntmps - vs.length) hr
   have hl:=hr.len
   unfold ZJp
   rw [hl] at this
   have e1:(vs.toArray ++ Array.replicate (fn.ntmps - vs.toArray.size) undef).toList=vs ++ List.replicate (fn.ntmps - args.length) undef:=by simp [hl]
   show Zbv X W E0 M0 _ (vs.toArray ++ Array.replicate (fn.ntmps - vs.toArray.size) undef).toList
   rw [e1]
   exact this
  ·obtain ⟨t,xs,v,c,hi'⟩:=hinp i hi
   exact .inr ⟨t,xs,v,c,none,hi',fun _ e0 he0=>⟨e0,he0,rfl⟩⟩
end
end Go.Proofs.YtkeglpnnedflnaaGreatDoor
