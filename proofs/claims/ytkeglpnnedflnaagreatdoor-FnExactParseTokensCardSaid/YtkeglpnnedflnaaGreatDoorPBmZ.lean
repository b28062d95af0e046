import Derived.Test.YtkeglpnnedflnaaGreatDoorPBmE
import Derived.Maps.AppendAt
import Derived.Great.BuildSlice
import Derived.IntWalk
import Derived.Laws.IdiomStrings
import Derived.Lib.AppendStr
set_option linter.unusedSimpArgs false
set_option linter.unusedVariables false
namespace Go.Proofs.YtkeglpnnedflnaaGreatDoor
open Go.ChangeShapes Go.WideShapes Go.ChangeAt Go.RowKit Go.Joins Go.Deep
open GoRep (rep bulk)
section
variable {P:Program} (w:World)
theorem Zmo (t ty e T:TypeId) (i:TypeInfo) (z:Value) (ht:P.underlying t=some (.slice e)) (hi:P.info? e=some i) (hz:i.zero=some z) (hzs:z.cells.size=i.size) (hsz:0 < i.size)
 (v:Value) (n:Nat) (xs:List Value) (hown:w.ownsRow 0 T i.size v n xs)
 (A:Option Addr) (m c:Nat) (news:List Value) (hl:news.length=m * i.size) (hA:m=0∨∃ a,A=some a∧∀ j u,news[j]?=some u→w.cell? (a.add j)=some u) (h1:∀ u ∈ news,u.oneCell'=true)
 (h63:n + m≤maxLen) (hbytes:(n + m) * i.bytes≤140737488355328) :
 ∃ v' w' T',(Builtin.append_ #[t,t] ty #[v, .slice A m c]).run P w=.ok v' w'∧w'.ownsRow 0 T' i.size v' (n + m) (xs ++ news)∧w.grownBy w' v.ownBlock∧(v'.ownBlock=v.ownBlock∨v'.ownBlock=some w.heap.size)∧(m=0→v'=v∧w'=w):=by
 have hsmall:n + m≤9223372036854775807:=by simp only [maxLen] at h63; omega
 have hlen:(xs ++ news).length=(n + m) * i.size:=by rw [List.length_append,hown.1,hl,Nat.add_mul]
 by_cases hm:m=0
 ·subst hm
  have hn:news=[]:=List.eq_nil_of_length_eq_zero (by simpa using hl)
  subst hn
  refine ⟨v,w,T,?_,by simpa using hown,⟨rfl,rfl,rfl,Nat.le_refl _,fun _ _ _=>rfl⟩, .inl rfl,fun _=>⟨rfl,rfl⟩⟩
  rcases hown.2 with ⟨rfl,rfl⟩ | ⟨g,cap,cur,rfl,hbg,hg,hnc,hcm,hcs,htake⟩
  ·cases A <;> simp [Builtin.append_,run_underlying ht,sizeOf,typeInfo,hi,Builtin.lenOf,Builtin.firstCells,loadCells,loadCellsFrom]
  ·cases A <;> simp [Builtin.append_,run_underlying ht,sizeOf,typeInfo,hi,Builtin.lenOf,Builtin.firstCells,loadCells,loadCellsFrom,hnc,storeCells]
 ·obtain ⟨a,rfl,hnews⟩:=hA.resolve_left hm
  have grown:∀ (old:Nat),old < n + m→∀ (row:Option Nat),
   (w.drew.alloc (.cells (xs.toArray ++ news.toArray ++ Builtin.zeroCells z.cells (grownCap w (n + m) old e - (n + m))) e)).ownsRow 0 e i.size
    (.slice (some ⟨w.heap.size,0,none⟩) (n + m) (grownCap w (n + m) old e)) (n + m) (xs ++ news) ∧
   w.grownBy (w.drew.alloc (.cells (xs.toArray ++ news.toArray ++ Builtin.zeroCells z.cells (grownCap w (n + m) old e - (n + m))) e)) row:=by
   intro old ho row
   have hge:=grownCap_ge w (n + m) old e
   have hcm:grownCap w (n + m) old e≤maxLen:=grownCap_le_maxLen w (n + m) old e h63
   refine ⟨⟨hlen, .inr ⟨w.heap.size,_,_,rfl,Nat.zero_le _,heap_alloc_new w.drew _,hge,hcm,?_,?_⟩⟩,⟨rfl,rfl,rfl,by simp,fun k hk _=>Below.heap_alloc w.drew _ k hk⟩⟩
   ·simp only [Array.size_append,List.size_toArray,size_zeroCells,hzs,hown.1,hl,← Nat.add_mul]
    congr 1
    omega
   ·exact ZvD
  rcases hown.2 with ⟨rfl,rfl⟩ | ⟨g,cap,cur,rfl,hbg,hg,hnc,hcm,hcs,htake⟩
  ·have hx:xs=[]:=List.eq_nil_of_length_eq_zero (by simpa using hown.1)
   subst hx
   have hr:=run_append_nil (P:=P) w t ty e i z ht hi hz a m c news hl hnews (by omega) (by omega) (by have hb:=hbytes; simp only [Nat.zero_add] at hb; omega)
   have hgr:=grown 0 (by omega) (Value.ownBlock (.slice none 0 0))
   simp only [Nat.zero_add,List.nil_append,Array.empty_append] at hgr ⊢
   exact Zwf
  ·by_cases hroom:n + m≤cap
   ·have hfit:n * i.size + news.length≤cur.size:=by rw [hl,hcs,← Nat.add_mul]; exact Nat.mul_le_mul_right _ hroom
    have hr:(Builtin.append_ #[t,t] ty #[.slice (some ⟨g,0,none⟩) n cap, .slice (some a) m c]).run P w =
     .ok (.slice (some ⟨g,0,none⟩) (n + m) cap) (w.setRow g (cur.toList.take (n * i.size) ++ news ++ cur.toList.drop (n * i.size + news.length)).toArray):=by
     have hf:=run_firstCells_some (P:=P) w i.size m a m c news hl hnews
     have hst:=run_storeCells_at P g (n * i.size) T news 0 cur w hg (by simpa using hfit) h1
     simp only [Nat.add_zero] at hst
     simp [Builtin.append_,run_underlying ht,sizeOf,typeInfo,hi,Builtin.lenOf,hroom,hf,Addr.add_lit,hst]
    refine ⟨_,_,T,hr,⟨hlen, .inr ⟨g,cap,_,rfl,hbg,setRow_heap w g cur _ T _ hg,hroom,hcm,?_,?_⟩⟩,⟨rfl,rfl,rfl,by simp,fun k _ hk=>setRow_other w g k _ (fun e=>hk (by simp [Value.ownBlock,e]))⟩,Or.inl rfl,fun h=>absurd h hm⟩
    ·simp only [List.size_toArray,List.length_append,List.length_take,List.length_drop,Array.length_toList]
     omega
    ·rw [htake,← hlen]
     exact List.take_left
   ·have holds:∀ j u,xs[j]?=some u→w.cell? ((⟨g,0,none⟩:Addr).add j)=some u:=hown.cells (g:=g) rfl
    have hr:=run_append_grow (P:=P) w t ty e i z ht hi hz ⟨g,0,none⟩ n cap xs hown.1 holds a m c news hl hnews (by omega) (by omega) (growslice_fits (by omega) hbytes)
    have hgr:=grown cap (by omega) (Value.ownBlock (.slice (some ⟨g,0,none⟩) n cap))
    exact Zwf
end
def feet (E:Env) (js:List Nat):List Nat:=js.flatMap fun j=>match E[j]? with | some e=>e.foot | none=>[]
def killE (E:Env):List Nat→Env
 | []=>E
 | j :: js=>killE (E.set j { E.getD j ⟨0,undef,[]⟩ with foot:=[] }) js
theorem ZhX:∀ {E:Env} {i:Nat} {e e' : EB} (x:Nat),E[i]?=some e→(foots (E.set i e')).count x + e.foot.count x=(foots E).count x + e'.foot.count x
 | [],_,_,_,_,h=>by simp at h
 | d :: E,0,e,e',x,h=>by
  obtain rfl:d=e:=by simpa using h
  show (e'.foot ++ foots E).count x + d.foot.count x=(d.foot ++ foots E).count x + e'.foot.count x
  exact ZkQ
 | d :: E,i + 1,e,e',x,h=>by
  have ih:=ZhX (E:=E) (e':=e') x (show E[i]?=some e by simpa using h)
  show (d.foot ++ foots (E.set i e')).count x + e.foot.count x=(d.foot ++ foots E).count x + e'.foot.count x
  exact ZkQ
theorem Zfs:∀ (js:List Nat) (E:Env),(killE E js).length=E.length
 | [],_=>rfl
 | j :: js,E=>by unfold killE; rw [Zfs js]; simp
theorem Zft:∀ (js:List Nat) (M:Mem),(ZbU M js).length=M.length
 | [],_=>rfl
 | j :: js,M=>by unfold ZbU; rw [Zft js]; simp
theorem Zbh:∀ {js:List Nat} {E:Env} {i:Nat},(∀ j ∈ js,j ≠ i)→(killE E js)[i]?=E[i]?
 | [],_,_,_=>rfl
 | j :: js,E,i,h=>by
  unfold killE
  rw [Zbh (fun k hk=>h k (by simp [hk])),List.getElem?_set_ne (h j (by simp))]
theorem Za2:∀ {js:List Nat} {M:Mem} {i:Nat},(∀ j ∈ js,j ≠ i)→(ZbU M js)[i]?=M[i]?
 | [],_,_,_=>rfl
 | j :: js,M,i,h=>by
  unfold ZbU
  rw [Za2 (fun k hk=>h k (by simp [hk])),List.getElem?_set_ne (h j (by simp))]
theorem Zbq:∀ {js:List Nat} {M:Mem} {i:Nat},i ∈ js→i < M.length→(ZbU M js)[i]?=some .dead
 | j :: js,M,i,h,hl=>by
  unfold ZbU
  by_cases hi:i ∈ js
  ·exact Zbq hi (by simpa using hl)
  ·obtain rfl:i=j:=(List.mem_cons.1 h).resolve_right hi
   rw [Za2 (fun k hk e=>hi (by rw [← e]; exact hk))]
   exact List.getElem?_set_self hl
theorem Zey:∀ {js:List Nat} {E:Env} {i:Nat} {e:EB},E[i]?=some e→∃ e',(killE E js)[i]?=some e'∧e'.blk=e.blk
 | [],_,_,e,h=>⟨e,h,rfl⟩
 | j :: js,E,i,e,h=>by
  unfold killE
  by_cases hi:j=i
  ·subst hi
   have hl:=(List.getElem?_eq_some_iff.1 h).1
   obtain ⟨e',h1,h2⟩:=Zey (js:=js) (E:=E.set j { E.getD j ⟨0,undef,[]⟩ with foot:=[] }) (i:=j) (e:={ E.getD j ⟨0,undef,[]⟩ with foot:=[] }) (List.getElem?_set_self hl)
   exact ⟨e',h1,by rw [h2,List.getD_eq_getElem?_getD,h]; rfl⟩
  ·exact Zey (by rw [List.getElem?_set_ne hi]; exact h)
theorem ZeZ {j:Nat} {js:List Nat} (h:ZaW (j :: js)=true):(∀ i ∈ js,i ≠ j)∧ZaW js=true:=by
 unfold ZaW at h
 rw [Bool.and_eq_true] at h
 refine ⟨fun i hi e=>?_,h.2⟩
 have:=List.all_eq_true.1 h.1 i hi
 subst e
 simp at this
theorem ZEl {E:Env} {j:Nat} {js:List Nat} {e:EB} (h:E[j]?=some e):feet E (j :: js)=e.foot ++ feet E js:=by simp [feet,h]
theorem Zz7 {E:Env} {is js:List Nat}:feet E (is ++ js)=feet E is ++ feet E js:=by simp [feet]
theorem Zq8 {E E' : Env}:∀ {js:List Nat},(∀ j ∈ js,E[j]?=E'[j]?)→feet E js=feet E' js
 | [],_=>rfl
 | j :: js,h=>by
  have ih:=Zq8 (js:=js) (fun k hk=>h k (by simp [hk]))
  unfold feet at ih ⊢
  rw [List.flatMap_cons,List.flatMap_cons,ih,h j (by simp)]
theorem ZkC {E:Env} {b:Nat}:∀ {js:List Nat},b ∈ feet E js→∃ j ∈ js,∃ e,E[j]?=some e∧b ∈ e.foot
 | js,h=>by
  obtain ⟨j,hj,hb⟩:=List.mem_flatMap.1 h
  cases he:E[j]? with
  | none=>rw [he] at hb; cases hb
  | some e=>rw [he] at hb; exact ⟨j,hj,e,he,hb⟩
theorem Zeq:∀ {js:List Nat} {E:Env} (x:Nat),ZaW js=true→(∀ j ∈ js,j < E.length)→(foots (killE E js)).count x + (feet E js).count x=(foots E).count x
 | [],_,_,_,_=>by simp [killE,feet]
 | j :: js,E,x,hd,hl=>by
  obtain ⟨h1,h2⟩:=ZeZ hd
  have hj:=List.getElem?_eq_getElem (hl j (by simp))
  have c1:=ZhX (e':={ E.getD j ⟨0,undef,[]⟩ with foot:=[] }) x hj
  have ih:=Zeq (js:=js) (E:=E.set j { E.getD j ⟨0,undef,[]⟩ with foot:=[] }) x h2 (fun k hk=>by simpa using hl k (by simp [hk]))
  have hf:feet (E.set j { E.getD j ⟨0,undef,[]⟩ with foot:=[] }) js=feet E js:=Zq8 (fun k hk=>List.getElem?_set_ne (fun e=>h1 k hk e.symm))
  unfold killE
  rw [ZEl hj,List.count_append]
  rw [hf] at ih
  have c1:(foots (E.set j { E.getD j ⟨0,undef,[]⟩ with foot:=[] })).count x + (E[j]'(hl j (by simp))).foot.count x=(foots E).count x:=c1
  omega
theorem ZbO {l:List Nat} (h:∀ x,l.count x≤1):l.Nodup:=List.nodup_iff_count.2 h
section
variable {P:Program} {X:List Nat} {W:World} {E:Env} {M:Mem} {a:Act} {tm:List AV} {o:Oper}
theorem ZhY (hM:RepM X W E M) (x:Nat):(foots E).count x≤1:=List.nodup_iff_count.1 hM.nodup x
theorem Zur (hM:RepM X W E M) {x:Nat} (h:W.heap.size≤x):(foots E).count x=0:=List.count_eq_zero.2 (fun hm=>by have:=hM.lt x hm; omega)
theorem Ze0 {W' : World} {E' : Env} {M' : Mem} (hM:RepM X W E M) (g:Zbb W E W' E') (m:ZaK W E M W' E' M') (hlen:M'.length=E'.length) (hn:(foots E').Nodup)
 (hat:∀ (i:Nat) (b:Blk) (e:EB),M'[i]?=some b→E'[i]?=some e→(M[i]?=some b∧E[i]?=some e∧∀ q ∈ e.foot,W'.heap[q]?=W.heap[q]?)∨ZJT X W' E' M' b e) (hlt:∀ b ∈ foots E',b < W'.heap.size):RepM X W' E' M':=by
 refine ⟨hlen,hn,fun i b e hb he=>?_,hlt,fun b hb hf=>?_,fun b hb=>Nat.lt_of_lt_of_le (hM.xsz b hb) g.size⟩
 ·rcases hat i b e hb he with ⟨h1,h2,h3⟩ | h
  ·exact (hM.at_ i b e h1 h2).keep g m hM.len h3
  ·exact h
 ·rcases g.new b hf with h | h
  ·exact hM.xlt b hb h
  ·have:=hM.xsz b hb; omega
theorem Zez {W' : World} {E' : Env} {M' : Mem} (h:∀ (i:Nat) (t:Ty) (xs:List t.den) (v c:Nat) (hh:Option (Nat × Nat × Nat)),M[i]?=some (.row t xs v c hh)→M'[i]?=some .dead∨(∃ (xs' : List t.den) (v' c' : Nat) (h' : Option (Nat × Nat × Nat)),M'[i]?=some (.row t xs' v' c' h')∧v < v') ∨
 (∃ (xs' : List t.den) (c' : Nat) (h' : Option (Nat × Nat × Nat)),M'[i]?=some (.row t xs' v c' h')∧c < c'∧∀ e,E[i]?=some e→∃ e',E'[i]?=some e'∧e'.val=e.val) ∨
 (M'[i]?=some (.row t xs v c hh)∧∀ e,E[i]?=some e→E'[i]?=some e∧∀ q ∈ e.foot,W'.heap[q]?=W.heap[q]?)) (hd:∀ i:Nat,M[i]?=some .dead→M'[i]?=some .dead):ZaK W E M W' E' M':=fun i=>by
 split
 ·rename_i t xs v c hh hb
  rcases h i t xs v c hh hb with h1 | ⟨xs',v',c',hh',h1,h2⟩ | ⟨xs',c',hh',h1,h2,h3⟩ | ⟨h1,h2⟩
  ·exact .inl h1
  ·exact .inr ⟨xs',v',c',hh',h1,by omega,fun e=>by omega⟩
  ·exact .inr ⟨xs',v,c',hh',h1,Nat.le_refl _,fun _ e he=>by
    obtain ⟨e',q1,q2⟩:=h3 e he
    exact ⟨e',q1,q2,by omega,fun e=>by omega⟩⟩
  ·exact .inr ⟨xs,v,c,hh,h1,Nat.le_refl _,fun _ e he=>⟨e,(h2 e he).1,rfl,Nat.le_refl _,fun _ b hb=>⟨hb,(h2 e he).2 b hb⟩⟩⟩
 ·rename_i hb; exact hd i hb
 ·trivial
theorem Zgt {α β γ:Type} {a a' : α} {b b' : β} {c c' : γ} (h:some (a,b,c)=some (a',b',c')):a=a'∧b=b'∧c=c':=by cases h; exact ⟨rfl,rfl,rfl⟩
theorem ZgP (hM:RepM X W E M):∀ (t:Ty) {l:List AC} {vs:List Value} {x:t.den} {rest:List AC} {js:List Nat},ZB8 M t l=some (x,rest,js)→Zbu X W E M l vs →
 ∃ cs us,vs=cs ++ us∧Zbd W t x cs (feet E js)∧Zbu X W E M rest us∧∀ j ∈ js,∃ t xs v c,M[j]?=some (.row t xs v c none)
 | .int k,l,vs,x,rest,js,h,hr=>by
  have h:Ztp k l=some (x,rest,js):=h
  unfold Ztp at h
  split at h
  ·split at h
   ·rename_i hk
    subst hk
    exact Zvr
   ·cases h
  ·cases h
 | .bool,l,vs,x,rest,js,h,hr=>by
  have h:ZnN l=some (x,rest,js):=h
  unfold ZnN at h
  split at h
  ·obtain ⟨rfl,rfl,rfl⟩:=Zgt h
   obtain ⟨v,r,rfl,h1,h2⟩:=hr
   exact ⟨[v],r,rfl,⟨by rw [show v=_ from h1],rfl⟩,h2,by simp⟩
  ·cases h
 | .opq,l,vs,x,rest,js,h,hr=>by
  have h:Ztr l=some (x,rest,js):=h
  unfold Ztr at h
  split at h
  ·obtain ⟨rfl,rfl,rfl⟩:=Zgt h
   obtain ⟨v,r,rfl,h1,h2⟩:=hr
   exact ⟨[v],r,rfl,⟨by rw [h1.1]; rfl,h1.2,rfl⟩,h2,by simp⟩
  ·cases h
 | .str,l,vs,x,rest,js,h,hr=>by
  have h:Ztq l=some (x,rest,js):=h
  unfold Ztq at h
  split at h
  ·exact Zvr
  ·cases h
 | .prod a b,l,vs,x,rest,js,h,hr=>by
  unfold ZB8 at h
  cases ha:ZB8 M a l with
  | none=>rw [ha] at h; cases h
  | some q =>
   obtain ⟨y,l1,j1⟩:=q
   rw [ha] at h
   simp only at h
   cases hb:ZB8 M b l1 with
   | none=>rw [hb] at h; cases h
   | some q =>
    obtain ⟨z,l2,j2⟩:=q
    rw [hb] at h
    obtain ⟨rfl,rfl,rfl⟩:=Zgt h
    obtain ⟨c1,u1,rfl,q1,q2,q3⟩:=ZgP hM a ha hr
    obtain ⟨c2,u2,rfl,r1,r2,r3⟩:=ZgP hM b hb q2
    exact ⟨c1 ++ c2,u2,by simp,⟨c1,c2,_,_,q1,r1,rfl,Zz7⟩,r2,fun j hj=>(List.mem_append.1 hj).elim (q3 j) (r3 j)⟩
 | .list a,l,vs,x,rest,js,h,hr=>by
  have h:Zyi M a l=some (x,rest,js):=h
  unfold Zyi at h
  split at h
  ·rename_i i v l' _
   split at h
   ·rename_i r hra
    split at h
    ·rename_i hta
     obtain ⟨rfl,rfl,rfl⟩:=Zgt h
     obtain ⟨u,rr,rfl,h1,h2⟩:=hr
     obtain ⟨e,he,hv,hol⟩:=Zga hM hra h1.2
     obtain ⟨rt,rxs,rc⟩:=r
     simp only at hta hol
     subst hta
     refine ⟨[u],rr,rfl,⟨u,rfl,?_⟩,h2,fun j hj=>by obtain rfl:=List.mem_singleton.1 hj; exact ⟨_,_,_,_,Zco hra⟩⟩
     rw [hv,show feet E [i]=e.foot by simp [feet,he]]
     exact hol
    ·cases h
   ·cases h
  ·obtain ⟨rfl,rfl,rfl⟩:=Zgt h
   obtain ⟨u,rr,rfl,h1,h2⟩:=hr
   refine ⟨[u],rr,rfl,⟨u,rfl,0,[],[],?_,⟨rfl,rfl⟩,?_⟩,h2,by simp⟩
   ·rw [h1.1]; exact World.ownsRow_nil W 0 0 a.n
   ·rw [h1.1]; rfl
  ·cases h
theorem ZGw (hM:RepM X W E M) {t:Ty} {x:AV} {v:Value} {y:t.den} {js:List Nat} (h:ZHH M t x=some (y,js)) (hr:Zcd X W E M x v):Zbd W t y v.cells.toList (feet E js)∧∀ j ∈ js,∃ t xs v c,M[j]?=some (.row t xs v c none):=by
 unfold ZHH at h
 split at h
 ·rename_i l hl
  split at h
  ·rename_i y' js' ho
   obtain ⟨rfl,rfl⟩:=Prod.mk.inj (Option.some.inj h)
   obtain ⟨cs,us,e,q1,q2,q3⟩:=ZgP hM t ho (Zea hr hl)
   obtain rfl:us=[]:=q2
   rw [List.append_nil] at e
   rw [e]
   exact ⟨q1,q3⟩
  ·cases h
 ·cases h
theorem ZoA {W:World}:∀ (t:Ty),t.flat=true→∀ {x:t.den} {cs:List Value} {F:List Nat},Zbd W t x cs F→F=[]
 | .int _,_,_,_,_,h=>h.2.2
 | .bool,_,_,_,_,h=>h.2
 | .str,_,_,_,_,h=>h.2.2
 | .opq,_,_,_,_,h=>h.2.2
 | .prod a b,hf,_,_,_,⟨c1,c2,F1,F2,h1,h2,_,e2⟩=>by
  have hf' : (a.flat && b.flat)=true:=hf
  rw [Bool.and_eq_true] at hf'
  rw [e2,ZoA a hf'.1 h1,ZoA b hf'.2 h2]
  rfl
 | .list _,hf,_,_,_,_=>by cases hf
theorem ZsE {W:World}:∀ (t:Ty),t.flat=true→∀ {x:t.den} {cs:List Value} {F:List Nat},rep W x cs F→Zbd W t x cs []
 | .int _,_,_,_,_,h=>⟨h.1,h.2.1,rfl⟩
 | .bool,_,_,_,_,h=>⟨h.1,rfl⟩
 | .str,_,_,_,_,h=>⟨h.1,h.2.1,rfl⟩
 | .opq,_,_,_,_,h=>⟨h.1,h.2.1,rfl⟩
 | .prod a b,hf,_,_,_,⟨c1,c2,F1,F2,h1,h2,e1,e2⟩=>by
  have hf' : (a.flat && b.flat)=true:=hf
  rw [Bool.and_eq_true] at hf'
  exact ⟨c1,c2,[],[],ZsE a hf'.1 h1,ZsE b hf'.2 h2,e1,rfl⟩
 | .list _,hf,_,_,_,_=>by cases hf
theorem Zz8 {W:World} {t:Ty} (hf:t.flat=true) {b:Nat}:∀ {xs:List t.den} {off:Nat} {G:List Nat},ZbP W b off xs G→∃ cells,Zbt (Zbd W t) xs cells []∧ZcB W b off cells
 | [],_,_,_=>⟨[],⟨rfl,rfl⟩,fun j v h=>by simp at h⟩
 | x :: xs,off,G,⟨cs,G1,G2,r1,r2,r3,_⟩=>by
  obtain ⟨cells,q1,q2⟩:=Zz8 hf r3
  have hl:=GoRep.len r1
  refine ⟨cs ++ cells,⟨cs,cells,[],[],ZsE t hf r1,q1,rfl,rfl⟩,fun j v hj=>?_⟩
  by_cases hjl:j < cs.length
  ·rw [List.getElem?_append_left hjl] at hj
   exact r2 j v hj
  ·rw [List.getElem?_append_right (by omega)] at hj
   have:=q2 (j - cs.length) v hj
   rwa [show off + GoRep.n t.den + (j - cs.length)=off + j by omega] at this
theorem ZkD (b o j:Nat):(⟨b,o,none⟩:Addr).add j=⟨b,o + j,none⟩:=by unfold Addr.add; split <;> simp_all
theorem Zus {W:World} {b off:Nat} {cells:List Value} (h:ZcB W b off cells):∀ j u,cells[j]?=some u→W.cell? ((⟨b,off,none⟩:Addr).add j)=some u:=fun j u hj=>by
 rw [ZkD]
 exact (h j u hj).1
theorem Zz9 (hM:RepM X W E M) {y:AV} {v:Value} {r:ZPN} (h:ZLC M y=some r) (hnd:r.nd) (hr:Zcd X W E M y v) :
 ∃ A c news own G,v=.slice A r.ys.length c∧Zbt (Zbd W r.t) r.ys news G∧(r.ys.length=0∨∃ a,A=some a∧∀ j u,news[j]?=some u→W.cell? (a.add j)=some u) ∧
   feet E r.js=own ++ G∧ZaW r.js=true∧∀ j ∈ r.js,∃ t xs v c,M[j]?=some (.row t xs v c none):=by
 have flatCase:∀ {L:Lnd} {q:ZfD} {c:AC},Zfa M c=some (L,q)→Zbo X W E M c v→q.t.flat=true→∃ A c news,v=.slice A q.xs.length c∧Zbt (Zbd W q.t) q.xs news []∧(q.xs.length=0∨∃ a,A=some a∧∀ j u,news[j]?=some u→W.cell? (a.add j)=some u):=by
  intro L q c hq hc hf
  obtain ⟨A,c,F,hv,hs,hF⟩:=ZgJ hM hq hc
  obtain ⟨t,xs,qc⟩:=q
  obtain ⟨z1,z2,z3⟩:=hs
  rcases z3 with ⟨z3,_⟩ | ⟨hne,b,off,G,rfl,rfl,z3⟩
  ·have z3:xs=[]:=z3
   subst z3
   exact ⟨A,c,[],hv,⟨rfl,rfl⟩, .inl rfl⟩
  ·obtain ⟨cells,q1,q2⟩:=Zz8 hf z3
   exact ⟨_,c,cells,hv,q1, .inr ⟨_,rfl,Zus q2⟩⟩
 unfold ZLC at h
 split at h
 ·rename_i i' v' c' n' k' o'
  cases hq:Zb7 M i' v' c' n' k' o' with
  | none=>rw [hq] at h; cases h
  | some q =>
   rw [hq] at h
   simp only at h
   cases hf:q.t.flat with
   | false=>rw [hf] at h; cases h
   | true =>
    rw [hf] at h
    obtain rfl:=Option.some.inj h
    obtain ⟨A,c,news,h1,h2,h3⟩:=flatCase (c:=.sl i' v' c' n' k' o') (L:=.at i' v' c') (q:=q) (by show (Zb7 M i' v' c' n' k' o').map _=_; rw [hq]; rfl) hr hf
    exact ⟨A,c,news,[],[],h1,h2,h3,rfl,rfl,by simp⟩
 ·rename_i L t ys
  cases hc:Zdu M L with
  | false=>rw [hc] at h; cases h
  | true =>
   rw [hc] at h
   simp only [cond_true] at h
   have hq:Zfa M (.hs L t ys)=some (L,(⟨t,ys,0⟩:ZfD)):=by show (bif Zdu M L then some (L,(⟨t,ys,0⟩:ZfD)) else none)=_; rw [hc]; rfl
   cases hf:t.flat with
   | true =>
    rw [hf] at h
    obtain rfl:=Option.some.inj h
    obtain ⟨A,c,news,h1,h2,h3⟩:=flatCase (c:=.hs L t ys) (L:=L) (q:=⟨t,ys,0⟩) hq hr hf
    exact ⟨A,c,news,[],[],h1,h2,h3,rfl,rfl,by simp⟩
   | false =>
    rw [hf] at h
    obtain rfl:=Option.some.inj h
    obtain rfl:ys=[]:=hnd
    obtain ⟨A,c,F,hv,_,_⟩:=ZgJ hM hq hr
    exact ⟨A,c,[],[],[],hv,⟨rfl,rfl⟩, .inl rfl,rfl,rfl,by simp⟩
 ·rename_i j ver
  split at h
  ·rename_i r' hra
   obtain rfl:=Option.some.inj h
   cases hf:r'.t.flat with
   | true =>
    obtain ⟨A,c,news,h1,h2,h3⟩:=flatCase (c:=.row j ver) (L:=.at j ver r'.c) (q:=r') (by show (Zcn M j ver).map _=_; rw [hra]; rfl) hr hf
    exact ⟨A,c,news,[],[],h1,h2,h3,by simp [feet],rfl,by simp⟩
   | false =>
    obtain ⟨e,he,hv,T,cells,G,q1,q2,q3⟩:=Zga hM hra (hr:Zbo X W E M (.row j ver) v).2
    have hfe:feet E [j]=e.val.ownBlock.toList ++ G:=by rw [← q3]; simp [feet,he]
    obtain ⟨A,c,hs⟩:=Zck ⟨T,cells,G,q1,q2,rfl⟩
    refine ⟨A,c,cells,_,G,hv.trans hs,q2,?_,hfe,rfl,fun k hk=>by
     have hk:k ∈ [j]:=hk
     obtain rfl:=List.mem_singleton.1 hk; exact ⟨_,_,_,_,Zco hra⟩⟩
    rcases q1.2 with ⟨k1,k2⟩ | ⟨g,cap,cur,k1,k2,k3,k4,k5,k6,k7⟩
    ·exact .inl k2
    ·right
     rw [k1] at hs
     injection hs with hs1
     refine ⟨_,hs1.symm,?_⟩
     have:=ZfC (W:=W) (b:=g) (m:=r'.xs.length * r'.t.n) k3
     rw [k7] at this
     exact Zus this
  ·cases h
 ·cases h
theorem Zee {e:TypeId} {n:Nat} (h:Zfz P e n=true):∃ i z,P.info? e=some i∧i.size=n∧i.bytes≤512∧i.zero=some z∧z.cells.size=n:=by
 unfold Zfz at h
 cases hi:P.info? e with
 | none=>rw [hi] at h; cases h
 | some i =>
  rw [hi] at h
  simp only [Bool.and_eq_true] at h
  obtain ⟨h1,h2,h3⟩:=h
  cases hz:i.zero with
  | none=>rw [hz] at h3; cases h3
  | some z =>
   rw [hz] at h3
   exact ⟨i,z,rfl,Nat.eq_of_beq_eq_true h1,Nat.le_of_ble_eq_true h2,hz,Nat.eq_of_beq_eq_true h3⟩
theorem Zgu {n b:Nat} (h:n≤rowMax) (hb:b≤512):n≤maxLen∧n * b≤140737488355328:=by
 refine ⟨by unfold rowMax at h; unfold maxLen; omega,?_⟩
 have:n * b≤274877906944 * 512:=Nat.mul_le_mul h hb
 omega
theorem Zjt {x y:Operand} {t:TypeId} {xs:Array Operand} {ts:Array TypeId} {v:Value} {w' : World} (ho:o.op=.call ⟨.builtin .append,xs,ts⟩) (hxs:xs.toList=[x,y]) (hts:ts.toList=[t,t])
 (h:(Builtin.append_ #[t,t] o.type #[a.eval x,a.eval y]).run P W=.ok v w'):(execOp a.eval o).run P W=.ok (.value v) w':=by
 have e1:xs=#[x,y]:=Array.toList_inj.1 (by simpa using hxs)
 have e2:ts=#[t,t]:=Array.toList_inj.1 (by simpa using hts)
 subst e1
 subst e2
 exact Zvm
end
section
variable {P:Program} {X:List Nat} {W:World} {E:Env} {M:Mem} {a:Act} {tm:List AV} {o:Oper}
theorem Zgv:∀ {js:List Nat} {E:Env} {i:Nat} {e:EB},i ∈ js→(killE E js)[i]?=some e→e.foot=[]
 | j :: js,E,i,e,h,he=>by
  unfold killE at he
  by_cases hi:i ∈ js
  ·exact Zgv hi he
  ·obtain rfl:i=j:=(List.mem_cons.1 h).resolve_right hi
   rw [Zbh (fun k hk e=>hi (by rw [← e]; exact hk))] at he
   have hl:i < E.length:=by
    have:=(List.getElem?_eq_some_iff.1 he).1
    simpa using this
   rw [List.getElem?_set_self hl] at he
   obtain rfl:=Option.some.inj he
   rfl
theorem ZfS {js:List Nat} (hd:ZaW js=true) (hl:∀ j ∈ js,j < E.length) {b:Nat} (h:b ∈ foots (killE E js)):b ∈ foots E:=by
 have h1:=Zeq b hd hl
 have h2:=List.count_pos_iff.2 h
 exact List.count_pos_iff.1 (by omega)
theorem ZEm (hM:RepM X W E M) {js:List Nat} (h:∀ j ∈ js,∃ t xs v c,M[j]?=some (.row t xs v c none)):∀ j ∈ js,j < E.length:=fun j hj=>by
 obtain ⟨t,xs,v,c,h⟩:=h j hj
 rw [← hM.len]
 exact (List.getElem?_eq_some_iff.1 h).1
theorem ZEn {o:Option Nat} {N x:Nat} (h:o=none∨o=some N):o.toList.count x≤if x=N then 1 else 0:=by
 rcases h with rfl | rfl
 ·simp
 ·by_cases hx:x=N
  ·subst hx; simp
  ·simp [hx,Ne.symm hx]
theorem ZgQ {W' : World} {js:List Nat} {t:Ty} {ys:List t.den} {v:Value} {T:TypeId} {cells:List Value} {own G:List Nat} (hM:RepM X W E M) (hd:ZaW js=true) (hj:∀ j ∈ js,∃ t xs v c,M[j]?=some (.row t xs v c none))
 (hg:W.grownBy W' none) (ho:W'.ownsRow 0 T t.n v ys.length cells) (hr:Zbt (Zbd W t) ys cells G) (hf:feet E js=own ++ G) (hv:v.ownBlock=none∨v.ownBlock=some W.heap.size) :
 ∃ E',Zbb W E W' E'∧ZaK W E M W' E' (ZbU M js ++ [.row t ys 0 0 none])∧RepM X W' E' (ZbU M js ++ [.row t ys 0 0 none])∧Zbo X W' E' (ZbU M js ++ [.row t ys 0 0 none]) (.row M.length 0) v:=by
 have hjl:=ZEm hM hj
 have hkl:=Zfs js E
 have hml:=Zft js M
 have hfe:∀ b ∈ feet E js,b ∈ foots E:=fun b hb=>by
  exact ZkO
 have keep:∀ b,b < W.heap.size→W'.heap[b]?=W.heap[b]?:=fun b hb=>hg.block b hb (by simp)
 have keepf:∀ b ∈ foots E,W'.heap[b]?=W.heap[b]?:=fun b hb=>keep b (hM.lt b hb)
 have g:Zbb W E W' (killE E js ++ [⟨0,v,v.ownBlock.toList ++ G⟩]) :=
  ⟨hg.os,hg.tape,hg.output,hg.size,fun b hb _=>keep b hb,fun b hb=>by
   rw [ZaV,List.mem_append] at hb
   rcases hb with hb | hb
   ·exact .inl (ZfS hd hjl hb)
   ·simp [foots] at hb
    rcases hb with hb | hb
    ·right
     rcases hv with hv | hv
     ·rw [hv] at hb; cases hb
     ·rw [hv] at hb; obtain rfl:=Option.some.inj hb; exact Nat.le_refl _
    ·exact .inl (hfe b (by rw [hf]; simp [hb])),fun i e he=>by
   obtain ⟨e',h1,h2⟩:=Zey (js:=js) he
   exact ⟨e',by rw [List.getElem?_append_left (List.getElem?_eq_some_iff.1 h1).1]; exact h1,h2⟩⟩
 have m:ZaK W E M W' (killE E js ++ [⟨0,v,v.ownBlock.toList ++ G⟩]) (ZbU M js ++ [.row t ys 0 0 none]):=Zez (fun i t' xs' v' c' hh' hi=>by
  have hil:=(List.getElem?_eq_some_iff.1 hi).1
  rw [List.getElem?_append_left (by rw [hml]; exact hil)]
  by_cases hij:i ∈ js
  ·exact .inl (Zbq hij hil)
  ·refine .inr (.inr (.inr ⟨by rw [Za2 (fun k hk e=>hij (by rw [← e]; exact hk))]; exact hi,fun e he=>⟨?_,fun q hq=>keepf q (Zaw.2 ⟨e,List.mem_of_getElem? he,hq⟩)⟩⟩))
   rw [List.getElem?_append_left (by rw [hkl,← hM.len]; exact hil),Zbh (fun k hk e=>hij (by rw [← e]; exact hk))]
   exact he) (fun i hi=>by
  have hil:=(List.getElem?_eq_some_iff.1 hi).1
  rw [List.getElem?_append_left (by rw [hml]; exact hil)]
  by_cases hij:i ∈ js
  ·exact Zbq hij hil
  ·rw [Za2 (fun k hk e=>hij (by rw [← e]; exact hk))]; exact hi)
 have hlt:∀ b ∈ foots (killE E js ++ [⟨0,v,v.ownBlock.toList ++ G⟩]),b < W'.heap.size:=fun b hb=>by
  rw [ZaV,List.mem_append] at hb
  rcases hb with hb | hb
  ·exact Nat.lt_of_lt_of_le (hM.lt b (ZfS hd hjl hb)) hg.size
  ·have hb:b ∈ v.ownBlock.toList ++ G:=by simpa [foots] using hb
   rcases List.mem_append.1 hb with hb | hb
   ·exact Zlq ho b hb
   ·exact Nat.lt_of_lt_of_le (hM.lt b (hfe b (by rw [hf]; simp [hb]))) hg.size
 refine ⟨_,g,m,Ze0 hM g m (by simp [hml,hkl,hM.len]) (ZbO fun x=>?_) (fun i b e hb he=>?_) hlt,Ze9 ho,?_⟩
 ·have c1:=Zeq x hd hjl
  have c2:=ZhY hM x
  have c3:=Zur (x:=x) hM
  have c4:=ZEn (x:=x) hv
  rw [hf,List.count_append] at c1
  rw [ZaV,List.count_append]
  have c5:(foots [⟨0,v,v.ownBlock.toList ++ G⟩]).count x=v.ownBlock.toList.count x + G.count x:=by simp [foots,List.count_append]
  rw [c5]
  split at c4
  ·have:=c3 (by omega)
   omega
  ·omega
 ·by_cases hi:i < M.length
  ·rw [List.getElem?_append_left (by rw [hml]; exact hi)] at hb
   rw [List.getElem?_append_left (by rw [hkl,← hM.len]; exact hi)] at he
   by_cases hij:i ∈ js
   ·exact ZvH
   ·rw [Za2 (fun k hk e=>hij (by rw [← e]; exact hk))] at hb
    rw [Zbh (fun k hk e=>hij (by rw [← e]; exact hk))] at he
    exact .inl ⟨hb,he,fun q hq=>keepf q (Zaw.2 ⟨e,List.mem_of_getElem? he,hq⟩)⟩
  ·have hi' : i=M.length:=by
    exact Zv3
   subst hi'
   rw [List.getElem?_append_right (by rw [hml]; exact Nat.le_refl _),hml,Nat.sub_self] at hb
   rw [List.getElem?_append_right (by rw [hkl,← hM.len]; exact Nat.le_refl _),hkl,← hM.len,Nat.sub_self] at he
   simp at hb he
   subst hb
   subst he
   exact .inr ⟨T,cells,G,ho,hr.imp (fun x cs F h hF=>Zbd.keep t h (fun b hb=>keepf b (hfe b (by rw [hf]; simp [hF b hb])))),rfl⟩
 ·exact Zu4
theorem ZAa {W' : World} {js:List Nat} {i ver cc:Nat} {t:Ty} {xs ys:List t.den} {e:EB} {v:Value} {T T0:TypeId} {cells news:List Value} {own G G2:List Nat} (hM:RepM X W E M) (hi:M[i]?=some (.row t xs ver cc none)) (he:E[i]?=some e)
 (hd:ZaW js=true) (hj:∀ j ∈ js,∃ t xs v c,M[j]?=some (.row t xs v c none)) (hij:∀ j ∈ js,j ≠ i)
 (ho0:W.ownsRow 0 T0 t.n e.val xs.length cells) (hr0:Zbt (Zbd W t) xs cells G) (hf0:e.foot=e.val.ownBlock.toList ++ G)
 (hg:W.grownBy W' e.val.ownBlock) (ho:W'.ownsRow 0 T t.n v (xs.length + ys.length) (cells ++ news)) (hr:Zbt (Zbd W t) ys news G2) (hf:feet E js=own ++ G2) (hv:v.ownBlock=e.val.ownBlock∨v.ownBlock=some W.heap.size) :
 ∃ E',Zbb W E W' E'∧ZaK W E M W' E' ((ZbU M js).set i (.row t (xs ++ ys) (ver + 1) (cc + 1) none))∧RepM X W' E' ((ZbU M js).set i (.row t (xs ++ ys) (ver + 1) (cc + 1) none))∧Zbo X W' E' ((ZbU M js).set i (.row t (xs ++ ys) (ver + 1) (cc + 1) none)) (.row i (ver + 1)) v:=by
 have hjl:=ZEm hM hj
 have hkl:=Zfs js E
 have hml:=Zft js M
 have hil:i < M.length:=(List.getElem?_eq_some_iff.1 hi).1
 have hilE:i < E.length:=by rw [← hM.len]; exact hil
 have hei:(killE E js)[i]?=some e:=by rw [Zbh hij]; exact he
 have hfe:∀ b ∈ feet E js,b ∈ foots E:=fun b hb=>by
  exact ZkO
 have hei' : ∀ b ∈ e.foot,b ∈ foots E:=fun b hb=>Zaw.2 ⟨e,List.mem_of_getElem? he,hb⟩
 have hnd:e.foot.Nodup:=by
  exact Zvd
 rw [hf0,List.nodup_append] at hnd
 have kept:∀ b,b < W.heap.size→(∀ q ∈ e.val.ownBlock.toList,b ≠ q)→W'.heap[b]?=W.heap[b]?:=fun b hb hne=>hg.block b hb (fun h=>hne b (by rw [← h]; simp) rfl)
 have keptG:∀ b ∈ G,W'.heap[b]?=W.heap[b]?:=fun b hb=>kept b (hM.lt b (hei' b (by rw [hf0]; simp [hb]))) (fun q hq h=>hnd.2.2 q hq b hb h.symm)
 have keptO:∀ q e',E[q]?=some e'→q ≠ i→∀ b ∈ e'.foot,W'.heap[b]?=W.heap[b]?:=fun q e' hq hne b hb=>kept b (hM.lt b (Zaw.2 ⟨e',List.mem_of_getElem? hq,hb⟩)) (fun z hz h=>by
  subst h
  exact ZcD hM.nodup hq he hne hb (by rw [hf0]; simp at hz; simp [hz]))
 have keptF:∀ b ∈ feet E js,W'.heap[b]?=W.heap[b]?:=fun b hb=>by
  obtain ⟨j,hjm,e',hq,hb⟩:=ZkC hb
  exact keptO j e' hq (hij j hjm) b hb
 obtain ⟨e2,he2⟩:∃ e2:EB,e2=⟨e.blk,v,v.ownBlock.toList ++ (G ++ G2)⟩:=⟨_,rfl⟩
 have inE:∀ b ∈ foots ((killE E js).set i e2),b ∈ foots E∨b ∈ v.ownBlock.toList:=fun b hb=>by
  obtain ⟨e',h1,h2⟩:=Zaw.1 hb
  rcases List.mem_or_eq_of_mem_set h1 with h1 | rfl
  ·exact .inl (ZfS hd hjl (Zaw.2 ⟨e',h1,h2⟩))
  ·rw [he2] at h2
   rcases List.mem_append.1 h2 with h2 | h2
   ·exact .inr h2
   ·rcases List.mem_append.1 h2 with h2 | h2
    ·exact .inl (hei' b (by rw [hf0]; simp [h2]))
    ·exact .inl (hfe b (by rw [hf]; simp [h2]))
 have inV:∀ b ∈ v.ownBlock.toList,b ∈ foots E∨W.heap.size≤b:=fun b hb=>by
  rcases hv with hv | hv
  ·rw [hv] at hb; exact .inl (hei' b (by rw [hf0,List.mem_append]; exact .inl hb))
  ·rw [hv] at hb; obtain rfl:b=W.heap.size:=by simpa using hb
   exact .inr (Nat.le_refl _)
 have g:Zbb W E W' ((killE E js).set i e2) :=
  ⟨hg.os,hg.tape,hg.output,hg.size,fun b hb hn=>kept b hb (fun q hq h=>hn (by subst h; exact hei' b (by rw [hf0,List.mem_append]; exact .inl hq))),
   fun b hb=>(inE b hb).elim .inl (inV b),fun q e' hq=>by
   by_cases hqi:i=q
   ·exact Zvl
   ·rw [List.getElem?_set_ne hqi]
    exact Zey hq⟩
 have m:ZaK W E M W' ((killE E js).set i e2) ((ZbU M js).set i (.row t (xs ++ ys) (ver + 1) (cc + 1) none)):=Zez (fun q t' xs' v' c' hh' hq=>by
  have hql:=(List.getElem?_eq_some_iff.1 hq).1
  by_cases hqi:i=q
  ·subst hqi
   rw [hi] at hq
   obtain ⟨rfl,h2⟩:t=t'∧ver=v':=by injection Option.some.inj hq with a1 a2 a3 a4; exact ⟨a1,a3⟩
   exact .inr (.inl ⟨_,_,_,_,List.getElem?_set_self (by rw [hml]; exact hil),by omega⟩)
  ·rw [List.getElem?_set_ne hqi,List.getElem?_set_ne hqi]
   by_cases hqj:q ∈ js
   ·exact .inl (Zbq hqj hql)
   ·refine .inr (.inr (.inr ⟨by rw [Za2 (fun k hk e=>hqj (by rw [← e]; exact hk))]; exact hq,fun e' he'=>⟨?_,keptO q e' he' (fun h=>hqi h.symm)⟩⟩))
    rw [Zbh (fun k hk e=>hqj (by rw [← e]; exact hk))]
    exact he') (fun q hq=>by
  have hql:=(List.getElem?_eq_some_iff.1 hq).1
  by_cases hqi:i=q
  ·subst hqi
   rw [hi] at hq
   cases hq
  ·rw [List.getElem?_set_ne hqi]
   by_cases hqj:q ∈ js
   ·exact Zbq hqj hql
   ·rw [Za2 (fun k hk e=>hqj (by rw [← e]; exact hk))]; exact hq)
 refine ⟨_,g,m,Ze0 hM g m (by simp [hml,hkl,hM.len]) (ZbO fun x=>?_) (fun q b e' hb he'=>?_) (fun b hb=>(inE b hb).elim (fun h=>Nat.lt_of_lt_of_le (hM.lt b h) hg.size) (Zlq ho b)),Ze9 ho,?_⟩
 ·have c1:=Zeq x hd hjl
  have c2:=ZhY hM x
  have c3:=Zur (x:=x) hM
  have c4:=ZhX (e':=e2) x hei
  have c6:e2.foot.count x=v.ownBlock.toList.count x + (G.count x + G2.count x):=by rw [he2,List.count_append,List.count_append]
  have c7:e.foot.count x=e.val.ownBlock.toList.count x + G.count x:=by rw [hf0,List.count_append]
  rw [hf,List.count_append] at c1
  rcases hv with hv | hv
  ·rw [hv] at c6; omega
  ·have c5:=ZEn (x:=x) (.inr hv:v.ownBlock=none∨v.ownBlock=some W.heap.size)
   split at c5
   ·have:=c3 (by omega)
    omega
   ·omega
 ·by_cases hqi:i=q
  ·subst hqi
   rw [List.getElem?_set_self (by rw [hml]; exact hil)] at hb
   rw [List.getElem?_set_self (by rw [hkl]; exact hilE)] at he'
   obtain rfl:=Option.some.inj hb
   obtain rfl:=Option.some.inj he'
   refine .inr ⟨T,cells ++ news,G ++ G2,?_,?_,by rw [he2]⟩
   ·rw [he2,List.length_append]; exact ho
   ·exact (hr0.imp (fun x cs F h hF=>Zbd.keep t h (fun b hb=>keptG b (hF b hb)))).app (hr.imp (fun x cs F h hF=>Zbd.keep t h (fun b hb=>keptF b (by rw [hf]; simp [hF b hb]))))
  ·exact ZuU
 ·unfold ZbL
  rw [List.getElem?_set_self (by rw [hml]; exact hil)]
  exact ⟨Nat.le_refl _,fun _=>⟨e2,List.getElem?_set_self (by rw [hkl]; exact hilE),by rw [he2]⟩⟩
end
section
variable {P:Program} {X:List Nat} {W:World} {E:Env} {M:Mem} {a:Act} {tm:List AV} {o:Oper}
theorem Zbt.ones {t:Ty} {xs:List t.den} {cs:List Value} {G:List Nat} (h:Zbt (Zbd W t) xs cs G):∀ u ∈ cs,u.oneCell'=true:=fun u hu =>
 List.all_eq_true.1 (h.one (fun x cs F h=>Zbd.one t h)) u hu
theorem Zmp {x y:Operand} {x' y' : AV} {t e:TypeId} {xs:Array Operand} {ts:Array TypeId} (hM:RepM X W E M) (hx:Zcd X W E M x' (a.eval x)) (hy:Zcd X W E M y' (a.eval y)) (ho:o.op=.call ⟨.builtin .append,xs,ts⟩) (hxs:xs.toList=[x,y]) (hts:ts.toList=[t,t])
 (hu:P.underlying t=some (.slice e)) (hn:(ZeH P M e x' y').need):Zdv X P o a W E M (ZeH P M e x' y').val (ZeH P M e x' y').mem:=by
 unfold ZeH at hn ⊢
 split at hn
 ·rename_i i v
  split at hn
  ·rename_i t' l cv cc hMi
   cases hb:Nat.beq v cv with
   | false=>rw [hb] at hn; exact hn.elim
   | true =>
    obtain rfl:=Nat.eq_of_beq_eq_true hb
    simp only [hb,cond_true] at hn ⊢
    have hra:Zcn M i v=some ⟨t',l,cc⟩:=by unfold Zcn; rw [hMi]; simp only [hb,cond_true]
    obtain ⟨e0,he0,hv0,T0,cells,G,w1,w2,w3⟩:=Zga hM hra (hx:Zbo X W E M (.row i v) _).2
    simp only at w1 w2 w3
    cases hnil:Zj2 y' with
    | true =>
     obtain rfl:=Zts hnil
     simp only [hnil,cond_true] at hn ⊢
     cases hty:Zfz P e t'.n with
     | false=>rw [hty] at hn; exact hn.elim
     | true =>
      simp only [hty,cond_true]
      obtain ⟨inf,z,i1,i2,i3,i4,i5⟩:=Zee hty
      rw [← i2] at w1
      have hln:l.length≤maxLen:=by
       rcases w1.2 with ⟨_,q⟩ | ⟨g,cap,cur,q1,q2,q3,q4,q5,_⟩
       ·omega
       ·omega
      by_cases hz:inf.size=0
      ·have:=ZgW t'; omega
      ·have hy' : a.eval y=.slice none 0 0:=(hy:Zbo X W E M (.raw _) _).1
       refine Zdv.stay hM (u:=a.eval x) (Zjt ho hxs hts ?_) hx
       rw [hv0,hy']
       rcases w1.2 with ⟨q1,q2⟩ | ⟨g,cap,cur,q1,q2,q3,q4,q5,_⟩
       ·rw [q1]
        simp [Builtin.append_,run_underlying hu,sizeOf,typeInfo,i1,Builtin.lenOf,Builtin.firstCells,loadCells,loadCellsFrom]
       ·rw [q1]
        simp [Builtin.append_,run_underlying hu,sizeOf,typeInfo,i1,Builtin.lenOf,Builtin.firstCells,loadCells,loadCellsFrom,q4,storeCells]
    | false =>
     simp only [hnil,cond_false] at hn ⊢
     cases har:ZLC M y' with
     | none=>rw [har] at hn; exact hn.elim
     | some r =>
      simp only [har] at hn ⊢
      split at hn
      ·rename_i hrt
       cases hc:Zfz P e t'.n && r.js.all (fun j=>!Nat.beq j i) with
       | false=>rw [hc] at hn; exact hn.elim
       | true =>
        simp only [hc,cond_true] at hn
        simp only [hrt,hc,cond_true,dif_pos]
        rw [Bool.and_eq_true] at hc
        obtain ⟨inf,z,i1,i2,i3,i4,i5⟩:=Zee hc.1
        obtain ⟨hnd,hn⟩:=hn
        obtain ⟨A,c,news,own,G2,k1,k2,k3,k4,k5,k6⟩:=Zz9 hM har hnd hy
        obtain ⟨rt,rys,rjs,rnd⟩:=r
        simp only at hrt k1 k2 k3 k4 k5 k6 hn hc
        subst hrt
        obtain ⟨b1,b2⟩:=Zgu hn i3
        rw [← i2] at w1
        obtain ⟨v',w',T',r1,r2,r3,r4,_⟩:=Zmo (P:=P) W t o.type e T0 inf z hu i1 i4 (by rw [i5,i2]) (by rw [i2]; exact ZgW rt) e0.val l.length cells w1 A rys.length c news
         (by rw [k2.len (fun x cs F h=>Zbd.len rt h),i2]) k3 k2.ones b1 b2
        rw [i2] at w1 r2
        obtain ⟨E',g,m,rm,rc⟩:=ZAa hM hMi he0 k5 k6 (fun j hj e=>by
         have:=List.all_eq_true.1 hc.2 j hj
         subst e
         simp at this) w1 w2 w3 r3 r2 k2 k4 r4
        refine ⟨v',w',E', .inl (Zjt ho hxs hts (by rw [hv0,k1]; exact r1)),g,m,rm,rc⟩
      ·exact hn.elim
  ·exact hn.elim
 ·split at hn
  ·rename_i r har
   cases hty:Zfz P e r.t.n with
   | false=>rw [hty] at hn; exact hn.elim
   | true =>
    simp only [hty,cond_true] at hn ⊢
    obtain ⟨inf,z,i1,i2,i3,i4,i5⟩:=Zee hty
    obtain ⟨hnd,hn⟩:=hn
    obtain ⟨A,c,news,own,G2,k1,k2,k3,k4,k5,k6⟩:=Zz9 hM har hnd hy
    obtain ⟨b1,b2⟩:=Zgu hn i3
    have hx' : a.eval x=.slice none 0 0:=(hx:Zbo X W E M (.raw _) _).1
    obtain ⟨v',w',T',r1,r2,r3,r4,_⟩:=Zmo (P:=P) W t o.type e 0 inf z hu i1 i4 (by rw [i5,i2]) (by rw [i2]; exact ZgW r.t) (.slice none 0 0) 0 [] (World.ownsRow_nil W 0 0 inf.size) A r.ys.length c news
     (by rw [k2.len (fun x cs F h=>Zbd.len r.t h),i2]) k3 k2.ones (by omega) (by rw [Nat.zero_add]; exact b2)
    rw [i2] at r2
    simp only [Nat.zero_add,List.nil_append] at r2
    obtain ⟨E',g,m,rm,rc⟩:=ZgQ hM k5 k6 r3 r2 k2 k4 r4
    exact ⟨v',w',E', .inl (Zjt ho hxs hts (by rw [hx',k1]; exact r1)),g,m,rm,rc⟩
  ·exact hn.elim
 ·exact hn.elim
theorem ZyI {x y:Operand} {t e:TypeId} {xs:Array Operand} {ts:Array TypeId} (hM:RepM X W E M) (ht:Zbv X W E M tm a.tmps.toList) (ho:o.op=.call ⟨.builtin .append,xs,ts⟩) (hxs:xs.toList=[x,y]) (hts:ts.toList=[t,t])
 (hu:P.underlying t=some (.slice e)) (hn:(ZeH P M e (evalA tm x) (evalA tm y)).need):Zdv X P o a W E M (ZeH P M e (evalA tm x) (evalA tm y)).val (ZeH P M e (evalA tm x) (evalA tm y)).mem :=
 Zmp hM (Zam ht x) (Zam ht y) ho hxs hts hu hn
theorem Zmq (hM:RepM X W E M) (ht:Zbv X W E M tm a.tmps.toList) {t:Ty}:∀ {l:List (Nat × Operand)} {k:Nat} {ys:List t.den} {js:List Nat},Zei M t k (l.map fun p=>(p.1,evalA tm p.2))=some (ys,js) →
 l=((l.map (·.2)).zipIdx k).map (fun x=>(x.2,x.1))∧ys.length=l.length∧Zbt (Zbd W t) ys ((l.map fun p=>(a.eval p.2).cells.toList).flatten) (feet E js)∧(∀ p ∈ l,(a.eval p.2).cells.size=t.n)∧∀ j ∈ js,∃ t xs v c,M[j]?=some (.row t xs v c none)
 | [],k,ys,js,h=>by
  obtain ⟨rfl,rfl⟩:=Prod.mk.inj (Option.some.inj h)
  exact ⟨rfl,rfl,⟨rfl,rfl⟩,by simp,by simp⟩
 | (i,x) :: l,k,ys,js,h=>by
  rw [List.map_cons] at h
  unfold Zei at h
  cases hi:Nat.beq i k with
  | false=>rw [hi] at h; cases h
  | true =>
   obtain rfl:=Nat.eq_of_beq_eq_true hi
   rw [hi] at h
   simp only [cond_true] at h
   cases hv:ZHH M t (evalA tm x) with
   | none=>rw [hv] at h; cases h
   | some q =>
    obtain ⟨y,j1⟩:=q
    rw [hv] at h
    simp only at h
    cases hq:Zei M t (i + 1) (l.map fun p=>(p.1,evalA tm p.2)) with
    | none=>rw [hq] at h; cases h
    | some q =>
     obtain ⟨ys',j2⟩:=q
     rw [hq] at h
     obtain ⟨rfl,rfl⟩:=Prod.mk.inj (Option.some.inj h)
     obtain ⟨e1,e2,e3,e4,e5⟩:=Zmq hM ht hq
     obtain ⟨h1,h2⟩:=ZGw hM hv (Zam ht x)
     refine ⟨?_,by simp [e2],⟨_,_,_,_,h1,e3,by simp,Zz7⟩,fun p hp=>?_,fun j hj=>(List.mem_append.1 hj).elim (h2 j) (e5 j)⟩
     ·rw [List.map_cons,List.zipIdx_cons,List.map_cons,← e1]
     ·rcases List.mem_cons.1 hp with rfl | hp
      ·have:=Zbd.len t h1
       simpa using this
      ·exact e4 p hp
theorem Zju {s:Nat} (hs:0 < s):∀ (ls:List (List Value)),(∀ l ∈ ls,l.length=s)→∀ k,ls.flatten[k]?=(ls[k / s]?).bind (fun l=>l[k % s]?)
 | [],_,k=>by simp
 | l :: ls,h,k=>by
  have hl:=h l (by simp)
  rw [List.flatten_cons]
  by_cases hk:k < s
  ·rw [List.getElem?_append_left (by omega),Nat.div_eq_of_lt hk,Nat.mod_eq_of_lt hk]
   rfl
  ·rw [List.getElem?_append_right (by omega),Zju hs ls (fun l hl=>h l (by simp [hl])),hl]
   have h1:k / s=(k - s) / s + 1:=by
    have:=Nat.add_div_right (k - s) hs
    rwa [Nat.sub_add_cancel (by omega)] at this
   have h2:k % s=(k - s) % s:=by
    have:=Nat.add_mod_right (k - s) s
    rwa [Nat.sub_add_cancel (by omega)] at this
   rw [h1,h2,List.getElem?_cons_succ]
theorem ZgR {s:Nat}:∀ (ls:List (List Value)),(∀ l ∈ ls,l.length=s)→ls.flatten.length=ls.length * s
 | [],_=>by simp
 | l :: ls,h=>by
  rw [List.flatten_cons,List.length_append,ZgR ls (fun l hl=>h l (by simp [hl])),h l (by simp),List.length_cons,Nat.add_mul]
  omega
theorem Zq9 {s:Nat} (hs:0 < s) (vs:List Value) (zs:Array Value) (hv:∀ v ∈ vs,v.cells.size=s) (hz:zs.size=vs.length * s) :
 Instr.fill (fun i=>some (i * s,s)) zs ((vs.zipIdx 0).map fun x=>(x.2,x.1))=some ((vs.map fun v=>v.cells.toList).flatten).toArray:=by
 obtain ⟨r,h1,h2,h3⟩:=Great.fill_dense hs vs 0 zs hv (by rw [hz,Nat.zero_add]; exact Nat.le_refl _)
 rw [h1]
 congr 1
 have hl:((vs.map fun v=>v.cells.toList).flatten).length=vs.length * s:=by
  have:=ZgR (s:=s) (vs.map fun v=>v.cells.toList) (fun l hl=>by
   obtain ⟨v,hv',rfl⟩:=List.mem_map.1 hl
   simpa using hv v hv')
  simpa using this
 apply Array.ext_getElem?
 intro k
 have hR:(((vs.map fun v=>v.cells.toList).flatten).toArray)[k]?=((vs.map fun v=>v.cells.toList).flatten)[k]?:=by simp
 have h3k:=h3 k
 rw [Nat.zero_add] at h3k
 rw [h3k,hR]
 rw [Zju hs _ (fun l hl=>by
  obtain ⟨v,hv',rfl⟩:=List.mem_map.1 hl
  simpa using hv v hv') k]
 by_cases hk:k < vs.length * s
 ·rw [if_pos ⟨by omega,hk⟩,Nat.sub_zero,List.getElem?_map]
  cases vs[k / s]? <;> simp
 ·rw [if_neg (by omega),Array.getElem?_eq_none (by omega),List.getElem?_map]
  have:vs[k / s]?=none:=List.getElem?_eq_none ((Nat.le_div_iff_mul_le hs).2 (by omega))
  rw [this]
  rfl
theorem ZoB {t e:TypeId} {len:Nat} {parts:Array (Nat × Operand)} {tt:Ty} {ys:List tt.den} {js:List Nat} (hM:RepM X W E M) (ht:Zbv X W E M tm a.tmps.toList) (ho:o.op=.buildSlice t len parts) (hu:P.underlying t=some (.slice e))
 (hp:Zei M tt 0 (parts.toList.map fun p=>(p.1,evalA tm p.2))=some (ys,js)) (hty:Zfz P e tt.n=true) (hlen:len * tt.n≤16777216) (hpl:len=parts.size) (hd:ZaW js=true) :
 Zdv X P o a W E M (.c (.row M.length 0)) (ZbU M js ++ [.row tt ys 0 0 none]):=by
 obtain ⟨e1,e2,e3,e4,e5⟩:=Zmq hM ht hp
 obtain ⟨inf,z,i1,i2,i3,i4,i5⟩:=Zee hty
 have hpos:=ZgW tt
 have hyl:ys.length=len:=by rw [e2,hpl]; simp
 have hcl:=e3.len (fun x cs F h=>Zbd.len tt h)
 obtain ⟨vs,hvs⟩:∃ vs:List Value,vs=parts.toList.map fun p=>a.eval p.2:=⟨_,rfl⟩
 have hvl:vs.length=len:=by rw [hvs,hpl]; simp
 have hpe:(parts.map fun (i,x)=>(i,a.eval x)).toList=(vs.zipIdx 0).map fun x=>(x.2,x.1):=by
  exact ZuV
 have hce:(parts.toList.map fun p=>(a.eval p.2).cells.toList).flatten=(vs.map fun v=>v.cells.toList).flatten:=by rw [hvs,List.map_map]; rfl
 rw [hce] at e3 hcl
 have hv4:∀ v ∈ vs,v.cells.size=tt.n:=fun v hv=>by
  rw [hvs] at hv
  obtain ⟨p,hp,rfl⟩:=List.mem_map.1 hv
  exact e4 p hp
 by_cases h0:len=0
 ·
  have hnil:vs=[]:=List.eq_nil_of_length_eq_zero (by omega)
  have hysn:ys=[]:=List.eq_nil_of_length_eq_zero (by omega)
  subst hysn
  have hown:(W.alloc (.cells #[] e)).ownsRow 0 e tt.n (.slice (some ⟨W.heap.size,0,none⟩) len len) (([]:List tt.den).length) ((vs.map fun v=>v.cells.toList).flatten):=by
   refine ⟨by rw [hnil]; simp, .inr ⟨W.heap.size,len,#[],by rw [h0]; rfl,Nat.zero_le _,heap_alloc_new W _,by simp,by rw [h0]; exact Nat.zero_le _,by simp [h0],by rw [hnil]; simp⟩⟩
  obtain ⟨E',g,m,rm,rc⟩:=ZgQ (W':=W.alloc (.cells #[] e)) hM hd e5 ⟨rfl,rfl,rfl,by simp,fun k hk _=>Below.heap_alloc W _ k hk⟩ hown e3 (own:=[]) rfl (.inr rfl)
  refine ⟨_,_,E', .inl ?_,g,m,rm,rc⟩
  unfold execOp
  simp only [ho,Sem.run_bind]
  have:(Instr.buildSlice t len (parts.map fun (i,x)=>(i,a.eval x))).run P W=.ok (.slice (some ⟨W.heap.size,0,none⟩) len len) (W.alloc (.cells #[] e)):=by
   have hz0:len * inf.size=0:=by rw [h0,Nat.zero_mul]
   have hp0:parts=#[]:=Array.eq_empty_of_size_eq_zero (by omega)
   have hr0:Array.range 0=#[]:=rfl
   simp [Instr.buildSlice,run_underlying hu,sizeOf,typeInfo,i1,hz0,hp0,hr0,Instr.fill,newRow,run_newObj,World.alloc_eq]
  rw [this]
  rfl
 ·have hle:len * inf.size=vs.length * tt.n:=by rw [hvl,i2]
  have hfill:=Zq9 (s:=tt.n) hpos vs ((Array.range (len * inf.size)).map (z.cells[· % z.cells.size]!)) hv4 (by rw [Array.size_map,Array.size_range,hle])
  have hfl:((vs.map fun v=>v.cells.toList).flatten).length=len * tt.n:=by rw [hcl,hyl]
  have hown:(W.alloc (.cells ((vs.map fun v=>v.cells.toList).flatten).toArray e)).ownsRow 0 e tt.n (.slice (some ⟨W.heap.size,0,none⟩) len len) ys.length ((vs.map fun v=>v.cells.toList).flatten):=by
   have hml:len≤maxLen:=by
    exact ZvY
   refine ⟨hcl, .inr ⟨W.heap.size,len,_,by rw [hyl],Nat.zero_le _,heap_alloc_new W _,by omega,hml,by simpa using hfl,?_⟩⟩
   rw [hyl,← hfl]
   exact List.take_length
  obtain ⟨E',g,m,rm,rc⟩:=ZgQ (W':=W.alloc (.cells ((vs.map fun v=>v.cells.toList).flatten).toArray e)) hM hd e5 ⟨rfl,rfl,rfl,by simp,fun k hk _=>Below.heap_alloc W _ k hk⟩ hown e3 (own:=[]) rfl (.inr rfl)
  refine ⟨_,_,E', .inl ?_,g,m,rm,rc⟩
  unfold execOp
  simp only [ho,Sem.run_bind]
  rw [run_buildSlice W t e len _ ((vs.map fun v=>v.cells.toList).flatten).toArray inf z hu i1 i4 (by rw [i2]; omega) (by
   rw [i2]
   have:0 < len * tt.n:=Nat.mul_pos (by omega) hpos
   omega) (by rw [hpe,i2]; rw [i2] at hfill; exact hfill)]
  rfl
theorem Zut (off:Nat) (vs cs:Array Value) (h:off + vs.size≤cs.size):vs.zipIdx.foldl (fun cs (x:Value × Nat)=>cs.setIfInBounds (off + x.2) x.1) cs=(cs.toList.take off ++ vs.toList ++ cs.toList.drop (off + vs.size)).toArray:=by
 rw [← Array.foldl_toList,Array.toList_zipIdx]
 obtain ⟨h1,h2⟩:=Great.foldl_set off vs.toList 0 cs
 apply Array.ext_getElem?
 intro k
 have h2k:=h2 k
 simp only [Nat.add_zero,Array.length_toList] at h2k
 have hR:((cs.toList.take off ++ vs.toList ++ cs.toList.drop (off + vs.size)).toArray)[k]?=(cs.toList.take off ++ vs.toList ++ cs.toList.drop (off + vs.size))[k]?:=by simp
 rw [h2k,hR,List.append_assoc]
 have hl:(cs.toList.take off).length=off:=by simp; omega
 by_cases hk:k < off
 ·rw [if_neg (by omega),List.getElem?_append_left (by omega),List.getElem?_take,if_pos hk]
  simp
 ·rw [List.getElem?_append_right (by omega),hl]
  by_cases hk2:k < off + vs.size
  ·rw [if_pos (by omega),List.getElem?_append_left (by simp; omega)]
  ·rw [if_neg (by omega),List.getElem?_append_right (by simp; omega),List.getElem?_drop]
   simp only [Array.length_toList,Array.getElem?_toList]
   congr 1
   omega
theorem Zuu (ht:Zbv X W E M tm a.tmps.toList) {pl:Array (Nat × Nat)}:∀ {parts:List (Nat × Operand)} {l l' : List AC} {cells:Array Value},ZFR pl l (parts.map fun p=>(p.1,evalA tm p.2))=some l'→Zbu X W E M l cells.toList →
 ∃ cells',Instr.fill (pl[·]?) cells (parts.map fun p=>(p.1,a.eval p.2))=some cells'∧Zbu X W E M l' cells'.toList
 | [],l,l',cells,h,hr=>by
  obtain rfl:=Option.some.inj h
  exact ⟨cells,rfl,hr⟩
 | (i,x) :: r,l,l',cells,h,hr=>by
  rw [List.map_cons] at h
  unfold ZFR at h
  split at h
  ·rename_i q cs hq hcs
   cases hc:Nat.beq cs.length q.2 && Nat.ble (q.1 + cs.length) l.length with
   | false=>rw [hc] at h; cases h
   | true =>
    rw [hc] at h
    rw [Bool.and_eq_true] at hc
    have e1:=Nat.eq_of_beq_eq_true hc.1
    have e2:=Nat.le_of_ble_eq_true hc.2
    have hx:=Zea (Zam ht x) hcs
    have hxl:=hx.len
    have hrl:=hr.len
    simp only [Array.length_toList] at hxl hrl
    have hnew:Zbu X W E M (l.take q.1 ++ cs ++ l.drop (q.1 + cs.length)) ((cells.toList.take q.1 ++ (a.eval x).cells.toList ++ cells.toList.drop (q.1 + (a.eval x).cells.size)).toArray).toList:=by
     have h3:Zbu X W E M (l.drop (q.1 + cs.length)) (cells.toList.drop (q.1 + (a.eval x).cells.size)):=by rw [hxl]; exact hr.drop _
     exact ((hr.take q.1).append hx).append h3
    obtain ⟨cells',k1,k2⟩:=Zuu ht h hnew
    refine ⟨cells',?_,k2⟩
    rw [List.map_cons]
    unfold Instr.fill
    obtain ⟨off,n⟩:=q
    simp only [hq] at e1 e2 k1 ⊢
    rw [if_neg (by simp; omega),Zut off _ cells (by omega)]
    exact k1
  ·cases h
theorem does_build {t:TypeId} {parts:Array (Nat × Operand)} {l:List AC} (hM:RepM X W E M) (ht:Zbv X W E M tm a.tmps.toList) (ho:o.op=.build t parts) (hb:ZDo P t (parts.toList.map fun p=>(p.1,evalA tm p.2))=some l) :
 Zdv X P o a W E M (.ag l) M:=by
 unfold ZDo at hb
 split at hb
 ·rename_i fs z hu hz
  split at hb
  ·rename_i pl hpl
   cases hok:z.cells.toList.all Zhw with
   | false=>rw [hok] at hb; cases hb
   | true =>
    rw [hok] at hb
    obtain ⟨cells',h1,h2⟩:=Zuu ht hb (Zii hok)
    cases hi:P.info? t with
    | none=>rw [hi] at hz; cases hz
    | some it =>
     rw [hi] at hz
     have hz:it.zero=some z:=hz
     have hbt:P.built t (parts.map fun (i,x)=>(i,a.eval x)).toList=some cells':=by
      unfold Program.built
      unfold ZDn at hpl
      rw [Array.toList_map]
      simp only [hi,hu,hz,hpl]
      exact h1
     refine Zdv.stay hM (u:=.agg cells') ?_ ⟨cells'.toList,by simp,h2⟩
     unfold execOp
     simp only [ho,Sem.run_bind,run_build W t _ cells' hbt,Result.andThen_ok]
     rfl
  ·cases hb
 ·cases hb
theorem Zbt.flat {t:Ty} (hf:t.flat=true):∀ {xs:List t.den} {cs:List Value} {G:List Nat},Zbt (Zbd W t) xs cs G→G=[]
 | [],_,_,h=>h.2
 | _ :: _,_,_,⟨c1,c2,G1,G2,h1,h2,_,e2⟩=>by rw [e2,ZoA t hf h1,Zbt.flat hf h2]; rfl
theorem Zbt.set {α:Type} {R:α→List Value→List Nat→Prop} {n:Nat} (hn:∀ x cs F,R x cs F→cs.length=n):∀ {xs:List α} {cs:List Value} {k:Nat} {x y:α} {c1:List Value},Zbt R xs cs []→xs[k]?=some x→R y c1 [] →
 Zbt R (xs.set k y) (cs.take (k * n) ++ c1 ++ cs.drop (k * n + n)) []
 | [],_,_,_,_,_,_,h,_=>by simp at h
 | z :: xs,cs,0,_,y,c1,⟨d1,d2,G1,G2,h1,h2,e1,e2⟩,_,hy=>by
  have hl:=hn _ _ _ h1
  have e2':=List.append_eq_nil_iff.1 e2.symm
  obtain ⟨rfl,rfl⟩:=e2'
  refine ⟨c1,d2,[],[],hy,h2,?_,rfl⟩
  rw [e1,Nat.zero_mul,Nat.zero_add,← hl,List.drop_left]
  rfl
 | z :: xs,cs,k + 1,x,y,c1,⟨d1,d2,G1,G2,h1,h2,e1,e2⟩,hx,hy=>by
  have hl:=hn _ _ _ h1
  obtain ⟨rfl,rfl⟩:=List.append_eq_nil_iff.1 e2.symm
  have ih:=Zbt.set hn (k:=k) h2 (by simpa using hx) hy
  refine ⟨d1,_,[],[],h1,ih,?_,rfl⟩
  rw [e1]
  have e3:(k + 1) * n=d1.length + k * n:=by rw [Nat.add_mul,hl]; omega
  rw [e3,List.take_length_add_append,Nat.add_assoc,List.drop_length_add_append]
  simp
end
section
variable {P:Program} {X:List Nat} {W:World} {E:Env} {M:Mem} {a:Act} {tm:List AV} {o:Oper}
theorem ZoC (hM:RepM X W E M) {t:Ty} {l:List AC} {y:t.den} {js:List Nat} {cs us:List Value} {F:List Nat} {x:t.den} (hx:Zbd W t x cs F) (h:ZbD M t l=some (y,js))
 (hn:l.length=t.n) (hr:Zbu X W E M l us):Zbd W t y (cs.take 0 ++ us ++ cs.drop (0 + us.length)) (feet E js)∧(∀ j ∈ js,∃ t xs v c,M[j]?=some (.row t xs v c none))∧0 + us.length≤cs.length:=by
 have hl:=hr.len
 have hc:=Zbd.len t hx
 unfold ZbD at h
 split at h
 ·rename_i y' js' ho
  obtain ⟨rfl,rfl⟩:=Prod.mk.inj (Option.some.inj h)
  obtain ⟨c1,u1,e,q1,q2,q3⟩:=ZgP hM t ho hr
  obtain rfl:u1=[]:=q2
  rw [List.append_nil] at e
  have hd:cs.drop (0 + us.length)=[]:=List.drop_of_length_le (by omega)
  rw [hd,List.take_zero,List.nil_append,List.append_nil,e]
  exact ⟨q1,q3,by rw [← e]; omega⟩
 ·cases h
theorem ZoD (hM:RepM X W E M):∀ (t:Ty) {x y:t.den} {q:Nat} {l:List AC} {js:List Nat} {cs us:List Value} {F:List Nat},Zbd W t x cs F→Zj3 M t x q l=some (y,js)→Zbu X W E M l us →
 ∃ F',Zbd W t y (cs.take q ++ us ++ cs.drop (q + us.length)) F'∧(∀ z,F'.count z≤F.count z + (feet E js).count z)∧(∀ j ∈ js,∃ t xs v c,M[j]?=some (.row t xs v c none))∧q + us.length≤cs.length
 | .int k,x,y,q,l,js,cs,us,F,hx,h,hr=>by
  unfold Zj3 at h
  cases hc:Nat.beq q 0 && Nat.beq l.length 1 with
  | false=>rw [hc] at h; cases h
  | true =>
   exact Zh2
 | .bool,x,y,q,l,js,cs,us,F,hx,h,hr=>by
  unfold Zj3 at h
  cases hc:Nat.beq q 0 && Nat.beq l.length 1 with
  | false=>rw [hc] at h; cases h
  | true =>
   exact Zh2
 | .opq,x,y,q,l,js,cs,us,F,hx,h,hr=>by
  unfold Zj3 at h
  cases hc:Nat.beq q 0 && Nat.beq l.length 1 with
  | false=>rw [hc] at h; cases h
  | true =>
   exact Zh2
 | .str,x,y,q,l,js,cs,us,F,hx,h,hr=>by
  unfold Zj3 at h
  cases hc:Nat.beq q 0 && Nat.beq l.length 1 with
  | false=>rw [hc] at h; cases h
  | true =>
   exact Zh2
 | .list b,x,y,q,l,js,cs,us,F,hx,h,hr=>by
  unfold Zj3 at h
  cases hc:Nat.beq q 0 && Nat.beq l.length 1 with
  | false=>rw [hc] at h; cases h
  | true =>
   exact Zh2
 | .prod a b,x,y,q,l,js,cs,us,F,hx,h,hr=>by
  unfold Zj3 at h
  have hl:=hr.len
  cases hc:Nat.beq q 0 && Nat.beq l.length (a.n + b.n) with
  | true =>
   rw [hc] at h
   rw [Bool.and_eq_true] at hc
   obtain rfl:=Nat.eq_of_beq_eq_true hc.1
   obtain ⟨h1,h2,h3⟩:=ZoC (t:=.prod a b) hM hx (show ZbD M _ l=_ from h) (Nat.eq_of_beq_eq_true hc.2) hr
   exact ⟨_,h1,fun z=>by omega,h2,h3⟩
  | false =>
   rw [hc] at h
   simp only [cond_false] at h
   obtain ⟨c1,c2,F1,F2,r1,r2,rfl,rfl⟩:=hx
   have k1:=Zbd.len a r1
   have k2:=Zbd.len b r2
   cases hc2:Nat.ble (q + l.length) a.n with
   | true =>
    rw [hc2] at h
    simp only [cond_true] at h
    have hle:=Nat.le_of_ble_eq_true hc2
    cases hs:Zj3 M a x.1 q l with
    | none=>rw [hs] at h; cases h
    | some p =>
     obtain ⟨z,js'⟩:=p
     rw [hs] at h
     obtain ⟨rfl,rfl⟩:=Prod.mk.inj (Option.some.inj h)
     obtain ⟨F',q1,q2,q3,q4⟩:=ZoD hM a r1 hs hr
     refine ⟨F' ++ F2,⟨_,c2,F',F2,q1,r2,?_,rfl⟩,fun w=>?_,q3,by rw [List.length_append]; omega⟩
     ·rw [List.take_append_of_le_length (by omega),List.drop_append_of_le_length q4]
      simp
     ·have:=q2 w
      exact ZkQ
   | false =>
    rw [hc2] at h
    simp only [cond_false] at h
    cases hc3:Nat.ble a.n q with
    | false=>rw [hc3] at h; cases h
    | true =>
     rw [hc3] at h
     simp only [cond_true] at h
     have hge:=Nat.le_of_ble_eq_true hc3
     cases hs:Zj3 M b x.2 (q - a.n) l with
     | none=>rw [hs] at h; cases h
     | some p =>
      obtain ⟨z,js'⟩:=p
      rw [hs] at h
      obtain ⟨rfl,rfl⟩:=Prod.mk.inj (Option.some.inj h)
      obtain ⟨F',q1,q2,q3,q4⟩:=ZoD hM b r2 hs hr
      refine ⟨F1 ++ F',⟨c1,_,F1,F',r1,q1,?_,rfl⟩,fun w=>?_,q3,by rw [List.length_append]; omega⟩
      ·have t1:(c1 ++ c2).take q=c1 ++ c2.take (q - a.n):=by
        have:=List.take_length_add_append (l₁:=c1) (l₂:=c2) (q - a.n)
        rwa [show c1.length + (q - a.n)=q by omega] at this
       have t2:(c1 ++ c2).drop (q + us.length)=c2.drop (q - a.n + us.length):=by
        have:=List.drop_length_add_append (l₁:=c1) (l₂:=c2) (q - a.n + us.length)
        rwa [show c1.length + (q - a.n + us.length)=q + us.length by omega] at this
       rw [t1,t2]
       simp
      ·have:=q2 w
       exact ZkQ
theorem ZhZ {W' : World} {js:List Nat} {i ver cc:Nat} {t:Ty} {xs ys:List t.den} {e:EB} {F2:List Nat} {h0 h1:Option (Nat × Nat × Nat)} (hM:RepM X W E M) (hi:M[i]?=some (.row t xs ver cc h0)) (he:E[i]?=some e)
 (hd:ZaW js=true) (hj:∀ j ∈ js,∃ t xs v c,M[j]?=some (.row t xs v c none)) (hij:∀ j ∈ js,j ≠ i) (hown:∀ q ∈ e.val.ownBlock.toList,q ∈ e.foot)
 (hg:W.grownBy W' e.val.ownBlock) (ho:∀ E' M',Zbb W E W' E'→ZaK W E M W' E' M'→ZOu W' E' M' t ys h1 ⟨e.blk,e.val,F2⟩) (hF:∀ z,F2.count z≤e.foot.count z + (feet E js).count z) :
 ∃ E',Zbb W E W' E'∧ZaK W E M W' E' ((ZbU M js).set i (.row t ys ver (cc + 1) h1))∧RepM X W' E' ((ZbU M js).set i (.row t ys ver (cc + 1) h1)):=by
 have hjl:=ZEm hM hj
 have hkl:=Zfs js E
 have hml:=Zft js M
 have hil:i < M.length:=(List.getElem?_eq_some_iff.1 hi).1
 have hilE:i < E.length:=by rw [← hM.len]; exact hil
 have hei:(killE E js)[i]?=some e:=by rw [Zbh hij]; exact he
 have hfe:∀ b ∈ feet E js,b ∈ foots E:=fun b hb=>by
  exact ZkO
 have hei' : ∀ b ∈ e.foot,b ∈ foots E:=fun b hb=>Zaw.2 ⟨e,List.mem_of_getElem? he,hb⟩
 have kept:∀ b,b < W.heap.size→(∀ q ∈ e.val.ownBlock.toList,b ≠ q)→W'.heap[b]?=W.heap[b]?:=fun b hb hne=>hg.block b hb (fun h=>hne b (by rw [← h]; simp) rfl)
 have keptO:∀ q e',E[q]?=some e'→q ≠ i→∀ b ∈ e'.foot,W'.heap[b]?=W.heap[b]?:=fun q e' hq hne b hb=>kept b (hM.lt b (Zaw.2 ⟨e',List.mem_of_getElem? hq,hb⟩)) (fun z hz h=>by
  subst h
  exact ZcD hM.nodup hq he hne hb (hown b hz))
 have hF2:∀ b ∈ F2,b ∈ foots E:=fun b hb=>by
  have h1:=List.count_pos_iff.2 hb
  have h2:=hF b
  by_cases hz:0 < e.foot.count b
  ·exact hei' b (List.count_pos_iff.1 hz)
  ·exact hfe b (List.count_pos_iff.1 (by omega))
 obtain ⟨e2,he2⟩:∃ e2:EB,e2=⟨e.blk,e.val,F2⟩:=⟨_,rfl⟩
 have inE:∀ b ∈ foots ((killE E js).set i e2),b ∈ foots E:=fun b hb=>by
  obtain ⟨e',h1,h2⟩:=Zaw.1 hb
  rcases List.mem_or_eq_of_mem_set h1 with h1 | rfl
  ·exact ZfS hd hjl (Zaw.2 ⟨e',h1,h2⟩)
  ·rw [he2] at h2; exact hF2 b h2
 have g:Zbb W E W' ((killE E js).set i e2) :=
  ⟨hg.os,hg.tape,hg.output,hg.size,fun b hb hn=>kept b hb (fun q hq h=>hn (by subst h; exact hei' b (hown b hq))),
   fun b hb=>.inl (inE b hb),fun q e' hq=>by
   by_cases hqi:i=q
   ·exact Zvl
   ·rw [List.getElem?_set_ne hqi]
    exact Zey hq⟩
 have m:ZaK W E M W' ((killE E js).set i e2) ((ZbU M js).set i (.row t ys ver (cc + 1) h1)):=Zez (fun q t' xs' v' c' hh' hq=>by
  have hql:=(List.getElem?_eq_some_iff.1 hq).1
  by_cases hqi:i=q
  ·subst hqi
   rw [hi] at hq
   obtain ⟨rfl,h2,h3⟩:t=t'∧ver=v'∧cc=c':=by injection Option.some.inj hq with a1 a2 a3 a4; exact ⟨a1,a3,a4⟩
   subst h2
   subst h3
   exact .inr (.inr (.inl ⟨_,_,_,List.getElem?_set_self (by rw [hml]; exact hil),by omega,fun e' he'=>⟨e2,List.getElem?_set_self (by rw [hkl]; exact hilE),by
    obtain rfl:e=e':=Option.some.inj (he.symm.trans he')
    rw [he2]⟩⟩))
  ·rw [List.getElem?_set_ne hqi,List.getElem?_set_ne hqi]
   by_cases hqj:q ∈ js
   ·exact .inl (Zbq hqj hql)
   ·refine .inr (.inr (.inr ⟨by rw [Za2 (fun k hk e=>hqj (by rw [← e]; exact hk))]; exact hq,fun e' he'=>⟨?_,keptO q e' he' (fun h=>hqi h.symm)⟩⟩))
    rw [Zbh (fun k hk e=>hqj (by rw [← e]; exact hk))]
    exact he') (fun q hq=>by
  have hql:=(List.getElem?_eq_some_iff.1 hq).1
  by_cases hqi:i=q
  ·subst hqi
   rw [hi] at hq
   cases hq
  ·rw [List.getElem?_set_ne hqi]
   by_cases hqj:q ∈ js
   ·exact Zbq hqj hql
   ·rw [Za2 (fun k hk e=>hqj (by rw [← e]; exact hk))]; exact hq)
 refine ⟨_,g,m,Ze0 hM g m (by simp [hml,hkl,hM.len]) (ZbO fun x=>?_) (fun q b e' hb he'=>?_) (fun b hb=>Nat.lt_of_lt_of_le (hM.lt b (inE b hb)) hg.size)⟩
 ·have c1:=Zeq x hd hjl
  have c2:=ZhY hM x
  have c4:=ZhX (e':=e2) x hei
  have c6:e2.foot.count x=F2.count x:=by rw [he2]
  have c7:=hF x
  omega
 ·by_cases hqi:i=q
  ·subst hqi
   rw [List.getElem?_set_self (by rw [hml]; exact hil)] at hb
   rw [List.getElem?_set_self (by rw [hkl]; exact hilE)] at he'
   obtain rfl:=Option.some.inj hb
   obtain rfl:=Option.some.inj he'
   subst he2
   exact .inr (ho _ _ g m)
  ·exact ZuU
theorem ZyJ {t:TypeId} {i v n k q:Nat} {l' : List AC} (h:(ZlY P M t i v n k q l').need):∃ (tt:Ty) (xs:List tt.den) (cc:Nat) (y:tt.den) (js:List Nat),M[i]?=some (.row tt xs v cc none)∧n=tt.n∧l'.length=Zbg P t∧0 < Zbg P t ∧
 Zj3 M tt (nth tt xs k) q l'=some (y,js)∧ZaW js=true∧(∀ j ∈ js,j ≠ i)∧(ZlY P M t i v n k q l').val=.any∧(ZlY P M t i v n k q l').mem=(ZbU M js).set i (.row tt (xs.set k y) v (cc + 1) none):=by
 unfold ZlY at h ⊢
 split at h
 ·rename_i tt xs cv cc hM
  cases hc:(Nat.beq v cv && Nat.beq n tt.n) && (Nat.beq l'.length (Zbg P t) && Nat.blt 0 (Zbg P t)) with
  | false=>rw [hc] at h; exact h.elim
  | true =>
   rw [hc] at h
   simp only [cond_true] at h ⊢
   simp only [Bool.and_eq_true] at hc
   obtain ⟨⟨c1,c2⟩,c4,c6⟩:=hc
   obtain rfl:=Nat.eq_of_beq_eq_true c1
   cases hs:Zj3 M tt (nth tt xs k) q l' with
   | none=>rw [hs] at h; exact h.elim
   | some p =>
    obtain ⟨y,js⟩:=p
    simp only [hs] at h ⊢
    cases hd:ZaW js && js.all (fun j=>!Nat.beq j i) with
    | false=>rw [hd] at h; exact h.elim
    | true =>
     simp only [cond_true]
     rw [Bool.and_eq_true] at hd
     exact ⟨tt,xs,cc,y,js,hM,Nat.eq_of_beq_eq_true c2,Nat.eq_of_beq_eq_true c4,Nat.le_of_ble_eq_true c6,hs,hd.1,fun j hj e=>by
      have:=List.all_eq_true.1 hd.2 j hj
      subst e
      simp at this,trivial,rfl⟩
 ·exact h.elim
theorem ZyK {t:TypeId} {x y:Operand} {i v n k q:Nat} {l' : List AC} (hM:RepM X W E M) (ht:Zbv X W E M tm a.tmps.toList) (ho:o.op=.store t x y) (hx:evalA tm x=.w (.c (.rp i v n k q))) (hy:ZgV (evalA tm y)=some l')
 (hn:(ZlY P M t i v n k q l').need):Zdv X P o a W E M (ZlY P M t i v n k q l').val (ZlY P M t i v n k q l').mem:=by
 obtain ⟨tt,xs,cc,z,js,hi,rfl,hs,hpos,hset,hd,hji,e1,e2⟩:=ZyJ hn
 rw [e1,e2]
 have hp:=Zam ht x
 rw [hx] at hp
 have hra:Zcn M i v=some ⟨tt,xs,cc⟩:=by unfold Zcn; rw [hi]; simp
 obtain ⟨e,he,⟨b,l,c,hev,hk,hv⟩,T,cells,G,w1,w2,w3⟩:=Zga hM hra (hp:Zbo X W E M (.rp i v tt.n k q) _).2
 simp only at w1 w2 w3
 rw [hev] at w1
 obtain rfl:xs.length=l:=by
  obtain ⟨A,c',e'⟩:=Zck ⟨T,cells,G,w1,w2,rfl⟩
  injection e' with _ e' _
  exact e'.symm
 obtain ⟨cur,q1,q2,q3,q4,q5⟩:=ZdD w1
 have hfoot:e.foot=b :: G:=by rw [w3,hev]; rfl
 have hmem:b ∈ foots E:=Zaw.2 ⟨e,List.mem_of_getElem? he,by rw [hfoot]; simp⟩
 have hy':=Zea (Zam ht y) hy
 have hyl:=hy'.len
 simp only [Array.length_toList] at hyl
 have hcells:cells.length=xs.length * tt.n:=w2.len (fun x cs F h=>Zbd.len tt h)
 have hkn:k * tt.n + tt.n≤xs.length * tt.n:=by
  have:(k + 1) * tt.n≤xs.length * tt.n:=Nat.mul_le_mul_right _ hk
  rw [Nat.add_mul] at this
  omega
 have hxk:=List.getElem?_eq_getElem hk
 have hnth:nth tt xs k=xs[k]:=by unfold nth; rw [List.getD_eq_getElem?_getD,hxk]; rfl
 obtain ⟨c0,c1,c2,G0,G1,G2,s1,s2,s3,s4,s5,s6⟩:=w2.split (fun x cs F h=>Zbd.len tt h) k hxk
 have hc1:=Zbd.len tt s5
 rw [hnth] at hset
 obtain ⟨F',t1,t2,t3,t4⟩:=ZoD hM tt s5 hset hy'
 simp only [Array.length_toList] at t1 t4
 obtain ⟨inf,hinf⟩:∃ i,P.info? t=some i:=by
  unfold Zbg at hpos
  cases hq:P.info? t with
  | none=>rw [hq] at hpos; exact absurd hpos (Nat.lt_irrefl 0)
  | some i=>exact ⟨i,rfl⟩
 have hsz:Zbg P t=inf.size:=by unfold Zbg; rw [hinf]
 have hcap:xs.length * tt.n≤c * tt.n:=Nat.mul_le_mul_right _ q3
 have hst:=run_storeCells_at (P:=P) b (k * tt.n + q) T (a.eval y).cells.toList 0 cur W q1 (by simp; omega) (fun v hv=>List.all_eq_true.1 hy'.all v hv)
 simp only [Nat.add_zero,Array.length_toList] at hst
 obtain ⟨W',hW'⟩:∃ W',W'=W.setRow b (cur.toList.take (k * tt.n + q) ++ (a.eval y).cells.toList ++ cur.toList.drop (k * tt.n + q + (a.eval y).cells.size)).toArray:=⟨_,rfl⟩
 rw [← hW'] at hst
 have keep:∀ p,p ≠ b→W'.heap[p]?=W.heap[p]?:=fun p hp=>by rw [hW']; exact setRow_other W b p _ (fun e=>hp e)
 have hnd:e.foot.Nodup:=by
  exact Zvd
 rw [hfoot,List.nodup_cons] at hnd
 have hbG:∀ p ∈ G,p ≠ b:=fun p hp e=>hnd.1 (e ▸ hp)
 have hbF:∀ p ∈ F',p ≠ b:=fun p hp e'=>by
  subst e'
  have h1:=List.count_pos_iff.2 hp
  have h2:=t2 p
  have h3:G1.count p=0:=List.count_eq_zero.2 (fun hm=>hnd.1 (by rw [s2]; simp [hm]))
  obtain ⟨j,hj,e',he',hb⟩:=ZkC (List.count_pos_iff.1 (show 0 < (feet E js).count p by omega))
  exact ZcD hM.nodup he' he (hji j hj) hb (by rw [hfoot]; simp)
 have hlen2:cur.toList.length=c * tt.n:=by simpa using q5
 have hrows:Zbt (Zbd W tt) (xs.set k z) (c0 ++ (c1.take q ++ (a.eval y).cells.toList ++ c1.drop (q + (a.eval y).cells.size)) ++ c2) (G0 ++ F' ++ G2):=by
  rw [List.set_eq_take_append_cons_drop,if_pos hk]
  have h1:Zbt (Zbd W tt) (z :: xs.drop (k + 1)) ((c1.take q ++ (a.eval y).cells.toList ++ c1.drop (q + (a.eval y).cells.size)) ++ c2) (F' ++ G2):=⟨_,_,_,_,t1,s6,rfl,rfl⟩
  have:=s4.app h1
  simpa only [List.append_assoc] using this
 have hol:Zc3 W' (Zbd W' tt) tt.n (xs.set k z) e.val (b :: (G0 ++ F' ++ G2)):=by
  refine ⟨T,_,G0 ++ F' ++ G2,?_,hrows.imp (fun x cs F h hF=>Zbd.keep tt h (fun p hp=>keep p ?_)),by rw [hev]; rfl⟩
  ·rw [hev,List.length_set]
   refine ⟨by have:=hrows.len (fun x cs F h=>Zbd.len tt h); rw [List.length_set] at this; exact this, .inr ⟨b,c,_,rfl,Nat.zero_le _,by rw [hW']; exact setRow_heap W b cur _ T _ q1,q3,q4,?_,?_⟩⟩
   ·simp
    omega
   ·have hc0:c0.length + (c1.length + c2.length)=xs.length * tt.n:=by rw [← hcells,s1]; simp
    have hcur:cur.toList=cells ++ cur.toList.drop (xs.length * tt.n):=by rw [← q2,List.take_append_drop]
    have f1:cur.toList.take (k * tt.n + q)=c0 ++ c1.take q:=by
     rw [hcur,List.take_append_of_le_length (by omega),s1,List.append_assoc,← s3,List.take_length_add_append,List.take_append_of_le_length (by omega)]
    have f2:cur.toList.drop (k * tt.n + q + (a.eval y).cells.size)=c1.drop (q + (a.eval y).cells.size) ++ c2 ++ cur.toList.drop (xs.length * tt.n):=by
     rw [hcur,List.drop_append_of_le_length (by omega),s1,List.append_assoc,← s3,Nat.add_assoc,List.drop_length_add_append,List.drop_append_of_le_length (by omega)]
     have:((c0 ++ (c1 ++ c2)) ++ List.drop (xs.length * tt.n) cur.toList).drop (xs.length * tt.n)=List.drop (xs.length * tt.n) cur.toList:=by
      rw [show xs.length * tt.n=(c0 ++ (c1 ++ c2)).length by simp; omega]
      exact List.drop_left
     rw [this]
    simp only [List.toList_toArray]
    rw [f1,f2]
    have:(c0 ++ List.take q c1 ++ (a.eval y).cells.toList ++ (List.drop (q + (a.eval y).cells.size) c1 ++ c2 ++ List.drop (xs.length * tt.n) cur.toList)) =
     (c0 ++ (List.take q c1 ++ (a.eval y).cells.toList ++ List.drop (q + (a.eval y).cells.size) c1) ++ c2) ++ List.drop (xs.length * tt.n) cur.toList:=by simp
    rw [this]
    refine List.take_left' ?_
    simp
    omega
  ·have:=hF p hp
   rcases List.mem_append.1 this with h | h
   ·rcases List.mem_append.1 h with h | h
    ·exact hbG p (by rw [s2]; simp [h])
    ·exact hbF p h
   ·exact hbG p (by rw [s2]; simp [h])
 obtain ⟨E',g,m,rm⟩:=ZhZ (h1:=none) (ys:=xs.set k z) (F2:=b :: (G0 ++ F' ++ G2)) hM hi he hd t3 hji (fun p hp=>by rw [hev] at hp; simp [Value.ownBlock] at hp; rw [hfoot,hp]; simp) ⟨by rw [hW']; rfl,by rw [hW']; rfl,by rw [hW']; rfl,by rw [hW']; simp,fun p _ hne=>keep p (fun e'=>hne (by rw [hev,e']; rfl))⟩ (fun _ _ _ _=>hol) (fun w=>by
  have:=t2 w
  rw [hfoot,s2,List.count_cons,List.count_cons,List.count_append,List.count_append,List.count_append,List.count_append]
  omega)
 refine ⟨undef,W',E', .inr ⟨?_,rfl⟩,g,m,rm,trivial⟩
 unfold execOp
 simp only [ho,hv,Instr.storeAt,Instr.sureAddr,storeVar,sizeOf,typeInfo,Sem.run_bind,Sem.run_pure,Result.andThen_ok,run_program,hinf,Sem.run_ite]
 rw [if_neg (by omega),hst]
 rfl
theorem Zf5 {tt:Ty} {d:tt.den} {cs:List Value} (h:Zbd W tt d cs []):∀ n:Nat,Zbt (Zbd W tt) (List.replicate n d) (List.replicate n cs).flatten []
 | 0=>⟨rfl,rfl⟩
 | n + 1=>⟨cs,_,[],[],h,Zf5 h n,by rw [List.replicate_succ,List.flatten_cons],rfl⟩
theorem Zuv {zs:Array Value} {s n:Nat} (hz:zs.size=s) (hs:0 < s):(Array.range (n * s)).map (zs[· % zs.size]!)=((List.replicate n zs.toList).flatten).toArray:=by
 apply Array.toList_inj.1
 apply List.ext_getElem?
 intro k
 have hall:∀ l ∈ List.replicate n zs.toList,l.length=s:=fun l hl=>by rw [List.eq_of_mem_replicate hl]; simpa using hz
 rw [List.toList_toArray,Zju hs _ hall k]
 rw [Array.getElem?_toList,Array.getElem?_map,List.getElem?_replicate]
 by_cases hk:k < n * s
 ·have h1:k / s < n:=Nat.div_lt_of_lt_mul (by rw [Nat.mul_comm]; exact hk)
  have h2:k % s < zs.size:=by rw [hz]; exact Nat.mod_lt _ hs
  rw [if_pos h1,Array.getElem?_range,if_pos hk]
  simp only [Option.map_some,Option.bind_some]
  rw [hz]
  simp only [Array.getElem?_toList,getElem!_pos zs (k % s) h2,Array.getElem?_eq_getElem h2]
 ·have h1:¬ k / s < n:=fun h=>hk (by
   have:=(Nat.div_lt_iff_lt_mul hs).1 h
   exact this)
  rw [if_neg h1,Array.getElem?_range,if_neg hk]
  rfl
theorem Zp3 {t e:TypeId} {l c:Operand} {n m:Int} {tt:Ty} {z:Value} {d:tt.den} (hM:RepM X W E M) (ht:Zbv X W E M tm a.tmps.toList) (ho:o.op=.makeSlice t l c) (hu:P.underlying t=some (.slice e))
 (hl:evalA tm l=.w (.c (.int .i64 n))) (hc:evalA tm c=.w (.c (.int .i64 m))) (hz:(P.info? e).bind (·.zero)=some z) (hok:z.cells.toList.all Zhw=true) (hty:Zfz P e tt.n=true)
 (hd:ZbD M tt (z.cells.toList.map ZDl)=some (d,[])) (hn:n=m∧0≤n∧n≤(rowMax:Nat)):Zdv X P o a W E M (.c (.row M.length 0)) (M ++ [.row tt (List.replicate n.toNat d) 0 0 none]):=by
 obtain ⟨rfl,h0,hmx⟩:=hn
 have pl:=Zam (M:=M) (W:=W) (E:=E) ht l
 rw [hl] at pl
 have pc:=Zam (M:=M) (W:=W) (E:=E) ht c
 rw [hc] at pc
 obtain ⟨el,wl⟩:=ZdS pl
 obtain ⟨ec,_⟩:=ZdS pc
 obtain ⟨inf,z',i1,i2,i3,i4,i5⟩:=Zee hty
 obtain rfl:z'=z:=by rw [i1] at hz; simpa [i4] using hz
 have hpos:=ZgW tt
 have hrep:Zbd W tt d z'.cells.toList []:=by
  unfold ZbD at hd
  split at hd
  ·rename_i y js ho'
   obtain ⟨rfl,rfl⟩:=Prod.mk.inj (Option.some.inj hd)
   obtain ⟨c1,u1,e1,q1,q2,q3⟩:=ZgP hM tt ho' (Zii hok)
   exact ZvS
  ·cases hd
 obtain ⟨k,rfl⟩:∃ k:Nat,n=k:=⟨n.toNat,by omega⟩
 have hk:k≤rowMax:=by omega
 simp only [Int.toNat_natCast]
 obtain ⟨hb1,hb2⟩:=Zgu hk i3
 obtain ⟨cells,hcells⟩:∃ cells,cells=(List.replicate k z'.cells.toList).flatten:=⟨_,rfl⟩
 have hlen:cells.length=k * tt.n:=by rw [hcells,ZgR (s:=tt.n) _ (fun l hl=>by rw [List.eq_of_mem_replicate hl]; simpa using i5)]; simp
 have hrows:Zbt (Zbd W tt) (List.replicate k d) cells []:=by rw [hcells]; exact Zf5 hrep k
 have hown:(W.alloc (.cells cells.toArray e)).ownsRow 0 e tt.n (.slice (some ⟨W.heap.size,0,none⟩) k k) (List.replicate k d).length cells:=by
  refine ⟨by rw [hlen]; simp, .inr ⟨W.heap.size,k,_,by simp,Nat.zero_le _,heap_alloc_new W _,by simp,hb1,by simpa using hlen,?_⟩⟩
  simp only [List.toList_toArray,List.length_replicate]
  rw [← hlen]
  exact List.take_length
 obtain ⟨E',g,mm,rm,rc⟩:=ZgQ (W':=W.alloc (.cells cells.toArray e)) (js:=[]) hM rfl (by simp) ⟨rfl,rfl,rfl,by simp,fun k hk _=>Below.heap_alloc W _ k hk⟩ hown hrows (own:=[]) rfl (.inr rfl)
 refine ⟨_,_,E', .inl ?_,g,mm,rm,rc⟩
 unfold execOp
 simp only [ho,Sem.run_bind]
 have hw:IntKind.i64.wrap (k:Int)=k:=by
  have:(k:Int)≤9223372036854775807:=by unfold maxLen at hb1; omega
  exact IntWalk.i64_in _ ⟨by omega,by omega⟩
 have hsz:¬ ((inf.bytes:Int) * (k:Int) > 2 ^ 48):=by
  have h2:inf.bytes * k≤140737488355328:=by rw [Nat.mul_comm]; exact hb2
  have h3:((inf.bytes * k:Nat):Int)≤140737488355328:=by omega
  rw [Int.natCast_mul] at h3
  omega
 have hrun:(Instr.makeSlice t (a.eval l) (a.eval c)).run P W=.ok (.slice (some ⟨W.heap.size,0,none⟩) k k) (W.alloc (.cells cells.toArray e)):=by
  rw [el,ec]
  unfold Instr.makeSlice
  have h1:¬ ((k:Int) < 0):=by omega
  have h2:¬ ((k:Int) > (k:Int)):=by omega
  have h3:¬ ((inf.bytes:Int) * (k:Int) > 2 ^ 48):=hsz
  simp only [Sem.run_bind,run_underlying hu,Result.andThen_ok,asInt,asIntOf,Sem.run_pure,typeInfo,run_program,i1,hw,Sem.run_ite,h1,h2,h3,Bool.false_or,Bool.or_false,decide_false,Bool.false_eq_true,if_false,run_askRoom,sizeOf,Int.toNat_natCast]
  by_cases hk0:k * inf.size=0
  ·have hk0' : k=0:=by
    rcases Nat.mul_eq_zero.1 hk0 with h | h
    ·exact h
    ·omega
   subst hk0'
   have hc0:cells=[]:=List.eq_nil_of_length_eq_zero (by rw [hlen]; simp)
   rw [if_pos hk0,hc0]
   have hr0:Array.range 0=#[]:=rfl
   simp [newRow,run_newObj,World.alloc_eq,hr0]
  ·rw [if_neg hk0]
   simp only [zeroValue,typeInfo,Sem.run_bind,run_program,i1,i4,Sem.run_pure,Result.andThen_ok]
   rw [i2,Zuv (zs:=z'.cells) (s:=tt.n) i5 hpos,← hcells]
   simp [newRow,run_newObj,World.alloc_eq]
 rw [hrun]
 rfl
end
theorem Ziz (a:Ty) (xs ys:List a.den) (o:Nat):ZbS a ys (.list a) xs o=ys:=by
 show (if h:a=a then h ▸ ys else xs)=ys
 rw [dif_pos rfl]
theorem ZGx {a b:Nat} (h:Nat.blt a b=true):a < b:=Nat.le_of_ble_eq_true h
theorem ZEo {a b:Nat} (h:Nat.blt a b=false):b≤a:=Nat.le_of_not_lt (fun hlt=>by
 have:Nat.blt a b=true:=Nat.ble_eq_true_of_le hlt
 rw [h] at this; cases this)
theorem Zbd.put {W:World}:∀ (t:Ty) {x:t.den} {cs:List Value} {F:List Nat} {o:Nat} {r:ZfD},Zbd W t x cs F→ZbC t x o=some r →
 ∃ (u:Value) (F1 F2:List Nat),cs[o]?=some u∧(∀ z,F.count z=F1.count z + F2.count z)∧Zc3 W (Zbd W r.t) r.t.n r.xs u F1 ∧
   ∀ (W1:World) (u' : Value) (zs:List r.t.den) (F1' : List Nat),(∀ p ∈ F2,W1.heap[p]?=W.heap[p]?)→Zc3 W1 (Zbd W1 r.t) r.t.n zs u' F1' →
     ∃ F' : List Nat,Zbd W1 t (ZbS r.t zs t x o) (cs.set o u') F'∧∀ z,F'.count z=F1'.count z + F2.count z
 | .int _,_,_,_,_,_,_,h=>by cases h
 | .bool,_,_,_,_,_,_,h=>by cases h
 | .str,_,_,_,_,_,_,h=>by cases h
 | .opq,_,_,_,_,_,_,h=>by cases h
 | .list a,xs,cs,F,o,r,⟨v,e,hl⟩,h=>by
  unfold ZbC at h
  cases ho:Nat.beq o 0 with
  | false=>rw [ho] at h; cases h
  | true =>
   rw [ho] at h
   obtain rfl:=Option.some.inj h
   obtain rfl:=Nat.eq_of_beq_eq_true ho
   refine ⟨v,F,[],by rw [e]; rfl,fun z=>by simp,hl,fun W1 u' zs F1' _ h1=>⟨F1',?_,fun z=>by simp⟩⟩
   have hp:ZbS a zs (.list a) xs 0=zs:=Ziz a xs zs 0
   rw [e]
   show Zbd W1 (.list a) (ZbS a zs (.list a) xs 0) [u'] F1'
   rw [hp]
   exact ⟨u',rfl,h1⟩
 | .prod a b,x,cs,F,o,r,⟨c1,c2,F1,F2,h1,h2,e1,e2⟩,h=>by
  unfold ZbC at h
  have hl:=Zbd.len a h1
  cases ho:Nat.blt o a.n with
  | true =>
   rw [ho] at h
   simp only [cond_true] at h
   have hlt:=ZGx ho
   obtain ⟨u,G1,G2,q1,q2,q3,q4⟩:=Zbd.put a h1 h
   refine ⟨u,G1,G2 ++ F2,by rw [e1,List.getElem?_append_left (by omega)]; exact q1,fun z=>by rw [e2,List.count_append,List.count_append,q2 z]; omega,q3,fun W1 u' zs F1' hk h3=>?_⟩
   obtain ⟨F',p1,p2⟩:=q4 W1 u' zs F1' (fun p hp=>hk p (by simp [hp])) h3
   refine ⟨F' ++ F2,⟨c1.set o u',c2,F',F2,?_,Zbd.keep b (x:=(ZbS r.t zs (.prod a b) x o).2) (by unfold ZbS; rw [ho]; exact h2) (fun p hp=>hk p (by simp [hp])),by rw [e1,List.set_append_left _ _ (by omega)],rfl⟩,fun z=>by rw [List.count_append,List.count_append,p2 z]; omega⟩
   unfold ZbS
   rw [ho]
   exact p1
  | false =>
   rw [ho] at h
   simp only [cond_false] at h
   have hge:=ZEo ho
   obtain ⟨u,G1,G2,q1,q2,q3,q4⟩:=Zbd.put b h2 h
   refine ⟨u,G1,F1 ++ G2,by rw [e1,List.getElem?_append_right (by omega),hl]; exact q1,fun z=>by rw [e2,List.count_append,List.count_append,q2 z]; omega,q3,fun W1 u' zs F1' hk h3=>?_⟩
   obtain ⟨F',p1,p2⟩:=q4 W1 u' zs F1' (fun p hp=>hk p (by simp [hp])) h3
   refine ⟨F1 ++ F',⟨c1,c2.set (o - a.n) u',F1,F',Zbd.keep a (x:=(ZbS r.t zs (.prod a b) x o).1) (by unfold ZbS; rw [ho]; exact h1) (fun p hp=>hk p (by simp [hp])),?_,by rw [e1,List.set_append_right _ _ (by omega),hl],rfl⟩,fun z=>by rw [List.count_append,List.count_append,p2 z]; omega⟩
   unfold ZbS
   rw [ho]
   exact p1
theorem ZiA:∀ (t:Ty) {x:t.den} {o:Nat} {r:ZfD} (zs:List r.t.den),ZbC t x o=some r→ZbC t (ZbS r.t zs t x o) o=some ⟨r.t,zs,0⟩
 | .int _,_,_,_,_,h=>by cases h
 | .bool,_,_,_,_,h=>by cases h
 | .str,_,_,_,_,h=>by cases h
 | .opq,_,_,_,_,h=>by cases h
 | .list a,xs,o,r,zs,h=>by
  unfold ZbC at h
  cases ho:Nat.beq o 0 with
  | false=>rw [ho] at h; cases h
  | true =>
   rw [ho] at h
   obtain rfl:=Option.some.inj h
   have hp:ZbS a zs (.list a) xs o=zs:=Ziz a xs zs o
   show ZbC (.list a) (ZbS a zs (.list a) xs o) o=some (⟨a,zs,0⟩:ZfD)
   refine (congrArg (fun (w:List a.den)=>ZbC (.list a) w o) hp).trans ?_
   show (bif Nat.beq o 0 then some (⟨a,zs,0⟩:ZfD) else none)=_
   rw [ho]
   rfl
 | .prod a b,x,o,r,zs,h=>by
  unfold ZbC at h
  unfold ZbS ZbC
  cases ho:Nat.blt o a.n with
  | true=>rw [ho] at h; exact ZiA a zs h
  | false=>rw [ho] at h; exact ZiA b zs h
theorem ZoE:∀ (t:Ty) {x:t.den} {o:Nat} {r:ZfD} (zs ys:List r.t.den),ZbC t x o=some r→ZbS r.t ys t (ZbS r.t zs t x o) o=ZbS r.t ys t x o
 | .int _,_,_,_,_,_,h=>by cases h
 | .bool,_,_,_,_,_,h=>by cases h
 | .str,_,_,_,_,_,h=>by cases h
 | .opq,_,_,_,_,_,h=>by cases h
 | .list a,xs,o,r,zs,ys,h=>by
  unfold ZbC at h
  cases ho:Nat.beq o 0 with
  | false=>rw [ho] at h; cases h
  | true =>
   rw [ho] at h
   obtain rfl:=Option.some.inj h
   have h1:ZbS a ys (.list a) (ZbS a zs (.list a) xs o) o=ys:=Ziz a _ ys o
   have h2:ZbS a ys (.list a) xs o=ys:=Ziz a xs ys o
   exact h1.trans h2.symm
 | .prod a b,x,o,r,zs,ys,h=>by
  unfold ZbC at h
  cases ho:Nat.blt o a.n with
  | true =>
   rw [ho] at h
   have h0:=ZoE a zs ys h
   have e1:∀ (ws:List r.t.den) (y:(Ty.prod a b).den),ZbS r.t ws (.prod a b) y o=((ZbS r.t ws a y.1 o,y.2):a.den × b.den):=fun ws y=>by
    show (bif Nat.blt o a.n then ((ZbS r.t ws a y.1 o,y.2):a.den × b.den) else _)=_
    rw [ho]; rfl
   exact (congrArg (fun w=>ZbS r.t ys (.prod a b) w o) (e1 zs x)).trans ((e1 ys _).trans ((congrArg (fun w=>((w,x.2):a.den × b.den)) h0).trans (e1 ys x).symm))
  | false =>
   rw [ho] at h
   have h0:=ZoE b zs ys h
   have e1:∀ (ws:List r.t.den) (y:(Ty.prod a b).den),ZbS r.t ws (.prod a b) y o=((y.1,ZbS r.t ws b y.2 (o - a.n)):a.den × b.den):=fun ws y=>by
    show (bif Nat.blt o a.n then _ else ((y.1,ZbS r.t ws b y.2 (o - a.n)):a.den × b.den))=_
    rw [ho]; rfl
   exact (congrArg (fun w=>ZbS r.t ys (.prod a b) w o) (e1 zs x)).trans ((e1 ys _).trans ((congrArg (fun w=>((x.1,w):a.den × b.den)) h0).trans (e1 ys x).symm))
theorem ZbA {t:Ty} {xs:List t.den} {k:Nat} {x:t.den} (h:k < xs.length):nth t (xs.set k x) k=x:=by
 unfold nth
 rw [List.getD_eq_getElem?_getD,List.getElem?_set_self h]
 rfl
theorem ZEp {t:Ty} {xs:List t.den} {k o:Nat} {r:ZfD} (hk:k < xs.length) (h:ZbC t (nth t xs k) o=some r) (zs ys:List r.t.den) :
 (xs.set k (ZbS r.t zs t (nth t xs k) o)).set k (ZbS r.t ys t (nth t (xs.set k (ZbS r.t zs t (nth t xs k) o)) k) o)=xs.set k (ZbS r.t ys t (nth t xs k) o):=by
 rw [ZbA hk,ZoE t zs ys h,List.set_set]
theorem Zbt.keep {W W1:World} {t:Ty} {xs:List t.den} {cs:List Value} {G:List Nat} (h:Zbt (Zbd W t) xs cs G) (hk:∀ p ∈ G,W1.heap[p]?=W.heap[p]?):Zbt (Zbd W1 t) xs cs G :=
 h.imp (fun x cs F h hF=>Zbd.keep t h (fun p hp=>hk p (hF p hp)))
theorem ZoF {W:World} {t:Ty} {xs:List t.den} {b cap k o:Nat} {F:List Nat} {r:ZfD} (h:Zc3 W (Zbd W t) t.n xs (.slice (some ⟨b,0,none⟩) xs.length cap) F) (hk:k < xs.length) (hr:ZbC t (nth t xs k) o=some r) :
 ∃ (u:Value) (F1 F2:List Nat),(∀ z,F.count z=F1.count z + F2.count z)∧b ∈ F2∧W.cell? ⟨b,k * t.n + o,none⟩=some u∧Zc3 W (Zbd W r.t) r.t.n r.xs u F1 ∧
   ∀ (W1:World) (u' : Value) (zs:List r.t.den) (F1' : List Nat),(∀ p ∈ F2,p ≠ b→W1.heap[p]?=W.heap[p]?)→b ∉ F1'→F.Nodup→W1.heap[b]?=(W.setCell ⟨b,k * t.n + o,none⟩ u').heap[b]?→Zc3 W1 (Zbd W1 r.t) r.t.n zs u' F1' →
     ∃ F' : List Nat,Zc3 W1 (Zbd W1 t) t.n (xs.set k (ZbS r.t zs t (nth t xs k) o)) (.slice (some ⟨b,0,none⟩) xs.length cap) F'∧∀ z,F'.count z=F1'.count z + F2.count z:=by
 obtain ⟨T,cells,G,w1,w2,w3⟩:=h
 obtain ⟨cur,q1,q2,q3,q4,q5⟩:=ZdD w1
 have hxk:=List.getElem?_eq_getElem hk
 have hnth:nth t xs k=xs[k]:=by unfold nth; rw [List.getD_eq_getElem?_getD,hxk]; rfl
 obtain ⟨c0,c1,c2,G0,G1,G2,s1,s2,s3,s4,s5,s6⟩:=w2.split (fun x cs F h=>Zbd.len t h) k hxk
 rw [← hnth] at s5
 obtain ⟨u,H1,H2,p1,p2,p3,p4⟩:=Zbd.put t s5 hr
 have hc1:=Zbd.len t s5
 have ho:=(List.getElem?_eq_some_iff.1 p1).1
 have hcells:cells.length=xs.length * t.n:=w2.len (fun x cs F h=>Zbd.len t h)
 have hw3:F=b :: G:=by rw [w3]; rfl
 have hcb:cells[k * t.n + o]?=some u:=by
  rw [s1,List.append_assoc,List.getElem?_append_right (by omega),s3,Nat.add_sub_cancel_left,List.getElem?_append_left ho]
  exact p1
 have hcell:=ZfC (W:=W) (b:=b) (m:=xs.length * t.n) q1 (k * t.n + o) u (by rw [q2]; exact hcb)
 rw [Nat.zero_add] at hcell
 refine ⟨u,H1,b :: (G0 ++ H2 ++ G2),fun z=>?_,List.mem_cons_self,hcell.1,p3,fun W1 u' zs F1' hkeep hb1 hnd hb hol=>?_⟩
 ·rw [hw3,s2,List.count_cons,List.count_cons,List.count_append,List.count_append,List.count_append,List.count_append,p2 z]
  omega
 ·have hbG:b ∉ G:=by rw [hw3,List.nodup_cons] at hnd; exact hnd.1
  have hin:∀ p,p ∈ G0∨p ∈ H2∨p ∈ G2→W1.heap[p]?=W.heap[p]?:=fun p hp=>by
   refine hkeep p (by simp only [List.mem_cons,List.mem_append]; rcases hp with h | h | h <;> simp [h]) (fun e=>hbG ?_)
   subst e
   rw [s2]
   rcases hp with h | h | h
   ·simp [h]
   ·have h1:=List.count_pos_iff.2 h
    have h2:=p2 p
    have:p ∈ G1:=List.count_pos_iff.1 (by omega)
    simp [this]
   ·simp [h]
  obtain ⟨Fe,r1,r2⟩:=p4 W1 u' zs F1' (fun p hp=>hin p (.inr (.inl hp))) hol
  have hrows:Zbt (Zbd W1 t) (xs.set k (ZbS r.t zs t (nth t xs k) o)) (c0 ++ c1.set o u' ++ c2) (G0 ++ Fe ++ G2):=by
   rw [List.set_eq_take_append_cons_drop,if_pos hk]
   have h1:Zbt (Zbd W1 t) (ZbS r.t zs t (nth t xs k) o :: xs.drop (k + 1)) (c1.set o u' ++ c2) (Fe ++ G2):=⟨_,_,_,_,r1,s6.keep (fun p hp=>hin p (.inr (.inr hp))),rfl,rfl⟩
   have:=(s4.keep (W1:=W1) (fun p hp=>hin p (.inl hp))).app h1
   simpa only [List.append_assoc] using this
  refine ⟨b :: (G0 ++ Fe ++ G2),⟨T,_,G0 ++ Fe ++ G2,⟨?_, .inr ⟨b,cap,cur.setIfInBounds (k * t.n + o) u',by rw [List.length_set],Nat.zero_le _,?_,by rw [List.length_set]; exact q3,q4,by simpa using q5,?_⟩⟩,hrows,rfl⟩,fun z=>?_⟩
  ·rw [hrows.len (fun x cs F h=>Zbd.len t h)]
  ·rw [hb]
   unfold World.setCell
   simp [Array.getElem?_modify,q1]
  ·rw [List.length_set,Array.toList_setIfInBounds,List.take_set,q2,s1,List.append_assoc,List.set_append_right _ _ (by omega),s3,Nat.add_sub_cancel_left,List.set_append_left _ _ ho,List.append_assoc]
  ·rw [List.count_cons,List.count_cons,List.count_append,List.count_append,List.count_append,List.count_append,r2 z]
   omega
section
variable {P:Program} {X:List Nat} {W:World} {E:Env} {M:Mem} {a:Act} {tm:List AV} {o:Oper}
theorem ZlL {W:World} {b o:Nat} {u:Value} (h:W.cell? ⟨b,o,none⟩=some u):(W.setCell ⟨b,o,none⟩ u).heap[b]?=W.heap[b]?:=by
 unfold World.setCell World.cell? at *
 simp only [Array.getElem?_modify,if_true]
 cases hb:W.heap[b]? with
 | none=>rfl
 | some ob =>
  rw [hb] at h
  cases ob with
  | cells c T fr =>
   have h:c[o]?=some u:=by simpa using h
   have:c.setIfInBounds o u=c:=by
    obtain ⟨h1,h2⟩:=Array.getElem?_eq_some_iff.1 h
    apply Array.ext (by simp)
    intro i hi hi'
    rw [Array.getElem_setIfInBounds]
    split
    ·rename_i e; subst e; exact h2.symm
    ·rfl
   simp [this]
  | _=>rfl
theorem Zhc {W:World} {p:Addr} {u v:Value} {q:Nat}:((W.setCell p u).setCell p v).heap[q]?=(W.setCell p v).heap[q]?:=by
 unfold World.setCell
 simp only [Array.getElem?_modify]
 by_cases h:p.block=q
 ·subst h
  simp only [if_true]
  cases hb:W.heap[p.block]? with
  | none=>rfl
  | some ob =>
   cases ob with
   | cells c T fr=>cases p.spot <;> simp
   | _=>rfl
 ·simp [h]
theorem ZEq (W:World) (t:Ty):Zc3 W (Zbd W t) t.n [] (.slice none 0 0) []:=⟨0,[],[],World.ownsRow_nil W 0 0 t.n,⟨rfl,rfl⟩,rfl⟩
theorem ZBQ {M' : Mem} {i v c n k o:Nat} (h:Ztt M i v c n k o=some M'):∃ (t:Ty) (xs:List t.den) (r:ZfD),M[i]?=some (.row t xs v c none)∧n=t.n∧ZbC t (nth t xs k) o=some r∧Zb7 M i v c n k o=some r ∧
 M'=(M.set i (.row t xs v (c + 1) (some (k,o,M.length)))) ++ [.row r.t r.xs 0 0 none]:=by
 unfold Ztt at h
 split at h
 ·rename_i t xs cv cc hM
  cases hb:(Nat.beq v cv && Nat.beq c cc) && Nat.beq n t.n with
  | false=>rw [hb] at h; cases h
  | true =>
   rw [hb] at h
   simp only [cond_true] at h
   cases hl:ZbC t (nth t xs k) o with
   | none=>rw [hl] at h; cases h
   | some r =>
    rw [hl] at h
    obtain rfl:=Option.some.inj h
    have hbb:=hb
    rw [Bool.and_eq_true,Bool.and_eq_true] at hb
    obtain ⟨⟨h1,h2⟩,h3⟩:=hb
    obtain rfl:=Nat.eq_of_beq_eq_true h1
    obtain rfl:=Nat.eq_of_beq_eq_true h2
    refine ⟨t,xs,r,hM,Nat.eq_of_beq_eq_true h3,hl,?_,rfl⟩
    unfold Zb7
    rw [hM]
    simp only [hbb,cond_true]
    exact hl
 ·cases h
theorem ZAb {M' : Mem} {i v c n k o:Nat} {u:Value} (hM:RepM X W E M) (h:Ztt M i v c n k o=some M') (hu:Zlr W E M i v c n k o u) :
 ∃ E',Zbb W E W E'∧ZaK W E M W E' M'∧RepM X W E' M'∧∃ e,E'[M.length]?=some e∧e.val=u∧ZbL E' M' M.length 0 (fun e=>e.val=u):=by
 obtain ⟨t,xs,r,hi,rfl,hl,hrs,rfl⟩:=ZBQ h
 obtain ⟨t2,xs2,e,b,cap,F0,k1,k2,k3,k4,k5,k6,k7,k8,k9⟩:=ZFZ hM hrs hu
 rw [hi] at k1
 injection k1 with k1
 injection k1 with k1 kx _ _ _
 subst k1
 obtain rfl:=eq_of_heq kx
 have hil:=(List.getElem?_eq_some_iff.1 hi).1
 have hilE:i < E.length:=by rw [← hM.len]; exact hil
 have hol:Zc3 W (Zbd W t) t.n xs e.val e.foot:=hM.at_ i _ e hi k2
 have hnd:=Zje hM k2
 rw [k6] at hol
 obtain ⟨u2,F1,F2,c1,c2,c3,c4,c5⟩:=ZoF hol k5 hl
 rw [k7] at c3
 obtain rfl:=Option.some.inj c3
 obtain ⟨F',d1,d2⟩:=c5 (W.setCell ⟨b,k * t.n + o,none⟩ (.slice none 0 0)) (.slice none 0 0) [] [] (fun p _ hp=>Below.heap_setCell W _ _ p (fun e=>hp e)) (by simp) hnd rfl (ZEq _ _)
 obtain ⟨e1,he1⟩:∃ e1:EB,e1=⟨e.blk,e.val,F'⟩:=⟨_,rfl⟩
 obtain ⟨e2,he2⟩:∃ e2:EB,e2=⟨0,u,F1⟩:=⟨_,rfl⟩
 have inE:∀ q ∈ foots (E.set i e1 ++ [e2]),q ∈ foots E:=fun q hq=>by
  rw [ZaV,List.mem_append] at hq
  have sub:q ∈ e.foot→q ∈ foots E:=fun h=>Zaw.2 ⟨e,List.mem_of_getElem? k2,h⟩
  rcases hq with hq | hq
  ·obtain ⟨e',h1,h2⟩:=Zaw.1 hq
   rcases List.mem_or_eq_of_mem_set h1 with h1 | rfl
   ·exact Zaw.2 ⟨e',h1,h2⟩
   ·rw [he1] at h2
    have h3:=List.count_pos_iff.2 (show q ∈ F' from h2)
    have h4:=d2 q
    have h5:=c1 q
    exact sub (List.count_pos_iff.1 (by simp at h4; omega))
  ·have hq:q ∈ F1:=by simpa [foots,he2] using hq
   have h3:=List.count_pos_iff.2 hq
   have h5:=c1 q
   exact sub (List.count_pos_iff.1 (by omega))
 have hlen:(E.set i e1).length=M.length:=by rw [List.length_set]; exact hM.len.symm
 have g:Zbb W E W (E.set i e1 ++ [e2]):=⟨rfl,rfl,rfl,Nat.le_refl _,fun _ _ _=>rfl,fun q hq=>.inl (inE q hq),fun j ej hj=>by
  have hjl:j < (E.set i e1).length:=by rw [List.length_set]; exact (List.getElem?_eq_some_iff.1 hj).1
  by_cases hji:i=j
  ·subst hji
   rw [k2] at hj
   obtain rfl:=Option.some.inj hj
   exact ⟨e1,by rw [List.getElem?_append_left hjl,List.getElem?_set_self hilE],by rw [he1]⟩
  ·exact ⟨ej,by rw [List.getElem?_append_left hjl,List.getElem?_set_ne hji]; exact hj,rfl⟩⟩
 have m:ZaK W E M W (E.set i e1 ++ [e2]) (M.set i (.row t xs v (c + 1) (some (k,o,M.length))) ++ [.row r.t r.xs 0 0 none]):=Zez (fun j t' xs' v' c' hh' hj=>by
  have hjl:=(List.getElem?_eq_some_iff.1 hj).1
  rw [List.getElem?_append_left (by rw [List.length_set]; exact hjl)]
  by_cases hji:i=j
  ·subst hji
   rw [hi] at hj
   injection hj with hj
   injection hj with a1 a2 a3 a4 a5
   subst a1
   subst a3
   subst a4
   refine .inr (.inr (.inl ⟨_,_,_,List.getElem?_set_self hil,by omega,fun e' he'=>⟨e1,by rw [List.getElem?_append_left (by rw [List.length_set]; exact hilE),List.getElem?_set_self hilE],?_⟩⟩))
   rw [k2] at he'
   obtain rfl:=Option.some.inj he'
   rw [he1]
  ·rw [List.getElem?_set_ne hji]
   exact .inr (.inr (.inr ⟨hj,fun e' he'=>⟨by rw [List.getElem?_append_left (by rw [List.length_set]; exact (List.getElem?_eq_some_iff.1 he').1),List.getElem?_set_ne hji]; exact he',fun _ _=>rfl⟩⟩))) (fun j hj=>by
  have hjl:=(List.getElem?_eq_some_iff.1 hj).1
  rw [List.getElem?_append_left (by rw [List.length_set]; exact hjl)]
  by_cases hji:i=j
  ·subst hji; rw [hi] at hj; cases hj
  ·rw [List.getElem?_set_ne hji]; exact hj)
 have hEj:(E.set i e1 ++ [e2])[M.length]?=some e2:=by rw [List.getElem?_append_right (by omega),hlen,Nat.sub_self]; rfl
 have hMj:(M.set i (.row t xs v (c + 1) (some (k,o,M.length))) ++ [Blk.row r.t r.xs 0 0 none])[M.length]?=some (.row r.t r.xs 0 0 none):=by
  rw [List.getElem?_append_right (by rw [List.length_set]; exact Nat.le_refl _),List.length_set,Nat.sub_self]
  rfl
 have hat:ZbL (E.set i e1 ++ [e2]) (M.set i (.row t xs v (c + 1) (some (k,o,M.length))) ++ [Blk.row r.t r.xs 0 0 none]) M.length 0 (fun e=>e.val=u):=by
  unfold ZbL
  rw [hMj]
  exact ⟨Nat.le_refl _,fun _=>⟨e2,hEj,by rw [he2]⟩⟩
 refine ⟨_,g,m,Ze0 hM g m (by rw [List.length_append,List.length_append,List.length_set,hlen]; rfl) (ZbO fun z=>?_) (fun j b' e' hb' he'=>?_) (fun q hq=>hM.lt q (inE q hq)),e2,hEj,by rw [he2],hat⟩
 ·have n1:=ZhX (e':=e1) z k2
  have n2:=ZhY hM z
  have n3:e1.foot.count z=F'.count z:=by rw [he1]
  have n4:(foots [e2]).count z=F1.count z:=by simp [foots,he2]
  have n5:=d2 z
  have n6:=c1 z
  rw [ZaV,List.count_append]
  simp at n5
  omega
 ·by_cases hjl:j < M.length
  ·rw [List.getElem?_append_left (by rw [List.length_set]; exact hjl)] at hb'
   rw [List.getElem?_append_left (by omega)] at he'
   by_cases hji:i=j
   ·subst hji
    rw [List.getElem?_set_self hil] at hb'
    rw [List.getElem?_set_self hilE] at he'
    obtain rfl:=Option.some.inj hb'
    obtain rfl:=Option.some.inj he'
    refine .inr ⟨b,xs.length,cap,r,by rw [he1]; exact k6,k5,hl,?_,?_⟩
    ·rw [he1]
     simp only
     rw [k6]
     exact d1
    ·refine ZbL.imp hat (fun e' he'=>?_)
     rw [he']
     exact k7
   ·rw [List.getElem?_set_ne hji] at hb' he'
    exact .inl ⟨hb',he',fun _ _=>rfl⟩
  ·have hjl' : j=M.length:=by
    have:=(List.getElem?_eq_some_iff.1 hb').1
    rw [List.length_append,List.length_set] at this
    simp at this
    omega
   subst hjl'
   rw [hMj] at hb'
   rw [hEj] at he'
   obtain rfl:=Option.some.inj hb'
   obtain rfl:=Option.some.inj he'
   refine .inr ?_
   rw [he2]
   exact c4
theorem closeM_cases (M:Mem) (i:Nat):Zqs M i=M∨∃ (t:Ty) (xs:List t.den) (v c k o j:Nat) (r:ZfD) (ys:List r.t.den) (c' : Nat),M[i]?=some (.row t xs v c (some (k,o,j)))∧M[j]?=some (.row r.t ys 0 c' none)∧j ≠ i∧ZbC t (nth t xs k) o=some r ∧
 Zqs M i=(ZbU M [j]).set i (.row t (xs.set k (ZbS r.t ys t (nth t xs k) o)) v (c + 1) none):=by
 unfold Zqs
 split
 ·rename_i t xs v c k o j hi
  split
  ·rename_i a' ys w c' hj
   split
   ·rename_i r hl
    cases hb:(Nat.beq w 0 && !Nat.beq j i) && decide (r.t=a') with
    | false=>exact .inl rfl
    | true =>
     simp only [Bool.and_eq_true,decide_eq_true_eq] at hb
     obtain ⟨⟨h1,h2⟩,h3⟩:=hb
     obtain rfl:=Nat.eq_of_beq_eq_true h1
     subst h3
     refine .inr ⟨t,xs,v,c,k,o,j,r,ys,c',hi,hj,fun e=>?_,hl,rfl⟩
     subst e
     simp at h2
   ·exact .inl rfl
  ·exact .inl rfl
 ·exact .inl rfl
theorem ZEr (hM:RepM X W E M) (i:Nat):∃ E',Zbb W E W E'∧ZaK W E M W E' (Zqs M i)∧RepM X W E' (Zqs M i):=by
 rcases closeM_cases M i with h | ⟨t,xs,v,c,k,o,j,r,ys,c',hi,hj,hji,hl,hc⟩
 ·rw [h]; exact ⟨E,Zbb.refl W E,ZaK.refl W E M,hM⟩
 ·rw [hc]
  have hiE:i < E.length:=by rw [← hM.len]; exact (List.getElem?_eq_some_iff.1 hi).1
  have hjE:j < E.length:=by rw [← hM.len]; exact (List.getElem?_eq_some_iff.1 hj).1
  obtain ⟨e,he⟩:∃ e,E[i]?=some e:=⟨_,List.getElem?_eq_getElem hiE⟩
  obtain ⟨ej,hej⟩:∃ e,E[j]?=some e:=⟨_,List.getElem?_eq_getElem hjE⟩
  obtain ⟨b,l,cap,r0,h1,h2,h3,h4,h5⟩:=hM.at_ i _ e hi he
  rw [hl] at h3
  obtain rfl:=Option.some.inj h3
  have hoj:Zc3 W (Zbd W r.t) r.t.n ys ej.val ej.foot:=hM.at_ j _ ej hj hej
  unfold ZbL at h5
  rw [hj] at h5
  obtain ⟨ej',q1,q2⟩:=h5.2 rfl
  rw [hej] at q1
  obtain rfl:=Option.some.inj q1
  have hll:l=xs.length:=by
   rw [h1] at h4
   exact ZvT
  subst hll
  have hset:=ZEp h2 hl [] ys
  obtain ⟨ys0,hys0⟩:∃ ys0,ys0=xs.set k (ZbS r.t [] t (nth t xs k) o):=⟨_,rfl⟩
  have hyl:ys0.length=xs.length:=by rw [hys0,List.length_set]
  have hl0:ZbC t (nth t ys0 k) o=some ⟨r.t,[],0⟩:=by rw [hys0,ZbA h2]; exact ZiA t [] hl
  rw [← hys0] at h4 hset
  have hnd:=Zje hM he
  have hbf:b ∈ e.foot:=by
   exact Zv1
  rw [h1,← hyl] at h4
  obtain ⟨u2,F1,F2,c1,c2,c3,c4,c5⟩:=ZoF h4 (by rw [hyl]; exact h2) hl0
  obtain ⟨F',d1,d2⟩:=c5 W ej.val ys ej.foot (fun p _ hp=>(Below.heap_setCell W _ _ p (fun e=>hp e)).symm) (fun hb=>ZcD hM.nodup he hej (fun e=>hji e.symm) hbf hb) hnd (by
   rw [Zhc,ZlL q2]) hoj
  rw [hyl,← h1] at d1
  rw [show ys0.set k (ZbS r.t ys t (nth t ys0 k) o)=_ from hset] at d1
  obtain ⟨E',g,m,rm⟩:=ZhZ (W':=W) (js:=[j]) (ys:=xs.set k (ZbS r.t ys t (nth t xs k) o)) (F2:=F') (h1:=none) hM hi he rfl (fun q hq=>by obtain rfl:=List.mem_singleton.1 hq; exact ⟨_,_,_,_,hj⟩) (fun q hq=>by obtain rfl:=List.mem_singleton.1 hq; exact hji) (fun q hq=>by
   rw [h1] at hq
   simp [Value.ownBlock] at hq
   rw [hq]
   exact hbf) ⟨rfl,rfl,rfl,Nat.le_refl _,fun _ _ _=>rfl⟩ (fun _ _ _ _=>d1) (fun z=>by
   have e1:=d2 z
   have e2:=c1 z
   have e3:feet E [j]=ej.foot:=by simp [feet,hej]
   rw [e3]
   omega)
  exact ⟨E',g,m,rm⟩
theorem Zra:∀ (l:List Nat) {M:Mem} {E:Env},RepM X W E M→∃ E',Zbb W E W E'∧ZaK W E M W E' (ZzA M l)∧RepM X W E' (ZzA M l)
 | [],M,E,hM=>⟨E,Zbb.refl W E,ZaK.refl W E M,hM⟩
 | i :: l,M,E,hM=>by
  obtain ⟨E1,g1,m1,r1⟩:=ZEr hM i
  obtain ⟨E2,g2,m2,r2⟩:=Zra l r1
  exact Zh8
theorem Zuw (hM:RepM X W E M):∃ E',Zbb W E W E'∧ZaK W E M W E' (ZmO M)∧RepM X W E' (ZmO M):=Zra _ hM
theorem ZyL {t:TypeId} {i v n k q:Nat} {l' : List AC} (h:(ZlZ P M t i v n k q l').need):∃ (tt:Ty) (xs:List tt.den) (cc j0:Nat) (r:ZfD) (ys:List r.t.den) (js:List Nat),M[i]?=some (.row tt xs v cc (some (k,q,j0)))∧n=tt.n∧l'.length=1∧Zbg P t=1 ∧
 ZbC tt (nth tt xs k) q=some r∧ZbD M (.list r.t) l'=some (ys,js)∧ZaW js=true∧(∀ j ∈ js,j ≠ i)∧(ZlZ P M t i v n k q l').val=.any∧(ZlZ P M t i v n k q l').mem=(ZbU M js).set i (.row tt (xs.set k (ZbS r.t ys tt (nth tt xs k) q)) v (cc + 1) none):=by
 unfold ZlZ at h ⊢
 split at h
 ·rename_i tt xs cv cc k0 o0 j0 hM
  cases hc:(Nat.beq v cv && Nat.beq n tt.n) && (Nat.beq q o0 && (Nat.beq l'.length 1 && Nat.beq (Zbg P t) 1)) with
  | false=>rw [hc] at h; exact h.elim
  | true =>
   rw [hc] at h
   simp only [cond_true] at h ⊢
   simp only [Bool.and_eq_true] at hc
   obtain ⟨⟨c1,c2⟩,c3,c4,c5⟩:=hc
   obtain rfl:=Nat.eq_of_beq_eq_true c1
   obtain rfl:=Nat.eq_of_beq_eq_true c3
   cases hl:ZbC tt (nth tt xs k0) q with
   | none=>rw [hl] at h; exact h.elim
   | some r =>
    simp only [hl] at h ⊢
    cases ho:ZbD M (.list r.t) l' with
    | none=>rw [ho] at h; exact h.elim
    | some p =>
     obtain ⟨ys,js⟩:=p
     simp only [ho] at h ⊢
     cases hd:ZaW js && js.all (fun j=>!Nat.beq j i) with
     | false=>rw [hd] at h; exact h.elim
     | true =>
      rw [hd] at h
      simp only [cond_true] at h ⊢
      subst h
      rw [Bool.and_eq_true] at hd
      exact ⟨tt,xs,cc,j0,r,ys,js,hM,Nat.eq_of_beq_eq_true c2,Nat.eq_of_beq_eq_true c4,Nat.eq_of_beq_eq_true c5,hl,ho,hd.1,fun j hj e=>by
       have:=List.all_eq_true.1 hd.2 j hj
       subst e
       simp at this,trivial,rfl⟩
 ·exact h.elim
theorem ZyM {t:TypeId} {x y:Operand} {i v n k q:Nat} {l' : List AC} (hM:RepM X W E M) (ht:Zbv X W E M tm a.tmps.toList) (ho:o.op=.store t x y) (hx:evalA tm x=.w (.c (.rp i v n k q))) (hy:ZgV (evalA tm y)=some l')
 (hn:(ZlZ P M t i v n k q l').need):Zdv X P o a W E M (ZlZ P M t i v n k q l').val (ZlZ P M t i v n k q l').mem:=by
 obtain ⟨tt,xs,cc,j0,r,ys,js,hi,rfl,hl1,hs1,hl,hown,hd,hji,e1,e2⟩:=ZyL hn
 rw [e1,e2]
 have hp:=Zam ht x
 rw [hx] at hp
 have hp:=(hp:Zbo X W E M (.rp i v tt.n k q) _).2
 unfold ZbL at hp
 rw [hi] at hp
 obtain ⟨e,he,b,l,c,hev,hk,hv⟩:=hp.2 rfl
 obtain ⟨b',l2,cap,r0,h1,h2,h3,h4,_⟩:=hM.at_ i _ e hi he
 rw [hl] at h3
 obtain rfl:=Option.some.inj h3
 rw [hev] at h1
 injection h1 with h1 hl2 hcap
 injection h1 with h1
 injection h1 with h1
 subst h1
 subst hl2
 subst hcap
 have hll:l=xs.length:=by
  rw [hev] at h4
  exact ZvT
 subst hll
 have hset:=ZEp hk hl [] ys
 obtain ⟨ys0,hys0⟩:∃ ys0,ys0=xs.set k (ZbS r.t [] tt (nth tt xs k) q):=⟨_,rfl⟩
 have hyl:ys0.length=xs.length:=by rw [hys0,List.length_set]
 have hl0:ZbC tt (nth tt ys0 k) q=some ⟨r.t,[],0⟩:=by rw [hys0,ZbA hk]; exact ZiA tt [] hl
 rw [← hys0] at h4 hset
 have hnd:=Zje hM he
 have hbf:b ∈ e.foot:=by
  obtain ⟨T,cells,G,_,_,h6⟩:=h4
  rw [h6,hev]
  simp [Value.ownBlock]
 have hmem:b ∈ foots E:=Zaw.2 ⟨e,List.mem_of_getElem? he,hbf⟩
 rw [hev,← hyl] at h4
 obtain ⟨T,cells,G,w1,w2,w3⟩:=h4
 obtain ⟨cur1,q1,q2,q3,q4,q5⟩:=ZdD w1
 obtain ⟨cur,hcur,hc1⟩:∃ cur,W.heap[b]?=some (.cells cur T (0,0))∧cur1=cur.setIfInBounds (k * tt.n + q) (.slice none 0 0):=by
  unfold World.setCell at q1
  simp only [Array.getElem?_modify,if_true] at q1
  cases hb:W.heap[b]? with
  | none=>rw [hb] at q1; cases q1
  | some ob =>
   rw [hb] at q1
   cases ob with
   | cells c0 T0 fr =>
    have q1:=Option.some.inj q1
    injection q1 with z1 z2 z3
    subst z2
    subst z3
    exact ⟨c0,rfl,by rw [← z1]; rfl⟩
   | _=>cases q1
 have h4:Zc3 (W.setCell ⟨b,k * tt.n + q,none⟩ (.slice none 0 0)) (Zbd (W.setCell ⟨b,k * tt.n + q,none⟩ (.slice none 0 0)) tt) tt.n ys0 (.slice (some ⟨b,0,none⟩) ys0.length c) e.foot:=⟨T,cells,G,w1,w2,w3⟩
 obtain ⟨u2,F1,F2,c1,c2,c3,c4,c5⟩:=ZoF h4 (by rw [hyl]; exact hk) hl0
 have hy':=Zea (Zam ht y) hy
 obtain ⟨w,hw⟩:∃ w,(a.eval y).cells.toList=[w]:=by
  have:=hy'.len
  rw [hl1] at this
  exact List.length_eq_one_iff.1 this
 have hoff:k * tt.n + q < cur.size:=by
  have hcell:=c3
  unfold World.cell? at hcell
  rw [q1] at hcell
  have hcell:cur1[k * tt.n + q]?=some u2:=by simpa using hcell
  have:=(Array.getElem?_eq_some_iff.1 hcell).1
  rw [hc1] at this
  simpa using this
 have hrep:Zbd W (.list r.t) ys [w] (feet E js)∧∀ j ∈ js,∃ t xs v c,M[j]?=some (.row t xs v c none):=by
  unfold ZbD at hown
  split at hown
  ·rename_i y' js' ho'
   obtain ⟨rfl,rfl⟩:=Prod.mk.inj (Option.some.inj hown)
   obtain ⟨c1',u1,ee,z1,z2,z3⟩:=ZgP hM (.list r.t) ho' hy'
   obtain rfl:u1=[]:=z2
   rw [List.append_nil,hw] at ee
   rw [ee]
   exact ⟨z1,z3⟩
  ·cases hown
 obtain ⟨⟨w',hww,holw⟩,hjs⟩:=hrep
 obtain rfl:w=w':=by simpa using hww
 obtain ⟨inf,hinf⟩:∃ i,P.info? t=some i:=by
  unfold Zbg at hs1
  cases hq:P.info? t with
  | none=>rw [hq] at hs1; cases hs1
  | some i=>exact ⟨i,rfl⟩
 have hsz:inf.size=1:=by unfold Zbg at hs1; rw [hinf] at hs1; exact hs1
 have hst:=run_storeCells_at (P:=P) b (k * tt.n + q) T (a.eval y).cells.toList 0 cur W hcur (by rw [hw]; simp; omega) (fun v hv=>List.all_eq_true.1 hy'.all v hv)
 simp only [Nat.add_zero,hw] at hst
 obtain ⟨W',hW'⟩:∃ W',W'=W.setRow b (cur.toList.take (k * tt.n + q) ++ [w] ++ cur.toList.drop (k * tt.n + q + [w].length)).toArray:=⟨_,rfl⟩
 rw [← hW'] at hst
 have keep:∀ p,p ≠ b→W'.heap[p]?=W.heap[p]?:=fun p hp=>by rw [hW']; exact setRow_other W b p _ (fun e=>hp e)
 have hbw:b ∉ feet E js:=fun hb=>by
  obtain ⟨j,hj,e',he',hbe⟩:=ZkC hb
  exact ZcD hM.nodup he' he (hji j hj) hbe hbf
 obtain ⟨F',d1,d2⟩:=c5 W' w ys (feet E js) (fun p _ hp=>(keep p hp).trans (Below.heap_setCell W _ _ p (fun e=>hp e)).symm) hbw hnd (by
  rw [Zhc,hW',setRow_heap W b cur _ T _ hcur]
  unfold World.setCell
  simp only [Array.getElem?_modify,if_true,hcur,Option.map_some,Option.isSome,Bool.false_eq_true,if_false]
  congr 2
  apply Array.toList_inj.1
  rw [List.toList_toArray,Array.toList_setIfInBounds,List.set_eq_take_append_cons_drop,if_pos (by simpa using hoff)]
  simp) (Zc3.keep holw (fun p hp=>keep p (fun e=>hbw (e ▸ hp))))
 rw [hyl,← hev] at d1
 rw [show ys0.set k (ZbS r.t ys tt (nth tt ys0 k) q)=_ from hset] at d1
 obtain ⟨E',g,m,rm⟩:=ZhZ (W':=W') (ys:=xs.set k (ZbS r.t ys tt (nth tt xs k) q)) (F2:=F') (h1:=none) hM hi he hd hjs hji (fun p hp=>by
  rw [hev] at hp
  simp [Value.ownBlock] at hp
  rw [hp]
  exact hbf) ⟨by rw [hW']; rfl,by rw [hW']; rfl,by rw [hW']; rfl,by rw [hW']; simp,fun p _ hne=>keep p (fun e'=>hne (by rw [hev,e']; rfl))⟩ (fun _ _ _ _=>d1) (fun z=>by
  have e1:=d2 z
  have e2:=c1 z
  omega)
 refine ⟨undef,W',E', .inr ⟨?_,rfl⟩,g,m,rm,trivial⟩
 unfold execOp
 simp only [ho,hv,Instr.storeAt,Instr.sureAddr,storeVar,sizeOf,typeInfo,Sem.run_bind,Sem.run_pure,Result.andThen_ok,run_program,hinf,Sem.run_ite]
 have hcs:(a.eval y).cells.size=1:=by
  have:=congrArg List.length hw
  simpa using this
 rw [if_neg (by omega),hw,hst]
 rfl
theorem Zux {c c' : AC} {M' : Mem} {v:Value} (hM:RepM X W E M) (h:ZDp M c=some (c',M')) (hr:Zbo X W E M c v):∃ E',Zbb W E W E'∧ZaK W E M W E' M'∧RepM X W E' M'∧Zbo X W E' M' c' v:=by
 cases c with
 | sl i ver cc n k o =>
  have h:(Ztt M i ver cc n k o).map (fun M'=>(AC.row M.length 0,M'))=some (c',M'):=h
  cases hl:Ztt M i ver cc n k o with
  | none=>rw [hl] at h; cases h
  | some M2 =>
   rw [hl] at h
   obtain ⟨rfl,rfl⟩:=Prod.mk.inj (Option.some.inj h)
   obtain ⟨E',g,m,rm,e,_,_,hat⟩:=ZAb hM hl hr.2
   exact ⟨E',g,m,rm,hr.1,hat.imp (fun e he=>he.symm)⟩
 | _=>cases h
theorem Zuy:∀ {l l' : List AC} {M' : Mem} {vs:List Value},RepM X W E M→ZBj M l=some (l',M')→Zbu X W E M l vs→∃ E',Zbb W E W E'∧ZaK W E M W E' M'∧RepM X W E' M'∧Zbu X W E' M' l' vs
 | [],_,_,_,_,h,_=>by cases h
 | c :: l,l',M',vs,hM,h,⟨v,r,e,h1,h2⟩=>by
  unfold ZBj at h
  cases hc:ZDp M c with
  | some p =>
   obtain ⟨c',M2⟩:=p
   rw [hc] at h
   obtain ⟨rfl,rfl⟩:=Prod.mk.inj (Option.some.inj h)
   obtain ⟨E',g,m,rm,rc⟩:=Zux hM hc h1
   exact ⟨E',g,m,rm,v,r,e,rc,h2.mono g m hM.len⟩
  | none =>
   rw [hc] at h
   simp only at h
   cases hl:ZBj M l with
   | none=>rw [hl] at h; cases h
   | some p =>
    obtain ⟨l2,M2⟩:=p
    rw [hl] at h
    obtain ⟨rfl,rfl⟩:=Prod.mk.inj (Option.some.inj h)
    obtain ⟨E',g,m,rm,rl⟩:=Zuy hM hl h2
    exact ⟨E',g,m,rm,v,r,e,h1.mono g m hM.len,rl⟩
theorem ZEs {x x' : AV} {M' : Mem} {v:Value} (hM:RepM X W E M) (h:liftV M x=some (x',M')) (hr:Zcd X W E M x v):∃ E',Zbb W E W E'∧ZaK W E M W E' M'∧RepM X W E' M'∧Zcd X W E' M' x' v:=by
 unfold liftV at h
 split at h
 ·rename_i i ver cc n k o m y q
  cases hl:Ztt M i ver cc n k o with
  | none=>rw [hl] at h; cases h
  | some M2 =>
   rw [hl] at h
   obtain ⟨rfl,rfl⟩:=Prod.mk.inj (Option.some.inj h)
   obtain ⟨h0,b,l,cap,h1,h2,h3⟩:=(hr:Zbo X W E M (.sp i ver cc n k o m y q) v)
   obtain ⟨E',g,mm,rm,e,_,_,hat⟩:=ZAb hM hl h1
   exact ⟨E',g,mm,rm,h0,hat.imp (fun e he=>⟨b,l,cap,he,h2,h3⟩)⟩
 ·rename_i c _
  cases hc:ZDp M c with
  | none=>rw [hc] at h; cases h
  | some p =>
   obtain ⟨c',M2⟩:=p
   rw [hc] at h
   obtain ⟨rfl,rfl⟩:=Prod.mk.inj (Option.some.inj h)
   obtain ⟨E',g,m,rm,rc⟩:=Zux hM hc hr
   exact ⟨E',g,m,rm,rc⟩
 ·rename_i l
  cases hl:ZBj M l with
  | none=>rw [hl] at h; cases h
  | some p =>
   obtain ⟨l2,M2⟩:=p
   rw [hl] at h
   obtain ⟨rfl,rfl⟩:=Prod.mk.inj (Option.some.inj h)
   obtain ⟨cs,e,hr⟩:=hr
   obtain ⟨E',g,m,rm,rl⟩:=Zuy hM hl hr
   exact ⟨E',g,m,rm,cs,e,rl⟩
 ·cases h
theorem ZoG (hM:RepM X W E M) (ht:Zbv X W E M tm a.tmps.toList) (t:Nat):∃ E',Zbb W E W E'∧ZaK W E M W E' (Zhx tm M t).2∧RepM X W E' (Zhx tm M t).2∧Zbv X W E' (Zhx tm M t).2 (Zhx tm M t).1 a.tmps.toList:=by
 unfold Zhx
 cases hx:tm[t]? with
 | none=>exact ⟨E,Zbb.refl W E,ZaK.refl W E M,hM,ht⟩
 | some x =>
  cases hl:liftV M x with
  | none=>simp only [hl]; exact ⟨E,Zbb.refl W E,ZaK.refl W E M,hM,ht⟩
  | some p =>
   obtain ⟨x',M'⟩:=p
   try simp only [Zz6]
   simp only [hl]
   obtain ⟨v,h1,h2⟩:=ht.get hx
   obtain ⟨E',g,m,rm,rv⟩:=ZEs hM hl h2
   refine ⟨E',g,m,rm,?_⟩
   have:=(ht.mono g m hM.len).set t rv
   have hself:a.tmps.toList.set t v=a.tmps.toList:=by
    obtain ⟨q1,q2⟩:=List.getElem?_eq_some_iff.1 h1
    rw [← q2]
    exact List.set_getElem_self q1
   rwa [hself] at this
end
section
variable {P:Program} {X:List Nat} {W:World} {E:Env} {M:Mem} {a:Act} {tm:List AV} {o:Oper}
theorem ZGy {x:Int} (h:(Lit.int .u8 x).wf=true):((UInt8.ofNat x.toNat).toNat:Int)=x:=by
 rw [Zl0] at h
 have hmm:IntKind.u8.min=0∧IntKind.u8.max=255:=by decide
 rw [hmm.1,hmm.2] at h
 rw [UInt8.toNat_ofNat']
 omega
theorem Zh0 (xs:List Int):(ZbV xs).data.toList=xs.map fun n=>UInt8.ofNat n.toNat:=by simp [ZbV]
theorem ZfT (xs:List Int):(ZbV xs).size=xs.length:=by
 show (xs.map fun n=>UInt8.ofNat n.toNat).toArray.size=_
 simp
theorem ZeA (s:ByteArray):(ZdQ s).length=s.size:=by
 unfold ZdQ
 rw [List.length_map,Array.length_toList]
 rfl
theorem ZJy {e:TypeId} (h:ZJW P e=true):P.underlying e=some (.int .u8):=by
 unfold ZJW at h
 split at h
 ·assumption
 ·cases h
theorem ZBR {xs:List Int} {b off:Nat} {G:List Nat} (h:ZbP (α:=(Ty.int .u8).den) W b off xs G):∀ j (hj:j < (ZbV xs).data.toList.length),W.cell? ((⟨b,off,none⟩:Addr).add j)=some (.int .u8 ((ZbV xs).data.toList[j].toNat:Int)):=fun j hj=>by
 have hj' : j < xs.length:=by rw [Zh0] at hj; simpa using hj
 obtain ⟨cs,Gk,h1,_,h2⟩:=ZbP.get (α:=(Ty.int .u8).den) j xs[j] h (List.getElem?_eq_getElem hj')
 have h1:cs=[.int .u8 xs[j]]∧(Lit.int .u8 xs[j]).wf=true∧Gk=[]:=h1
 have h3:=(h2 0 (.int .u8 xs[j]) (by rw [h1.1]; rfl)).1
 have hn:GoRep.n (Ty.int .u8).den=1:=rfl
 rw [hn,Nat.mul_one,Nat.add_zero] at h3
 have he:(ZbV xs).data.toList[j]=UInt8.ofNat (xs[j]).toNat:=by simp [Zh0]
 rw [ZkD,h3,he,ZGy h1.2.1]
theorem ZGz {r:ZfD} {xs:List Int} (h:ZJa r=some xs):∃ c,r=⟨.int .u8,xs,c⟩:=by
 unfold ZJa at h
 split at h
 ·obtain rfl:=Option.some.inj h
  exact ⟨_,rfl⟩
 ·cases h
theorem ZBS {s d e:TypeId} {x:Operand} {c:AC} {xs:List Int} (hM:RepM X W E M) (ht:Zbv X W E M tm a.tmps.toList) (ho:o.op=.convert s d x) (hd:P.underlying d=some .string) (hs:P.underlying s=some (.slice e)) (hu:ZJW P e=true)
 (hx:evalA tm x=.w (.c c)) (hst:Zyj M c=some xs) (hn:xs.length≤maxLen):Zdv X P o a W E M (.c (.str (ZbV xs))) M:=by
 have hp:=Zam (M:=M) (W:=W) (E:=E) ht x
 rw [hx] at hp
 have hp:Zbo X W E M c (a.eval x):=hp
 have he:=ZJy hu
 refine ZbE hM (convert s d (a.eval x)) (by unfold execOp; rw [ho]) (u:=.string (ZbV xs)) ?_ ⟨rfl,by rw [ZfT]; exact hn⟩
 unfold Zyj at hst
 split at hst
 ·obtain rfl:=Option.some.inj hst
  rw [show a.eval x=.slice none 0 0 from hp.1,run_convert_bytes_string W s d e none 0 0 hs he hd]
  rfl
 ·split at hst
  ·rename_i L r hr
   obtain ⟨cc,rfl⟩:=ZGz hst
   obtain ⟨A,cap,F,hv,hsl,_⟩:=ZgJ hM hr hp
   rw [hv]
   rcases hsl.2.2 with ⟨h0,_⟩ | ⟨hne,b,off,G,rfl,rfl,hrow⟩
   ·have h0:xs=[]:=h0
    subst h0
    rw [run_convert_bytes_string W s d e A _ cap hs he hd]
    cases A with
    | none=>rfl
    | some q=>simp [Conv.bytesToString,loadCells,loadCellsFrom]; rfl
   ·have h:=run_convert_bytes_back (P:=P) W s d e ⟨b,off,none⟩ cap (ZbV xs).data.toList hs he hd (ZBR hrow)
    rw [show (ZbV xs).data.toList.length=xs.length from ZfT xs] at h
    exact h
  ·cases hst
theorem ZEt {N:Mem} {c:AC} {xs:List Int} (hx:∀ q,Zfa M c=some q→Zfa (M ++ N) c=some q) (h:Zyj M c=some xs):Zyj (M ++ N) c=some xs:=by
 unfold Zyj at h ⊢
 split at h
 ·exact h
 ·rename_i c' hc
  split at h
  ·rename_i L r hr
   rw [hx _ hr]
   exact h
  ·cases h
theorem Zmr (w:World) (t u ty e T:TypeId) (i:TypeInfo) (ht:P.underlying t=some (.slice e)) (hu:P.underlying u=some .string) (hi:P.info? e=some i) (hz:i.zero=some (.int .u8 0))
 (hsize:i.size=1) (hby:i.bytes=1)
 (v:Value) (n:Nat) (xs:List Value) (hown:w.ownsRow 0 T 1 v n xs) (s:ByteArray)
 (h63:n + s.size≤maxLen) (hbytes:n + s.size≤140737488355328) :
 ∃ v' w' T',(Builtin.append_ #[t,u] ty #[v, .string s]).run P w=.ok v' w'∧w'.ownsRow 0 T' 1 v' (n + s.size) (xs ++ Lib.strCells s)∧w.grownBy w' v.ownBlock∧(v'.ownBlock=v.ownBlock∨v'.ownBlock=some w.heap.size):=by
 have hsmall:n + s.size≤9223372036854775807:=by simp only [maxLen] at h63; omega
 have hxl:xs.length=n:=by simpa using hown.1
 have hlen:(xs ++ Lib.strCells s).length=(n + s.size) * 1:=by rw [List.length_append,hxl,Lib.strCells_length,Nat.mul_one]
 have grown:∀ (old:Nat),old < n + s.size→∀ (row:Option Nat),
  (w.drew.alloc (.cells (xs.toArray ++ (Lib.strCells s).toArray ++ Builtin.zeroCells (Value.int .u8 0).cells (grownCap w (n + s.size) old e - (n + s.size))) e)).ownsRow 0 e 1
   (.slice (some ⟨w.heap.size,0,none⟩) (n + s.size) (grownCap w (n + s.size) old e)) (n + s.size) (xs ++ Lib.strCells s) ∧
  w.grownBy (w.drew.alloc (.cells (xs.toArray ++ (Lib.strCells s).toArray ++ Builtin.zeroCells (Value.int .u8 0).cells (grownCap w (n + s.size) old e - (n + s.size))) e)) row:=by
  intro old ho row
  have hge:=grownCap_ge w (n + s.size) old e
  have hcm:grownCap w (n + s.size) old e≤maxLen:=grownCap_le_maxLen w (n + s.size) old e h63
  refine ⟨⟨hlen, .inr ⟨w.heap.size,_,_,rfl,Nat.zero_le _,heap_alloc_new w.drew _,hge,hcm,?_,?_⟩⟩,⟨rfl,rfl,rfl,by simp,fun k hk _=>Below.heap_alloc w.drew _ k hk⟩⟩
  ·have hz1:(Value.int IntKind.u8 0).cells.size=1:=rfl
   simp only [Array.size_append,List.size_toArray,size_zeroCells,hz1,hxl,Lib.strCells_length]
   omega
  ·exact ZvD
 rcases hown.2 with ⟨rfl,rfl⟩ | ⟨g,cap,cur,rfl,hbg,hg,hnc,hcm,hcs,htake⟩
 ·obtain ⟨v',w',h1,h2,h3,h4⟩:=Lib.run_append_own_string (P:=P) w 0 t u ty e i ht hu hi hz hsize hby (.slice none 0 0) 0 xs ⟨hown.1, .inl ⟨rfl,rfl⟩⟩ s h63 hbytes (Nat.zero_le _)
  refine ⟨v',w',e,h1,h2,h3,?_⟩
  by_cases hm:s.size=0
  ·left
   rw [h4.2 ⟨rfl,hm⟩]
  ·right
   have hr:=run_append_nil_string (P:=P) w t u ty e i (.int .u8 0) ht hu hi hz s (by omega) (by omega) (by rw [hby]; omega)
   have:=hr.symm.trans h1
   injection this with q5 q6
   rw [← q5]
   rfl
 ·by_cases hroom:n + s.size≤cap
  ·have hcs' : cur.size=cap:=by simpa using hcs
   have hf:=Lib.run_firstCells_string (P:=P) w 1 s
   have hst:=run_storeCells_at P g n T (Lib.strCells s) 0 cur w hg (by rw [Lib.strCells_length]; omega) (Lib.strCells_oneCell s)
   simp only [Nat.add_zero,Lib.strCells_length] at hst
   have hr:(Builtin.append_ #[t,u] ty #[.slice (some ⟨g,0,none⟩) n cap, .string s]).run P w =
    .ok (.slice (some ⟨g,0,none⟩) (n + s.size) cap) (w.setRow g (cur.toList.take n ++ Lib.strCells s ++ cur.toList.drop (n + s.size)).toArray):=by
    simp [Builtin.append_,run_underlying ht,run_underlying hu,sizeOf,typeInfo,hi,hsize,Builtin.lenOf,hroom,hf,Addr.add_lit,hst]
   refine ⟨_,_,T,hr,⟨hlen, .inr ⟨g,cap,_,rfl,hbg,setRow_heap w g cur _ T _ hg,hroom,hcm,?_,?_⟩⟩,⟨rfl,rfl,rfl,by simp,fun k _ hk=>setRow_other w g k _ (fun e=>hk (by simp [Value.ownBlock,e]))⟩, .inl rfl⟩
   ·simp only [List.size_toArray,List.length_append,List.length_take,List.length_drop,Array.length_toList,Lib.strCells_length]
    omega
   ·have ht' : cur.toList.take n=xs:=by simpa using htake
    rw [ht',← hlen]
    exact List.take_left
  ·have holds:∀ j u,xs[j]?=some u→w.cell? ((⟨g,0,none⟩:Addr).add j)=some u:=hown.cells (g:=g) rfl
   have hr:=Lib.run_append_grow_string (P:=P) w t u ty e i (.int .u8 0) ht hu hi hz ⟨g,0,none⟩ n cap xs (by rw [hsize]; simpa using hxl) holds s (by omega) (by omega) (by rw [hby]; exact growslice_fits (by omega) (by omega))
   have hgr:=grown cap (by omega) (Value.ownBlock (.slice (some ⟨g,0,none⟩) n cap))
   exact ⟨_,_,e,hr,hgr.1,hgr.2, .inr rfl⟩
theorem ZoH {e:TypeId} (h:Zqt P e=true):∃ i,P.info? e=some i∧i.size=1∧i.bytes=1∧i.zero=some (.int .u8 0):=by
 unfold Zqt at h
 split at h
 ·rename_i i hi
  rw [Bool.and_eq_true,Bool.and_eq_true] at h
  refine ⟨i,hi,Nat.eq_of_beq_eq_true h.1.1,Nat.eq_of_beq_eq_true h.1.2,?_⟩
  have h2:=h.2
  split at h2
  ·rename_i n hz
   rw [hz,of_decide_eq_true h2]
  ·cases h2
 ·cases h
theorem ZkE (W:World) (s:ByteArray):Zbt (Zbd W (.int .u8)) (ZdQ s) (Lib.strCells s) []:=by
 have:∀ (l:List UInt8),Zbt (Zbd W (.int .u8)) (l.map fun b=>((b.toNat:Nat):Int)) (l.map fun b=>Value.int .u8 b.toNat) []:=by
  intro l
  induction l with
  | nil=>exact ⟨rfl,rfl⟩
  | cons b l ih =>
   refine ⟨[_],_,[],[],⟨rfl,?_,rfl⟩,ih,rfl,rfl⟩
   rw [Zl0]
   have hmm:IntKind.u8.min=0∧IntKind.u8.max=255:=by decide
   rw [hmm.1,hmm.2]
   have:=b.toNat_lt
   show (0:Int)≤((b.toNat:Nat):Int)∧((b.toNat:Nat):Int)≤255
   omega
 exact this s.data.toList
theorem Zms {x y:Operand} {t t2:TypeId} {xs:Array Operand} {ts:Array TypeId} {v:Value} {w' : World} (ho:o.op=.call ⟨.builtin .append,xs,ts⟩) (hxs:xs.toList=[x,y]) (hts:ts.toList=[t,t2])
 (h:(Builtin.append_ #[t,t2] o.type #[a.eval x,a.eval y]).run P W=.ok v w'):(execOp a.eval o).run P W=.ok (.value v) w':=by
 obtain ⟨xs⟩:=xs
 obtain ⟨ts⟩:=ts
 simp only at hxs hts
 subst hxs
 subst hts
 exact Zvm
theorem Zuz {x y:Operand} {t t2 e:TypeId} {xs:Array Operand} {ts:Array TypeId} {s:ByteArray} (hM:RepM X W E M) (ht:Zbv X W E M tm a.tmps.toList) (ho:o.op=.call ⟨.builtin .append,xs,ts⟩) (hxs:xs.toList=[x,y]) (hts:ts.toList=[t,t2])
 (hu:P.underlying t=some (.slice e)) (hu2:P.underlying t2=some .string) (hy:evalA tm y=.w (.c (.str s))) (hn:(ZnO P M e (evalA tm x) s).need):Zdv X P o a W E M (ZnO P M e (evalA tm x) s).val (ZnO P M e (evalA tm x) s).mem:=by
 have hx:=Zam (M:=M) (W:=W) (E:=E) ht x
 have hy':=Zam (M:=M) (W:=W) (E:=E) ht y
 rw [hy] at hy'
 have hys:=(Zqv hy').1
 generalize evalA tm x=x' at *
 have hbs:(ZdQ s).length=s.size:=ZeA s
 unfold ZnO at hn ⊢
 split at hn
 ·rename_i i v
  split at hn
  ·rename_i l cv cc hMi
   cases hb:Nat.beq v cv && Zqt P e with
   | false=>rw [hb] at hn; exact hn.elim
   | true =>
    rw [hb] at hn
    simp only [hb,cond_true] at hn ⊢
    rw [Bool.and_eq_true] at hb
    obtain rfl:=Nat.eq_of_beq_eq_true hb.1
    obtain ⟨inf,i1,i2,i3,i4⟩:=ZoH hb.2
    have hra:Zcn M i v=some ⟨.int .u8,l,cc⟩:=by unfold Zcn; rw [hMi]; simp only [hb.1,cond_true]
    obtain ⟨e0,he0,hv0,T0,cells,G,w1,w2,w3⟩:=Zga hM hra (hx:Zbo X W E M (.row i v) _).2
    simp only at w1 w2 w3
    have hn:List.length (α:=Int) l + (ZdQ s).length≤rowMax:=hn
    obtain ⟨b1,b2⟩:=Zgu (b:=1) hn (by omega)
    have w1' : W.ownsRow 0 T0 1 e0.val (List.length (α:=Int) l) cells:=w1
    obtain ⟨v',w',T',r1,r2,r3,r4⟩:=Zmr (P:=P) W t t2 o.type e T0 inf hu hu2 i1 i4 i2 i3 e0.val _ cells w1' s (by omega) (by omega)
    rw [← hbs] at r2
    obtain ⟨E',g,m,rm,rc⟩:=ZAa (t:=.int .u8) (js:=[]) (own:=[]) (G2:=[]) (ys:=ZdQ s) hM hMi he0 rfl (by simp) (by simp) w1 w2 w3 r3 r2 (ZkE W s) (by simp [feet]) r4
    exact ⟨v',w',E', .inl (Zms ho hxs hts (by rw [hv0,hys]; exact r1)),g,m,rm,rc⟩
  ·exact hn.elim
 ·cases hty:Zqt P e with
  | false=>rw [hty] at hn; exact hn.elim
  | true =>
   rw [hty] at hn
   simp only [hty,cond_true] at hn ⊢
   obtain ⟨inf,i1,i2,i3,i4⟩:=ZoH hty
   have hn:(ZdQ s).length≤rowMax:=hn
   obtain ⟨b1,b2⟩:=Zgu (b:=1) hn (by omega)
   have hx' : a.eval x=.slice none 0 0:=(hx:Zbo X W E M (.raw _) _).1
   obtain ⟨v',w',T',r1,r2,r3,r4⟩:=Zmr (P:=P) W t t2 o.type e 0 inf hu hu2 i1 i4 i2 i3 (.slice none 0 0) 0 [] (World.ownsRow_nil W 0 0 1) s (by omega) (by omega)
   rw [Nat.zero_add,List.nil_append,← hbs] at r2
   obtain ⟨E',g,m,rm,rc⟩:=ZgQ (js:=[]) (own:=[]) (G:=[]) (t:=.int .u8) (ys:=ZdQ s) hM rfl (by simp) r3 r2 (ZkE w' s) (by simp [feet]) r4
   exact ⟨v',w',E', .inl (Zms ho hxs hts (by rw [hx',hys]; exact r1)),g,m,rm,rc⟩
 ·exact hn.elim
theorem ZuA {i:Nat} {t0:Ty} {xs0:List t0.den} {v0 c0:Nat} {e:EB} {t:Ty} {ys:List t.den} {v:Value} {T:TypeId} {cells:List Value} {G:List Nat} (hM:RepM X W E M) (hi:M[i]?=some (.row t0 xs0 v0 c0 none)) (he:E[i]?=some e)
 (ho:W.ownsRow 0 T t.n v ys.length cells) (hr:Zbt (Zbd W t) ys cells G) (hf:∀ z,(v.ownBlock.toList ++ G).count z≤e.foot.count z) :
 ∃ E',Zbb W E W E'∧ZaK W E M W E' (ZbU M [i] ++ [.row t ys 0 0 none])∧RepM X W E' (ZbU M [i] ++ [.row t ys 0 0 none])∧Zbo X W E' (ZbU M [i] ++ [.row t ys 0 0 none]) (.row M.length 0) v:=by
 have hj:∀ j ∈ [i],∃ t xs v c,M[j]?=some (.row t xs v c none):=fun j hj=>by
  obtain rfl:=List.mem_singleton.1 hj
  exact ⟨_,_,_,_,hi⟩
 have hjl:=ZEm hM hj
 have hkl:=Zfs [i] E
 have hml:=Zft [i] M
 have hfe:feet E [i]=e.foot:=by simp [feet,he]
 have hin:∀ b ∈ v.ownBlock.toList ++ G,b ∈ foots E:=fun b hb=>Zaw.2 ⟨e,List.mem_of_getElem? he,List.count_pos_iff.1 (Nat.lt_of_lt_of_le (List.count_pos_iff.2 hb) (hf b))⟩
 have g:Zbb W E W (killE E [i] ++ [⟨0,v,v.ownBlock.toList ++ G⟩]) :=
  ⟨rfl,rfl,rfl,Nat.le_refl _,fun _ _ _=>rfl,fun b hb=>by
   rw [ZaV,List.mem_append] at hb
   rcases hb with hb | hb
   ·exact .inl (ZfS rfl hjl hb)
   ·exact .inl (hin b (by simpa [foots] using hb)),fun q e1 hq=>by
   obtain ⟨e',h1,h2⟩:=Zey (js:=[i]) hq
   exact ⟨e',by rw [List.getElem?_append_left (List.getElem?_eq_some_iff.1 h1).1]; exact h1,h2⟩⟩
 have m:ZaK W E M W (killE E [i] ++ [⟨0,v,v.ownBlock.toList ++ G⟩]) (ZbU M [i] ++ [.row t ys 0 0 none]):=Zez (fun q t' xs' v' c' hh' hq=>by
  have hql:=(List.getElem?_eq_some_iff.1 hq).1
  rw [List.getElem?_append_left (by rw [hml]; exact hql)]
  by_cases hqj:q ∈ [i]
  ·exact .inl (Zbq hqj hql)
  ·refine .inr (.inr (.inr ⟨by rw [Za2 (fun k hk e=>hqj (by rw [← e]; exact hk))]; exact hq,fun e1 he1=>⟨?_,fun _ _=>rfl⟩⟩))
   rw [List.getElem?_append_left (by rw [hkl,← hM.len]; exact hql),Zbh (fun k hk e=>hqj (by rw [← e]; exact hk))]
   exact he1) (fun q hq=>by
  have hql:=(List.getElem?_eq_some_iff.1 hq).1
  rw [List.getElem?_append_left (by rw [hml]; exact hql)]
  by_cases hqj:q ∈ [i]
  ·exact Zbq hqj hql
  ·rw [Za2 (fun k hk e=>hqj (by rw [← e]; exact hk))]; exact hq)
 have hlt:∀ b ∈ foots (killE E [i] ++ [⟨0,v,v.ownBlock.toList ++ G⟩]),b < W.heap.size:=fun b hb=>by
  rw [ZaV,List.mem_append] at hb
  rcases hb with hb | hb
  ·exact hM.lt b (ZfS rfl hjl hb)
  ·exact hM.lt b (hin b (by simpa [foots] using hb))
 refine ⟨_,g,m,Ze0 hM g m (by simp [hml,hkl,hM.len]) (ZbO fun z=>?_) (fun q b e1 hb he1=>?_) hlt,Ze9 ho,?_⟩
 ·have c1:=Zeq z (rfl:ZaW [i]=true) hjl
  have c2:=ZhY hM z
  have c3:=hf z
  rw [hfe] at c1
  rw [ZaV,List.count_append]
  have c5:(foots [⟨0,v,v.ownBlock.toList ++ G⟩]).count z=(v.ownBlock.toList ++ G).count z:=by simp [foots]
  rw [c5]
  omega
 ·by_cases hq:q < M.length
  ·rw [List.getElem?_append_left (by rw [hml]; exact hq)] at hb
   rw [List.getElem?_append_left (by rw [hkl,← hM.len]; exact hq)] at he1
   by_cases hqj:q ∈ [i]
   ·rw [Zbq hqj hq] at hb
    obtain rfl:=Option.some.inj hb
    exact .inr (Zgv hqj he1)
   ·rw [Za2 (fun k hk e=>hqj (by rw [← e]; exact hk))] at hb
    rw [Zbh (fun k hk e=>hqj (by rw [← e]; exact hk))] at he1
    exact .inl ⟨hb,he1,fun _ _=>rfl⟩
  ·have hq' : q=M.length:=by
    exact Zv3
   subst hq'
   rw [List.getElem?_append_right (by rw [hml]; exact Nat.le_refl _),hml,Nat.sub_self] at hb
   rw [List.getElem?_append_right (by rw [hkl,← hM.len]; exact Nat.le_refl _),hkl,← hM.len,Nat.sub_self] at he1
   simp at hb he1
   subst hb
   subst he1
   exact .inr ⟨T,cells,G,ho,hr,rfl⟩
 ·exact Zu4
theorem ZBT {x y:Operand} {t e:TypeId} {xs:Array Operand} {ts:Array TypeId} {q:AV × Mem} (hM:RepM X W E M) (ht:Zbv X W E M tm a.tmps.toList) (ho:o.op=.call ⟨.builtin .append,xs,ts⟩) (hxs:xs.toList=[x,y]) (hts:ts.toList=[t,t])
 (hu:P.underlying t=some (.slice e)) (hq:ZI9 M (evalA tm x) (evalA tm y)=some q) (hn:(ZeH P q.2 e q.1 (evalA tm y)).need):Zdv X P o a W E M (ZeH P q.2 e q.1 (evalA tm y)).val (ZeH P q.2 e q.1 (evalA tm y)).mem:=by
 have hx:=Zam (M:=M) (W:=W) (E:=E) ht x
 have hy:=Zam (M:=M) (W:=W) (E:=E) ht y
 generalize evalA tm x=x' at *
 generalize evalA tm y=y' at *
 unfold ZI9 at hq
 split at hq
 ·rename_i i v t' ys
  cases h1:t'.hasOpq with
  | false=>rw [h1] at hq; cases hq
  | true =>
   rw [h1] at hq
   simp only [cond_true] at hq
   split at hq
   ·rename_i t0 xs0 cv cc hMi
    split at hq
    ·cases hq
    ·split at hq
     ·rename_i hne
      cases h2:Nat.beq v cv && Nat.beq t0.n t'.n with
      | false=>rw [h2] at hq; cases hq
      | true =>
       rw [h2] at hq
       simp only [cond_true] at hq
       obtain rfl:=Option.some.inj hq
       rw [Bool.and_eq_true] at h2
       obtain rfl:=Nat.eq_of_beq_eq_true h2.1
       have hnn:=Nat.eq_of_beq_eq_true h2.2
       have hra:Zcn M i v=some ⟨t0,[],cc⟩:=by unfold Zcn; rw [hMi]; simp only [h2.1,cond_true]
       obtain ⟨e0,he0,hv0,T0,cells,G,w1,w2,w3⟩:=Zga hM hra (hx:Zbo X W E M (.row i v) _).2
       simp only at w1 w2 w3
       obtain ⟨rfl,rfl⟩:cells=[]∧G=[]:=w2
       obtain ⟨E',g,m,rm,rc⟩:=ZuA (t:=t') (ys:=[]) (v:=e0.val) (T:=T0) (cells:=[]) (G:=[]) hM hMi he0 (by rw [← hnn]; exact w1) ⟨rfl,rfl⟩ (fun z=>by rw [w3]; exact Nat.le_refl _)
       have hy2:Zcd X W E' (ZbU M [i] ++ [.row t' [] 0 0 none]) (.c (.hs .no t' ys)) (a.eval y):=Zbo.mono g m hM.len (c:=.hs .no t' ys) hy
       obtain ⟨u,W2,E2,h3,g2,m2,rm2,rv2⟩:=Zmp (P:=P) (o:=o) (a:=a) rm (x':=.c (.row M.length 0)) (y':=.c (.hs .no t' ys)) (by rw [hv0]; exact rc) hy2 ho hxs hts hu hn
       exact ⟨u,W2,E2,h3,g.trans g2,m.trans m2,rm2,rv2⟩
     ·cases hq
   ·cases hq
 ·cases hq
end
end Go.Proofs.YtkeglpnnedflnaaGreatDoor
