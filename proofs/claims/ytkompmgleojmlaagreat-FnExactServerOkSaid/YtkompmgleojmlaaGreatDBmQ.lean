import Derived.Test.YtkompmgleojmlaaGreatDBmL
import Derived.Test.YtkompmgleojmlaaGreatDTypes
set_option linter.unusedSimpArgs false
set_option linter.unusedVariables false
namespace Go.Proofs.YtkompmgleojmlaaGreat
open Go.ChangeShapes Go.WideShapes Go.ChangeAt Go.RowKit Go.Joins Go.Deep
open GoRep (rep bulk)
theorem ZDT:∀ {x y:List AC},leL x y→x=y
  | [],[],_=>rfl
  | [],_ :: _,h=>h.elim
  | _ :: _,[],h=>h.elim
  | _ :: _,_ :: _,h=>by rw [ZEn h.1,ZDT h.2]
theorem leV_eq {x y:AV} (h:leV x y):y=.any∨x=y:=by
  unfold leV at h
  split at h
  · exact .inl rfl
  · exact .inr (by rw [ZEn h])
  · exact .inr (by rw [ZDT h])
  · exact .inr h
theorem ZID {x y:Blk} (h:leB x y):x=y:=by
  unfold leB at h
  split at h
  · rw [ZDT h]
  · obtain ⟨⟨e1,e2⟩,e3,e4⟩:=h; subst e3; rw [← e4,e1,e2]
  · exact h
theorem ZDU:∀ {x y:Mem},leM x y→∃ z,x=y ++ z
  | x,[],_=>⟨x,rfl⟩
  | [],_ :: _,h=>h.elim
  | _ :: _,_ :: _,h=>by
    obtain ⟨z,e⟩:=ZDU h.2
    exact ⟨z,by rw [ZID h.1,e]; rfl⟩
section
variable {P:Program} {X:List Nat} {W:World} {E:Env} {M:Mem} {a:Act} {tm:List AV} {o:Oper} {T:Tab P}
theorem ZHA {x y:AV} {v:Value} (h:leV x y) (hr:Zcu X W E M x v):Zcu X W E M y v:=by
  rcases leV_eq h with rfl | rfl
  · trivial
  · exact hr
theorem ZDV:∀ {x y:List AV} {vs:List Value},leT x y→ZbJ X W E M x vs→ZbJ X W E M y vs
  | [],[],_,_,hr=>hr
  | [],_ :: _,_,h,_=>h.elim
  | _ :: _,[],_,h,_=>h.elim
  | _ :: _,_ :: _,_,h,⟨v,r,e,h1,h2⟩=>⟨v,r,e,ZHA h.1 h1,ZDV h.2 h2⟩
theorem ZtU {n i q:Nat} {v:Value} (hi:i < n) (h:Zhy E i v q):Zhy (E.take n) i v q:=by
  obtain ⟨e,h1,h2⟩:=h
  exact ⟨e,by rw [List.getElem?_take,if_pos hi]; exact h1,h2⟩
theorem ZpX {n:Nat}:∀ {is:List Nat} {vs:List Value},is.all (Nat.blt · n)=true→Zdh E is vs→Zdh (E.take n) is vs
  | [],_,_,h=>h
  | _ :: _,_,ho,⟨v,r,e,h1,h2⟩=>by
    rw [List.all_cons,Bool.and_eq_true] at ho
    exact ⟨v,r,e,ZtU (Nat.le_of_ble_eq_true ho.1) h1,ZpX ho.2 h2⟩
theorem Ziz (n:Nat):∀ b ∈ foots (E.take n),b ∈ foots E:=fun b hb=>by
  obtain ⟨e,h1,h2⟩:=ZaJ.1 hb
  exact ZaJ.2 ⟨e,List.mem_of_mem_take h1,h2⟩
theorem Zki {n i v:Nat} {Q:EB→Prop} (hi:i < n) (h:ZbL E M i v Q):ZbL (E.take n) (M.take n) i v Q:=by
  unfold ZbL at h ⊢
  exact Zws
theorem ZnK {n:Nat} {Q:List Nat→Prop}:∀ {L:Lnd},(∀ i v c,L=.at i v c→i < n)→Zka X W E M L Q→Zka X W (E.take n) (M.take n) L Q
  | .no,_,⟨F,h1,h2⟩=>⟨F,h1,fun b hb=>⟨⟨fun hm=>(h2 b hb).1.1 (Ziz n b hm),(h2 b hb).1.2⟩,(h2 b hb).2⟩⟩
  | .at i v c,hi,h=>by
    have hi:=hi i v c rfl
    have h:Zdi E M i v c Q:=h
    show Zdi (E.take n) (M.take n) i v c Q
    unfold Zdi at h ⊢
    exact Zws
theorem ZtV {n i ver c n' k o:Nat} {u:Value} (hi:i < n) (h:Zla W E M i ver c n' k o u):Zla W (E.take n) (M.take n) i ver c n' k o u:=by
  obtain ⟨b,h1,h2⟩:=h
  exact ⟨b,Zki hi h1,ZnK (X:=[]) (W:=W) (L:=.at i ver c) (fun _ _ _ e=>by injection e with e1 _ _; omega) h2⟩
theorem ZDW {n:Nat}:∀ {c:AC} {v:Value},okC n c=true→Zbm X W E M c v→Zbm X W (E.take n) (M.take n) c v
  | .int _ _,_,_,h=>h
  | .bool _,_,_,h=>h
  | .str _,_,_,h=>h
  | .opq _,_,_,h=>h
  | .hs L t xs,v,ho,h=>⟨h.1,ZnK (fun i v c e=>by subst e; exact Nat.le_of_ble_eq_true ho) h.2⟩
  | .bp _ _,_,ho,h=>ZtU (Nat.le_of_ble_eq_true ho) h
  | .ep L t xs k o,v,ho,h=>⟨h.1,ZnK (fun i v c e=>by subst e; exact Nat.le_of_ble_eq_true ho) h.2⟩
  | .row i ver,v,ho,h=>⟨h.1,Zki (Nat.le_of_ble_eq_true ho) h.2⟩
  | .rp i ver n k o,v,ho,h=>⟨h.1,Zki (Nat.le_of_ble_eq_true ho) h.2⟩
  | .sl i ver c n k o,v,ho,h=>⟨h.1,ZtV (Nat.le_of_ble_eq_true ho) h.2⟩
  | .sp i ver c n k o m x q,v,ho,⟨h0,b,l,cap,h1,h2⟩=>⟨h0,b,l,cap,ZtV (Nat.le_of_ble_eq_true ho) h1,h2⟩
  | .tl i ver n k,v,ho,h=>⟨h.1,Zki (Nat.le_of_ble_eq_true ho) h.2⟩
  | .mp i,v,ho,⟨e,h1,h2⟩=>⟨e,by rw [List.getElem?_take,if_pos (show i < n from Nat.le_of_ble_eq_true ho)]; exact h1,h2⟩
  | .fn f caps,v,ho,⟨vs,e,h⟩=>⟨vs,e,ZpX ho h⟩
  | .raw _,_,_,h=>h
  | .junk,_,_,h=>h
theorem Zy6 {n:Nat}:∀ {l:List AC} {vs:List Value},l.all (okC n)=true→ZbS X W E M l vs→ZbS X W (E.take n) (M.take n) l vs
  | [],_,_,h=>h
  | _ :: _,_,ho,⟨v,r,e,h1,h2⟩=>by
    rw [List.all_cons,Bool.and_eq_true] at ho
    exact ⟨v,r,e,ZDW ho.1 h1,Zy6 ho.2 h2⟩
theorem ZDX {n:Nat}:∀ {x:AW} {v:Value},okW n x=true→Zi3 X W E M x v→Zi3 X W (E.take n) (M.take n) x v
  | .c _,_,ho,h=>ZDW ho h
  | .ag _,_,ho,⟨cs,e,h⟩=>⟨cs,e,Zy6 ho h⟩
theorem ZAb {n:Nat}:∀ {l:List AW} {vs:List Value},l.all (okW n)=true→ZcZ X W E M l vs→ZcZ X W (E.take n) (M.take n) l vs
  | [],_,_,h=>h
  | _ :: _,_,ho,⟨v,r,e,h1,h2⟩=>by
    rw [List.all_cons,Bool.and_eq_true] at ho
    exact ⟨v,r,e,ZDX ho.1 h1,ZAb ho.2 h2⟩
theorem ZHB {n:Nat}:∀ {x:AV} {v:Value},okV n x=true→Zcu X W E M x v→Zcu X W (E.take n) (M.take n) x v
  | .w _,_,ho,h=>ZDX ho h
  | .tp _,_,ho,⟨vs,e,h⟩=>⟨vs,e,ZAb ho h⟩
  | .any,_,_,_=>trivial
theorem ZDY {n:Nat}:∀ {l:List AV} {vs:List Value},l.all (okV n)=true→ZbJ X W E M l vs→ZbJ X W (E.take n) (M.take n) l vs
  | [],_,_,h=>h
  | _ :: _,_,ho,⟨v,r,e,h1,h2⟩=>by
    rw [List.all_cons,Bool.and_eq_true] at ho
    exact ⟨v,r,e,ZHB ho.1 h1,ZDY ho.2 h2⟩
theorem ZFM {M N:Mem} (hM:RepM X W E (M ++ N)) (ho:M.all (okB M.length)=true):RepM X W (E.take M.length) M:=by
  have hl:=hM.len
  rw [List.length_append] at hl
  refine ⟨by simp; omega,?_,fun i b e hb he=>?_,fun b hb=>hM.lt b (Ziz _ b hb),fun b hb hf=>hM.xlt b hb (Ziz _ b hf),hM.xsz⟩
  · have hn:=hM.nodup
    rw [← List.take_append_drop M.length E,Za7,List.nodup_append] at hn
    exact hn.1
  · have hi:i < M.length:=(List.getElem?_eq_some_iff.1 hb).1
    rw [List.getElem?_take,if_pos hi] at he
    have h:=hM.at_ i b e (by rw [List.getElem?_append_left hi]; exact hb) he
    have hob:=List.all_eq_true.1 ho b (List.mem_of_getElem? hb)
    cases b with
    | box l =>
      obtain ⟨q1,cs,T,q2,q3⟩:=h
      have:=Zy6 (n:=M.length) hob q3
      rw [List.take_left] at this
      exact ⟨q1,cs,T,q2,this⟩
    | row t xs v c hh =>
      cases hh with
      | none=>exact h
      | some _=>cases hob
    | mp _=>exact h
    | dead=>exact h
theorem Zex.le {n0:Nat} {inp:List Nat} {tm0:List AV} {M0:Mem} {h:List AV × Mem} (hr:Zex X tm M a W E) (hle:leS n0 inp tm0 M0 tm M h):Zex X h.1 h.2 a W (E.take h.2.length):=by
  obtain ⟨h1,h2,h3⟩:=hle
  rw [Bool.and_eq_true] at h3
  replace h3:=h3.1
  rw [Bool.and_eq_true] at h3
  obtain ⟨z,e⟩:=ZDU h2
  subst e
  refine ⟨ZFM hr.mem h3.2,?_,hr.dfr⟩
  have:=ZDY h3.1 (ZDV h1 hr.tmps)
  rwa [List.take_left] at this
theorem ZDZ {W0:World} {E0:Env} {n:Nat} (hn:E0.length≤n) (hg:Zbe W0 E0 W E):Zbe W0 E0 W (E.take n):=⟨hg.os,hg.tape,hg.output,hg.size,hg.keep,fun b hb=>hg.new b (Ziz n b hb),fun i e h=>by
  obtain ⟨e',h1,h2⟩:=hg.blk i e h
  exact ⟨e',by rw [List.getElem?_take,if_pos (Nat.lt_of_lt_of_le (List.getElem?_eq_some_iff.1 h).1 hn)]; exact h1,h2⟩⟩
theorem ZnL (hM:RepM X W E M):Zbe W E W.drew E:=⟨rfl,rfl,rfl,Nat.le_refl _,fun _ _ _=>rfl,fun _ h=>.inl h,fun _ e h=>⟨e,h,rfl⟩⟩
theorem ZpY (hM:RepM X W E M):ZaR W E M W.drew E M:=by
  have:=Zej (W:=W) (W':=W.drew) (ZnL hM) hM (fun _ _=>rfl) [] []
  rwa [List.append_nil,List.append_nil] at this
theorem Zex.drew (hr:Zex X tm M a W E):Zex X tm M a W.drew E:=by
  have g:=ZnL hr.mem
  have m:=ZpY hr.mem
  refine ⟨⟨hr.mem.len,hr.mem.nodup,fun i b e hb he=>(hr.mem.at_ i b e hb he).keep g m hr.mem.len (fun _ _=>rfl),hr.mem.lt,hr.mem.xlt,hr.mem.xsz⟩,hr.tmps.mono g m hr.mem.len,hr.dfr⟩
theorem ZrS (i:Nat):(M.map (ZfL M))[i]?=(M[i]?).map (ZfL M):=List.getElem?_map
theorem ZIE {i v:Nat} {r:ZfQ} (h:ZcB M i v=some r):(M.map (ZfL M))[i]?=some (.row r.t r.xs 0 0 none):=by
  rw [ZrS,ZcF h]
  rfl
theorem ZtW {i v c:Nat} (h:Zdj M i v c=true):∃ (t:Ty) (xs:List t.den),M[i]?=some (.row t xs v c none):=by
  unfold Zdj at h
  split at h
  · rename_i t xs cv cc hM
    rw [Bool.and_eq_true] at h
    obtain rfl:=Nat.eq_of_beq_eq_true h.1
    obtain rfl:=Nat.eq_of_beq_eq_true h.2
    exact ⟨t,xs,hM⟩
  · cases h
theorem Zlf {i v:Nat} {Q:EB→Prop} {r:ZfQ} (hr:ZcB M i v=some r) (h:ZbL E M i v Q):ZbL E (M.map (ZfL M)) i 0 Q:=by
  unfold ZbL at h ⊢
  rw [ZcF hr] at h
  rw [ZIE hr]
  exact ⟨Nat.le_refl _,fun _=>h.2 rfl⟩
theorem ZjL {i v c:Nat} {Q:List Nat→Prop} (hl:Zdj M i v c=true) (h:Zdi E M i v c Q):Zdi E (M.map (ZfL M)) i 0 0 Q:=by
  obtain ⟨t,xs,hM⟩:=ZtW hl
  unfold Zdi at h ⊢
  rw [hM] at h
  rw [ZrS,hM]
  exact ⟨Nat.le_refl _,fun _=>⟨Nat.le_refl _,fun _=>(h.2 rfl).2 rfl⟩⟩
theorem ZpZ {i ver c n k o:Nat} {u:Value} (hl:Zdj M i ver c=true) (h:Zla W E M i ver c n k o u):Zla W E (M.map (ZfL M)) i 0 0 n k o u:=by
  obtain ⟨b,h1,h2⟩:=h
  obtain ⟨t,xs,hM⟩:=ZtW hl
  refine ⟨b,Zlf (r:=⟨t,xs,c⟩) ?_ h1,ZjL hl h2⟩
  unfold ZcB
  rw [hM]
  simp
theorem ZtX:∀ {c:AC} {v:Value},Zbm X W E M c v→Zbm X W E (M.map (ZfL M)) (ZEf M c) v
  | .int _ _,_,h=>h
  | .bool _,_,h=>h
  | .str _,_,h=>h
  | .opq _,_,h=>h
  | .hs .no t xs,v,h=>h
  | .hs (.at i u c) t xs,v,h=>by
    show Zbm X W E _ (bif Zdj M i u c then _ else _) v
    cases hl:Zdj M i u c with
    | false=>exact h.1
    | true=>exact ⟨h.1,ZjL hl h.2⟩
  | .bp _ _,_,h=>h
  | .ep .no t xs k o,v,h=>h
  | .ep (.at i u c) t xs k o,v,h=>by
    show Zbm X W E _ (bif Zdj M i u c then _ else _) v
    cases hl:Zdj M i u c with
    | false=>exact h.1
    | true=>exact ⟨h.1,ZjL hl h.2⟩
  | .row i ver,v,h=>by
    show Zbm X W E _ (bif (ZcB M i ver).isSome then _ else _) v
    cases hl:ZcB M i ver with
    | none=>exact h.1
    | some r=>exact ⟨h.1,Zlf hl h.2⟩
  | .sl i ver c n k o,v,h=>by
    show Zbm X W E _ (bif Zdj M i ver c then _ else _) v
    cases hl:Zdj M i ver c with
    | false=>exact h.1
    | true=>exact ⟨h.1,ZpZ hl h.2⟩
  | .sp i ver c n k o m x q,v,⟨h0,b,l,cap,h1,h2⟩=>by
    show Zbm X W E _ (bif Zdj M i ver c then _ else _) v
    cases hl:Zdj M i ver c with
    | false=>exact h0
    | true=>exact ⟨h0,b,l,cap,ZpZ hl h1,h2⟩
  | .rp i ver n k o,v,h=>by
    show Zbm X W E _ (bif (ZcB M i ver).isSome then _ else _) v
    cases hl:ZcB M i ver with
    | none=>exact h.1
    | some r=>exact ⟨h.1,Zlf hl h.2⟩
  | .tl i ver n k,v,h=>h.1
  | .mp _,_,h=>h
  | .fn f caps,v,h=>h
  | .raw _,_,h=>h
  | .junk,_,h=>h
theorem ZnM:∀ {l:List AC} {vs:List Value},ZbS X W E M l vs→ZbS X W E (M.map (ZfL M)) (l.map (ZEf M)) vs
  | [],_,h=>h
  | _ :: _,_,⟨v,r,e,h1,h2⟩=>⟨v,r,e,ZtX h1,ZnM h2⟩
theorem ZtY:∀ {x:AW} {v:Value},Zi3 X W E M x v→Zi3 X W E (M.map (ZfL M)) (ZGi M x) v
  | .c _,_,h=>ZtX h
  | .ag _,_,⟨cs,e,h⟩=>⟨cs,e,ZnM h⟩
theorem Zp0:∀ {l:List AW} {vs:List Value},ZcZ X W E M l vs→ZcZ X W E (M.map (ZfL M)) (l.map (ZGi M)) vs
  | [],_,h=>h
  | _ :: _,_,⟨v,r,e,h1,h2⟩=>⟨v,r,e,ZtY h1,Zp0 h2⟩
theorem ZD0:∀ {x:AV} {v:Value},Zcu X W E M x v→Zcu X W E (M.map (ZfL M)) (Zsa M x) v
  | .w _,_,h=>ZtY h
  | .tp _,_,⟨vs,e,h⟩=>⟨vs,e,Zp0 h⟩
  | .any,_,_=>trivial
theorem ZtZ:∀ {l:List AV} {vs:List Value},ZbJ X W E M l vs→ZbJ X W E (M.map (ZfL M)) (l.map (Zsa M)) vs
  | [],_,h=>h
  | _ :: _,_,⟨v,r,e,h1,h2⟩=>⟨v,r,e,ZD0 h1,ZtZ h2⟩
theorem Zex.back (hr:Zex X tm M a W E) (hno:Zzg M=true):Zex X (tm.map (Zsa M)) (M.map (ZfL M)) a W E:=by
  refine ⟨⟨by rw [List.length_map]; exact hr.mem.len,hr.mem.nodup,fun i b e hb he=>?_,hr.mem.lt,hr.mem.xlt,hr.mem.xsz⟩,ZtZ hr.tmps,hr.dfr⟩
  rw [ZrS] at hb
  cases hM:M[i]? with
  | none=>rw [hM] at hb; cases hb
  | some b' =>
    rw [hM] at hb
    obtain rfl:ZfL M b'=b:=by simpa using hb
    have h:=hr.mem.at_ i b' e hM he
    cases b' with
    | box l =>
      obtain ⟨q1,cs,T,q2,q3⟩:=h
      exact ⟨q1,cs,T,q2,ZnM q3⟩
    | row t xs v c hh =>
      cases hh with
      | none=>exact h
      | some _=>have:=List.all_eq_true.1 hno _ (List.mem_of_getElem? hM); cases this
    | mp _=>exact h
    | dead=>exact h
theorem ZbJ.put:∀ {l:List AV} {vs:List Value} (j:Nat) {x:AV},ZbJ X W E M l vs→(∀ v,vs[j]?=some v→Zcu X W E M x v)→ZbJ X W E M (l.set j x) vs
  | [],_,_,_,h,_=>h
  | _ :: _,_,0,_,⟨v,r,e,h1,h2⟩,h=>⟨v,r,e,h v (by rw [e]; rfl),h2⟩
  | _ :: _,_,j + 1,_,⟨v,r,e,h1,h2⟩,h=>⟨v,r,e,h1,ZbJ.put j h2 (fun u hu=>h u (by rw [e]; simpa using hu))⟩
theorem ZbS.put:∀ {l:List AC} {vs:List Value} (j:Nat) {x:AC},ZbS X W E M l vs→(∀ v,vs[j]?=some v→Zbm X W E M x v)→ZbS X W E M (l.set j x) vs
  | [],_,_,_,h,_=>h
  | _ :: _,_,0,_,⟨v,r,e,h1,h2⟩,h=>⟨v,r,e,h v (by rw [e]; rfl),h2⟩
  | _ :: _,_,j + 1,_,⟨v,r,e,h1,h2⟩,h=>⟨v,r,e,h1,ZbS.put j h2 (fun u hu=>h u (by rw [e]; simpa using hu))⟩
theorem Zex.nilrow (hr:Zex X tm M a W E) (t:Ty):∃ E',Zbe W E W E'∧ZaR W E M W E' (M ++ [.row t [] 0 0 none])∧Zex X tm (M ++ [.row t [] 0 0 none]) a W E'∧Zbm X W E' (M ++ [.row t [] 0 0 none]) (.row M.length 0) (.slice none 0 0):=by
  obtain ⟨E',g,m,rm,rc⟩:=ZiL (W':=W) (js:=[]) (t:=t) (ys:=[]) (v:=.slice none 0 0) (T:=0) (cells:=[]) (own:=[]) (G:=[]) hr.mem rfl (by simp) ⟨rfl,rfl,rfl,Nat.le_refl _,fun _ _ _=>rfl⟩ (World.ownsRow_nil W 0 0 t.n) ⟨rfl,rfl⟩ rfl (.inl rfl)
  exact ⟨E',g,m,⟨rm,hr.tmps.mono g m hr.mem.len,hr.dfr⟩,rc⟩
theorem Zex.boxput {b i:Nat} {l:List AC} {x:AC} {v:Value} (hr:Zex X tm M a W E) (hb:M[b]?=some (.box l)) (hl:l[i]?=some (.raw v)) (hx:Zbm X W E M x v):ZaR W E M W E (M.set b (.box (l.set i x)))∧Zex X tm (M.set b (.box (l.set i x))) a W E:=by
  have hbl:=(List.getElem?_eq_some_iff.1 hb).1
  have m:ZaR W E M W E (M.set b (.box (l.set i x))):=fun j=>by
    exact ZvT
  have g:=Zbe.refl W E
  refine ⟨m,⟨by simp [hr.mem.len],hr.mem.nodup,fun j b' e hb' he=>?_,hr.mem.lt,hr.mem.xlt,hr.mem.xsz⟩,hr.tmps.mono g m hr.mem.len,hr.dfr⟩
  by_cases hj:b=j
  · subst hj
    rw [List.getElem?_set_self hbl] at hb'
    obtain rfl:=Option.some.inj hb'
    obtain ⟨q1,cs,T,q2,q3⟩:=hr.mem.at_ _ _ e hb he
    refine ⟨q1,cs,T,q2,ZbS.mono g m hr.mem.len (ZbS.put i q3 (fun u hu=>?_))⟩
    obtain ⟨w,h1,h2⟩:=q3.get hl
    obtain rfl:w=u:=Option.some.inj (h1.symm.trans hu)
    rw [h2.1]
    exact hx
  · exact ZvY
theorem ZFN (hr:Zex X tm M a W E) (p:Pro):∃ E',Zbe W E W E'∧ZaR W E M W E' (ZJl tm M p).2∧Zex X (ZJl tm M p).1 (ZJl tm M p).2 a W E':=by
  obtain ⟨b,i,t⟩:=p
  cases b with
  | none =>
    show ∃ E',Zbe W E W E'∧ZaR W E M W E' (bif Zkc (tm.getD i .any) then (tm.set i (AV.c (AC.row M.length 0)),M ++ [Blk.row t [] 0 0 none]) else (tm,M)).2∧Zex X (bif Zkc (tm.getD i .any) then (tm.set i (AV.c (AC.row M.length 0)),M ++ [Blk.row t [] 0 0 none]) else (tm,M)).1 (bif Zkc (tm.getD i .any) then (tm.set i (AV.c (AC.row M.length 0)),M ++ [Blk.row t [] 0 0 none]) else (tm,M)).2 a W E'
    cases hn:Zkc (tm.getD i .any) with
    | false=>exact ⟨E,Zbe.refl W E,ZaR.refl W E M,hr⟩
    | true =>
      obtain ⟨E',g,m,r,rc⟩:=hr.nilrow t
      refine ⟨E',g,m,⟨r.mem,ZbJ.put i r.tmps (fun u hu=>?_),r.dfr⟩⟩
      have e:=ZtG hn
      rw [List.getD_eq_getElem?_getD] at e
      cases hq:tm[i]? with
      | none=>rw [hq] at e; cases e
      | some x =>
        rw [hq] at e
        obtain rfl:x=_:=e
        obtain ⟨w,h1,h2⟩:=hr.tmps.get hq
        obtain rfl:w=u:=Option.some.inj (h1.symm.trans hu)
        have h2:Zbm X W E M (.raw (.slice none 0 0)) w:=h2
        rw [h2.1]
        exact rc
  | some b =>
    show ∃ E',Zbe W E W E'∧ZaR W E M W E' (match M[b]? with | some (.box l)=>bif ZkA (l.getD i .junk) then (tm,M.set b (Blk.box (l.set i (AC.row M.length 0))) ++ [Blk.row t [] 0 0 none]) else (tm,M) | _=>(tm,M)).2∧Zex X (match M[b]? with | some (.box l)=>bif ZkA (l.getD i .junk) then (tm,M.set b (Blk.box (l.set i (AC.row M.length 0))) ++ [Blk.row t [] 0 0 none]) else (tm,M) | _=>(tm,M)).1
      (match M[b]? with | some (.box l)=>bif ZkA (l.getD i .junk) then (tm,M.set b (Blk.box (l.set i (AC.row M.length 0))) ++ [Blk.row t [] 0 0 none]) else (tm,M) | _=>(tm,M)).2 a W E'
    split
    · rename_i l hb
      cases hn:ZkA (l.getD i .junk) with
      | false=>exact ⟨E,Zbe.refl W E,ZaR.refl W E M,hr⟩
      | true =>
        obtain ⟨E',g,m,r,rc⟩:=hr.nilrow t
        have e:=Zuo hn
        have hl:l[i]?=some (.raw (.slice none 0 0)):=by
          rw [List.getD_eq_getElem?_getD] at e
          cases hq:l[i]? with
          | none=>rw [hq] at e; cases e
          | some x=>rw [hq] at e; exact congrArg some e
        have hbl:=(List.getElem?_eq_some_iff.1 hb).1
        obtain ⟨m2,r2⟩:=r.boxput (b:=b) (i:=i) (l:=l) (by rw [List.getElem?_append_left hbl]; exact hb) hl rc
        rw [List.set_append_left _ _ hbl] at r2 m2
        exact ⟨E',g,m.trans m2,r2⟩
    · exact ⟨E,Zbe.refl W E,ZaR.refl W E M,hr⟩
theorem ZAc:∀ (ps:List Pro) {tm:List AV} {M:Mem} {E:Env},Zex X tm M a W E→∃ E',Zbe W E W E'∧ZaR W E M W E' (ZHN tm M ps).2∧Zex X (ZHN tm M ps).1 (ZHN tm M ps).2 a W E'
  | [],_,M,E,hr=>⟨E,Zbe.refl W E,ZaR.refl W E M,hr⟩
  | p :: ps,tm,M,E,hr=>by
    obtain ⟨E1,g1,m1,r1⟩:=ZFN hr p
    obtain ⟨E2,g2,m2,r2⟩:=ZAc ps r1
    exact Zin
theorem Zex.boxput2 {b i:Nat} {l:List AC} {x:AC} (hr:Zex X tm M a W E) (hb:M[b]?=some (.box l)) (hx:∀ e cs T,E[b]?=some e→W.heap[e.blk]?=some (.cells cs T (0,0))→∀ u,cs.toList[i]?=some u→Zbm X W E M x u):ZaR W E M W E (M.set b (.box (l.set i x)))∧Zex X tm (M.set b (.box (l.set i x))) a W E:=by
  have hbl:=(List.getElem?_eq_some_iff.1 hb).1
  have m:ZaR W E M W E (M.set b (.box (l.set i x))):=fun j=>by
    exact ZvT
  have g:=Zbe.refl W E
  refine ⟨m,⟨by simp [hr.mem.len],hr.mem.nodup,fun j b' e hb' he=>?_,hr.mem.lt,hr.mem.xlt,hr.mem.xsz⟩,hr.tmps.mono g m hr.mem.len,hr.dfr⟩
  by_cases hj:b=j
  · subst hj
    rw [List.getElem?_set_self hbl] at hb'
    obtain rfl:=Option.some.inj hb'
    obtain ⟨q1,cs,T,q2,q3⟩:=hr.mem.at_ _ _ e hb he
    exact ⟨q1,cs,T,q2,ZbS.mono g m hr.mem.len (ZbS.put i q3 (hx e cs T he q2))⟩
  · exact ZvY
theorem ZBV (hr:Zex X tm M a W E) (b c k:Nat):∃ E',Zbe W E W E'∧ZaR W E M W E' (ZAy M b c k)∧Zex X tm (ZAy M b c k) a W E':=by
  have stay:∃ E',Zbe W E W E'∧ZaR W E M W E' M∧Zex X tm M a W E':=⟨E,Zbe.refl W E,ZaR.refl W E M,hr⟩
  unfold ZAy
  split
  · rename_i l hb
    split
    · rename_i j v hc
      cases hjk:Nat.beq j k with
      | true=>exact stay
      | false =>
        simp only [cond_false]
        split
        · rename_i t ys vj cj t' xs vk ck hj hk
          cases hv:Nat.beq v vj with
          | false=>exact stay
          | true =>
            simp only [cond_true]
            split
            · rename_i ht
              subst ht
              obtain rfl:=Nat.eq_of_beq_eq_true hv
              have hne:j ≠ k:=fun e=>by rw [e,Nat.beq_refl] at hjk; cases hjk
              obtain ⟨E',g,m,rm,rc⟩:=ZpQ hr.mem hk hj hne
              have hbj:b ≠ j:=fun e=>by rw [e,hj] at hb; cases hb
              have hbk:b ≠ k:=fun e=>by rw [e,hk] at hb; cases hb
              have hb' : ((Zch M [j]).set k (.row t' ys (vk + 1) (ck + 1) none))[b]?=some (.box l):=by
                rw [List.getElem?_set_ne (Ne.symm hbk),Zbn (fun q hq e=>hbj (by rw [← List.mem_singleton.1 hq]; exact e.symm))]
                exact hb
              obtain ⟨m2,r2⟩:=Zex.boxput2 (X:=X) (tm:=tm) (a:=a) (i:=c) (x:=.row k (vk + 1)) ⟨rm,hr.tmps.mono g m hr.mem.len,hr.dfr⟩ hb' (fun e cs T he hcs u hu=>by
                have hble:b < E.length:=by rw [← hr.mem.len]; exact (List.getElem?_eq_some_iff.1 hb).1
                obtain ⟨e0,he0⟩:∃ e0,E[b]?=some e0:=⟨_,List.getElem?_eq_getElem hble⟩
                obtain ⟨e',h1,h2⟩:=g.blk b e0 he0
                obtain rfl:=Option.some.inj (h1.symm.trans he)
                obtain ⟨_,cs0,T0,q2,q3⟩:=hr.mem.at_ _ _ e0 hb he0
                rw [h2] at hcs
                have hcc:=Option.some.inj (q2.symm.trans hcs)
                injection hcc with hcc
                subst hcc
                obtain ⟨w,w1,w2⟩:=q3.get hc
                obtain rfl:=Option.some.inj (w1.symm.trans hu)
                have h3:=(w2:Zbm X W E M (.row j v) w).2
                unfold ZbL at h3
                rw [hj] at h3
                obtain ⟨ej,p1,p2⟩:=h3.2 rfl
                rw [p2]
                exact rc ej p1)
              exact ⟨E',g,m.trans m2,r2⟩
            · exact stay
        · exact stay
    · exact stay
  · exact stay
theorem Zlg (b:Nat):∀ (l:List AC) (c:Nat) {M:Mem} {E:Env},Zex X tm M a W E→∃ E',Zbe W E W E'∧ZaR W E M W E' (Zug M b c l)∧Zex X tm (Zug M b c l) a W E'
  | [],_,M,E,hr=>⟨E,Zbe.refl W E,ZaR.refl W E M,hr⟩
  | x :: l,c,M,E,hr=>by
    cases x with
    | row k _ =>
      obtain ⟨E1,g1,m1,r1⟩:=ZBV hr b c k
      obtain ⟨E2,g2,m2,r2⟩:=Zlg b l (c + 1) r1
      exact Zin
    | _=>exact Zlg b l (c + 1) hr
theorem Zlh:∀ (b:Nat) (h:Mem) {M:Mem} {E:Env},Zex X tm M a W E→∃ E',Zbe W E W E'∧ZaR W E M W E' (Zoc M b h)∧Zex X tm (Zoc M b h) a W E'
  | _,[],M,E,hr=>⟨E,Zbe.refl W E,ZaR.refl W E M,hr⟩
  | b,x :: h,M,E,hr=>by
    cases x with
    | box l =>
      obtain ⟨E1,g1,m1,r1⟩:=Zlg b l 0 hr
      obtain ⟨E2,g2,m2,r2⟩:=Zlh (b + 1) h r1
      exact Zin
    | _=>exact Zlh (b + 1) h hr
theorem ZAd:∀ {l:List AV} {vs:List Value} (i:Nat) {x:AV},ZbJ X W E M l vs→(∀ u,vs[i]?=some u→Zcu X W E M x u)→ZbJ X W E M (l.set i x) vs
  | [],_,_,_,h,_=>h
  | _ :: _,_,0,_,⟨v,r,e,_,h2⟩,hx=>⟨v,r,e,hx v (by rw [e]; rfl),h2⟩
  | _ :: _,_,i + 1,_,⟨v,r,e,h1,h2⟩,hx=>⟨v,r,e,h1,ZAd i h2 (fun u hu=>hx u (by rw [e]; simpa using hu))⟩
theorem Zy7 {q:List AV × Mem} (hr:Zex X q.1 q.2 a W E) (i k:Nat):∃ E',Zbe W E W E'∧ZaR W E q.2 W E' (Zod q i k).2∧Zex X (Zod q i k).1 (Zod q i k).2 a W E':=by
  have stay:∃ E',Zbe W E W E'∧ZaR W E q.2 W E' q.2∧Zex X q.1 q.2 a W E':=⟨E,Zbe.refl W E,ZaR.refl W E q.2,hr⟩
  unfold Zod
  split
  · rename_i j v hc
    cases hjk:Nat.beq j k with
    | true=>exact stay
    | false =>
      simp only [cond_false]
      split
      · rename_i t ys vj cj t' xs vk ck hj hk
        cases hv:Nat.beq v vj with
        | false=>exact stay
        | true =>
          simp only [cond_true]
          split
          · rename_i ht
            subst ht
            obtain rfl:=Nat.eq_of_beq_eq_true hv
            have hne:j ≠ k:=fun e=>by rw [e,Nat.beq_refl] at hjk; cases hjk
            obtain ⟨E',g,m,rm,rc⟩:=ZpQ hr.mem hk hj hne
            refine ⟨E',g,m,rm,ZAd i (hr.tmps.mono g m hr.mem.len) (fun u hu=>?_),hr.dfr⟩
            obtain ⟨w,w1,w2⟩:=hr.tmps.get hc
            obtain rfl:=Option.some.inj (w1.symm.trans hu)
            have h3:=(w2:Zbm X W E q.2 (.row j v) w).2
            unfold ZbL at h3
            rw [hj] at h3
            obtain ⟨ej,p1,p2⟩:=h3.2 rfl
            rw [p2]
            exact rc ej p1
          · exact stay
      · exact stay
  · exact stay
theorem ZeX:∀ (h:List AV) (i:Nat) {q:List AV × Mem} {E:Env},Zex X q.1 q.2 a W E→∃ E',Zbe W E W E'∧ZaR W E q.2 W E' (Zoe q i h).2∧Zex X (Zoe q i h).1 (Zoe q i h).2 a W E'
  | [],_,q,E,hr=>⟨E,Zbe.refl W E,ZaR.refl W E q.2,hr⟩
  | x :: h,i,q,E,hr=>by
    cases x with
    | w z =>
      cases z with
      | c c0 =>
        cases c0 with
        | row k ver =>
          obtain ⟨E1,g1,m1,r1⟩:=Zy7 hr i k
          obtain ⟨E2,g2,m2,r2⟩:=ZeX h (i + 1) r1
          exact Zin
        | _=>exact ZeX h (i + 1) hr
      | ag l=>exact ZeX h (i + 1) hr
    | tp l=>exact ZeX h (i + 1) hr
    | any=>exact ZeX h (i + 1) hr
theorem ZGU {n0:Nat} {inp:List Nat} {tm0 tm' : List AV} {M0 M' : Mem} {h:List AV × Mem} (hle:leS n0 inp tm0 M0 tm' M' h):Zzg M0=true:=by
  obtain ⟨_,_,h3⟩:=hle
  simp only [Bool.and_eq_true] at h3
  exact h3.2.2.2
theorem ZjK.head {W0:World} {E0:Env} {tm' : List AV} {h:List AV × Mem} (hT:Zr8 X W0 E0 T) (hs:ZjK T W0 E0 W E M) (hle:leS T.n0 T.inp tm M tm' (M.map (ZfL M)) h):ZjK T W0 E0 W (E.take h.2.length) h.2:=by
  obtain ⟨h1,h2,h3⟩:=hle
  rw [Bool.and_eq_true,Bool.and_eq_true (a:=Nat.ble _ _)] at h3
  obtain ⟨_,hn,hi⟩:=h3
  rw [Bool.and_eq_true] at hi
  replace hi:=hi.1
  have hn:=Nat.le_of_ble_eq_true hn
  rw [hT.2.1] at hn
  refine ⟨ZDZ hn hs.g,fun i hii=>?_⟩
  obtain ⟨z,e⟩:=ZDU h2
  have hlt:i < h.2.length:=Nat.lt_of_lt_of_le (hT.2.2.1 i hii) hn
  have e1:h.2[i]?=(M.map (ZfL M))[i]?:=by rw [e,List.getElem?_append_left hlt]
  have hv:=List.all_eq_true.1 hi i hii
  rcases hs.kept i hii with hd | ⟨t,xs,v,c,hh,k1,k2⟩
  · rw [hd] at hv; cases hv
  · rw [k1] at hv
    cases hh with
    | some _=>cases hv
    | none =>
    obtain rfl:=Nat.eq_of_beq_eq_true (show Nat.beq v 0=true from hv)
    refine .inr ⟨t,xs,0,0,none,by rw [e1,ZrS,k1]; rfl,fun _ e0 he0=>?_⟩
    obtain ⟨e',q1,q2⟩:=k2 rfl e0 he0
    exact ⟨e',by rw [List.getElem?_take,if_pos hlt]; exact q1,q2⟩
theorem Zt0 {L:Nat→List AV→Mem→Za3} {W0:World} {E0:Env} (hT:Zr8 X W0 E0 T):∀ (c:Code) (tm:List AV) (M:Mem) (a:Act) (W:World) (E:Env) (K:Exit→List AV→Mem→Prop) (Q:Exit→Act→World→Prop),
    (∀ e tm M a W E,K e tm M→Zex X tm M a W E→ZjK T W0 E0 W E M→Q e a W)→ZgA T L c tm M K→Zex X tm M a W E→ZjK T W0 E0 W E M→c.wp P Q a W:=by
  intro c
  induction c with
  | skip=>intro tm M a W E K Q hS h hr hg; exact wp_skip (hS _ _ _ _ _ _ h hr hg)
  | label l=>intro tm M a W E K Q hS h hr hg; exact wp_label (hS _ _ _ _ _ _ h hr hg)
  | exit id=>intro tm M a W E K Q hS h hr hg; exact wp_exit (hS _ _ _ _ _ _ h hr hg)
  | ret=>intro tm M a W E K Q hS h hr hg; exact wp_ret (hS _ _ _ _ _ _ h hr hg)
  | region id ops draw =>
    intro tm M a W E K Q hS h0 hr hg
    have h:bif draw then (P.follows .mixedOrders=true∧okA T ops (Zgy T ops ops.size (Array.replicate ops.size false)) false (Array.replicate ops.size false)=true)∧ZkD T ops (Zgy T ops ops.size (Array.replicate ops.size false)) tm M (fun tm M=>K .normal tm M) else Zln T ops.toList ops.toList tm M (fun tm M=>K .normal tm M):=by
      have h0:bif ops.toList.any Zzh then False else (bif draw then (P.follows .mixedOrders=true∧okA T ops (Zgy T ops ops.size (Array.replicate ops.size false)) false (Array.replicate ops.size false)=true)∧ZkD T ops (Zgy T ops ops.size (Array.replicate ops.size false)) tm M (fun tm M=>K .normal tm M) else Zln T ops.toList ops.toList tm M (fun tm M=>K .normal tm M)):=h0
      cases hp:ops.toList.any Zzh with
      | true=>rw [hp] at h0; exact h0.elim
      | false=>rw [hp] at h0; exact h0
    cases draw with
    | false =>
      exact wp_region_list (ZdY hT (K:=fun tm M=>K .normal tm M) (fun tm M a W E hk hr hg=>hS _ _ _ _ _ _ hk hr hg) ops.toList tm M a W E h hr hg)
    | true =>
      obtain ⟨⟨hm,hB⟩,h⟩:=(h:(P.follows .mixedOrders=true∧okA T ops (Zgy T ops ops.size (Array.replicate ops.size false)) false (Array.replicate ops.size false)=true)∧ZkD T ops (Zgy T ops ops.size (Array.replicate ops.size false)) tm M (fun tm M=>K .normal tm M))
      have:=ZnJ _ ops.size _ _ _ ((Zgl (T:=T) (ops:=ops) _ _ tm M (Zy5 ops.size) h).1 hB) (ZpW _ _)
      exact wp_region_any hm (Zms (T:=T) (X:=X) (W0:=W0) hT (fun tm M a W E hk hr hg=>hS _ _ _ _ _ _ hk hr hg) _ _ tm M a _ E hr.drew (hg.step (ZnL hr.mem) (ZpY hr.mem)) this)
  | seq x y ihx ihy =>
    intro tm M a W E K Q hS h hr hg
    refine wp_seq (ihx tm M a W E _ _ (fun e tm M a W E hk hr hg=>?_) h hr hg)
    cases e with
    | normal=>exact ihy tm M a W E K Q hS hk hr hg
    | _=>exact hS _ _ _ _ _ _ hk hr hg
  | cond c x y ihx ihy =>
    intro tm M a W E K Q hS h hr hg
    unfold ZgA at h
    cases c with
    | tmp t =>
      simp only at h
      split at h
      · rename_i g hq
        have hl:=hr.lit hq
        have he:=Zaq hr.tmps (.tmp t)
        have he' : a.eval (.tmp t)=.bool g:=by
          have:evalA tm (.tmp t)=.w (.c (.bool g)):=hq
          rw [this] at he
          exact he
        cases g with
        | true=>exact wp_cond_true he' (ihx _ M a W E K Q hS h hl hg)
        | false=>exact wp_cond_false he' (ihy _ M a W E K Q hS h hl hg)
      · exact h.elim
    | const v =>
      split at h
      · rename_i t hq; cases hq
      · rename_i g hq
        obtain rfl:v=.bool g:=by injection hq
        cases g with
        | true=>exact wp_cond_true rfl (ihx _ M a W E K Q hS h hr hg)
        | false=>exact wp_cond_false rfl (ihy _ M a W E K Q hS h hr hg)
      · exact h.elim
    | global g=>exact h.elim
    | func f=>exact h.elim
  | block id x ih =>
    intro tm M a W E K Q hS h hr hg
    refine wp_block (ih tm M a W E _ _ (fun e tm M a W E hk hr hg=>?_) h hr hg)
    cases e with
    | exit id' =>
      show (if id'=id then Q .normal a W else Q (.exit id') a W)
      have hk:(bif Nat.beq id' id then K .normal tm M else K (.exit id') tm M):=hk
      by_cases hid:id'=id
      · rw [if_pos hid]
        rw [hid,Nat.beq_refl] at hk
        exact hS _ _ _ _ _ _ hk hr hg
      · rw [if_neg hid]
        have hb:Nat.beq id' id=false:=by
          cases hb:Nat.beq id' id with
          | false=>rfl
          | true=>exact absurd (Nat.eq_of_beq_eq_true hb) hid
        rw [hb] at hk
        exact hS _ _ _ _ _ _ hk hr hg
    | _=>exact hS _ _ _ _ _ _ hk hr hg
  | loop x ih =>
    intro tm M a W E K Q hS h hr hg
    unfold ZgA at h
    obtain ⟨E1,g1,m1,r1⟩:=ZAc (T.pro (ZdL x)) hr
    obtain ⟨tm1,htm1⟩:∃ z,z=(ZHN tm M (T.pro (ZdL x))).1:=⟨_,rfl⟩
    obtain ⟨M1,hM1⟩:∃ z,z=(ZHN tm M (T.pro (ZdL x))).2:=⟨_,rfl⟩
    rw [← htm1,← hM1] at r1
    rw [← hM1] at m1
    have hs1:=hg.step g1 m1
    obtain ⟨A,hA⟩:∃ A,A=L (ZdL x) (tm1.map (Zsa M1)) (M1.map (ZfL M1)):=⟨_,rfl⟩
    have h:(∃ y,A.inv y∧leS T.n0 T.inp tm1 M1 (tm1.map (Zsa M1)) (M1.map (ZfL M1)) (A.hd y)) ∧
        ∀ y,A.inv y→ZgA T L x (A.hd y).1 (A.hd y).2 (fun e tm' M'=>match e with | .normal=>∃ y',A.inv y'∧A.μ y' < A.μ y∧(let p:=Zoe (tm',Zoc M' 0 (A.hd y).2) 0 (A.hd y).1; leS T.n0 T.inp p.1 p.2 (p.1.map (Zsa p.2)) (p.2.map (ZfL p.2)) (A.hd y')) | e=>K e tm' M'):=by rw [hA,htm1,hM1]; exact h
    obtain ⟨⟨y0,hi0,hl0⟩,hround⟩:=h
    refine wp_loop_ghost (fun n a' w'=>∃ y E',A.inv y∧A.μ y=n∧Zex X (A.hd y).1 (A.hd y).2 a' w' E'∧ZjK T W0 E0 w' E' (A.hd y).2) (A.μ y0) ⟨y0,_,hi0,rfl,(r1.back (ZGU hl0)).le hl0,hs1.head hT hl0⟩ ?_
    intro n a' w' hI
    obtain ⟨y,E',hiy,rfl,hry,hgy⟩:=hI
    refine ih _ _ a' w' E' _ _ (fun e tm' M' a' W' E' hk hr' hg'=>?_) (hround y hiy) hry hgy
    cases e with
    | normal =>
      obtain ⟨y',hi',hlt,hl'⟩:=hk
      obtain ⟨E2,g2,m2,r2⟩:=Zlh 0 (A.hd y).2 hr'
      obtain ⟨E3,g3,m3,r3⟩:=ZeX (A.hd y).1 0 (q:=(tm',Zoc M' 0 (A.hd y).2)) r2
      exact ⟨_,hlt,y',_,hi',rfl,(r3.back (ZGU hl')).le hl',((hg'.step g2 m2).step g3 m3).head hT hl'⟩
    | _=>exact hS _ _ _ _ _ _ hk hr' hg'
  | _=>intro tm M a W E K Q hS h hr hg; exact h.elim
theorem ZFO {r:ResultVar} {x:AW} (hM:RepM X W E M) (ht:ZbJ X W E M tm a.tmps.toList) (h:ZJm P tm M r=some x) :
    ∃ v,((match r with | .tmp t=>pure (a.tmps.getD t undef) | .cell p t=>do loadVar t (← asAddr (a.tmps.getD p undef)):Sem Value)).run P W=.ok v W∧Zi3 X W E M x v:=by
  unfold ZJm at h
  split at h
  · rename_i t
    have he:=Zaq ht (.tmp t)
    have he:Zcu X W E M (tm.getD t .any) (a.tmps.getD t undef):=he
    split at h
    · rename_i y hy
      obtain rfl:=Option.some.inj h
      rw [hy] at he
      exact ⟨_,rfl,he⟩
    · cases h
  · rename_i p t
    have he:=Zaq ht (.tmp p)
    have he:Zcu X W E M (tm.getD p .any) (a.tmps.getD p undef):=he
    split at h
    · rename_i i q hy
      rw [hy] at he
      obtain ⟨e,hei,hv⟩:=(he:Zhy E i _ q)
      split at h
      · rename_i l hb
        split at h
        · rename_i z hz
          obtain rfl:=Option.some.inj h
          obtain ⟨_,cs,T,hgc,hl⟩:=hM.at_ i _ e hb hei
          obtain ⟨u,h1,h2⟩:=Zz3 (P:=P) hgc hl hz
          refine ⟨u,?_,h2⟩
          simp only [Sem.run_bind]
          rw [hv]
          simp only [asAddr,Sem.run_pure,Result.andThen_ok]
          exact h1
        · cases h
      · cases h
    · cases h
theorem ZAe (hM:RepM X W E M) (ht:ZbJ X W E M tm a.tmps.toList):∀ {rs:List ResultVar} {l:List AW},ZG1 P tm M rs=some l →
    ∃ vs,(rs.mapM (fun r=>(match r with | .tmp t=>pure (a.tmps.getD t undef) | .cell p t=>do loadVar t (← asAddr (a.tmps.getD p undef)):Sem Value))).run P W=.ok vs W∧ZcZ X W E M l vs
  | [],l,h=>by
    obtain rfl:=Option.some.inj h
    exact ⟨[],rfl,rfl⟩
  | r :: rs,l,h=>by
    unfold ZG1 at h
    cases hx:ZJm P tm M r with
    | none=>rw [hx] at h; cases h
    | some x =>
      rw [hx] at h
      simp only at h
      cases hxs:ZG1 P tm M rs with
      | none=>rw [hxs] at h; cases h
      | some xs =>
        rw [hxs] at h
        obtain rfl:=Option.some.inj h
        obtain ⟨v,h1,h2⟩:=ZFO hM ht hx
        obtain ⟨vs,h3,h4⟩:=ZAe hM ht hxs
        refine ⟨v :: vs,?_,v,vs,rfl,h2,h4⟩
        rw [List.mapM_cons]
        simp only [Sem.run_bind,h1,Result.andThen_ok,h3,Sem.run_pure]
theorem ZcZ.len:∀ {l:List AW} {vs:List Value},ZcZ X W E M l vs→vs.length=l.length
  | [],_,h=>by rw [show _=_ from h]; rfl
  | _ :: _,_,⟨v,r,e,_,h2⟩=>by rw [e,List.length_cons,ZcZ.len h2,List.length_cons]
theorem Zy8 {fn:Func} {l:List AW} (hM:RepM X W E M) (ht:ZbJ X W E M tm a.tmps.toList) (h:ZG1 P tm M fn.results.toList=some l):∃ v,(results fn a.tmps).run P W=.ok v W∧Zcu X W E M (ZJn l) v:=by
  obtain ⟨vs,h1,h2⟩:=ZAe hM ht h
  have hlen:=h2.len
  have hrun:(results fn a.tmps).run P W=.ok (if h:vs.toArray.size=1 then vs.toArray[0] else .tuple vs.toArray) W:=by
    unfold results
    rw [Array.mapM_eq_mapM_toList]
    simp only [Sem.run_bind,Sem.run_map]
    exact Eq.trans (congrArg (fun z:Result (List Value)=>(z.andThen (fun a w'=>Result.ok a.toArray w')).andThen (fun a w'=>Sem.run P (pure (if h:a.size=1 then a[0] else Value.tuple a)) w')) h1) rfl
  refine ⟨_,hrun,?_⟩
  cases l with
  | nil =>
    obtain rfl:vs=[]:=h2
    exact ⟨[],rfl,rfl⟩
  | cons x l =>
    cases l with
    | nil =>
      obtain ⟨v,r,rfl,q1,rfl⟩:=h2
      exact q1
    | cons y l =>
      have:¬ vs.toArray.size=1:=by simp at hlen ⊢; omega
      rw [dif_neg this]
      exact ⟨vs,rfl,h2⟩
theorem Zt1:∀ {args:List AW} {vs:List Value} (n:Nat),ZcZ X W E M args vs→ZbJ X W E M (args.map .w ++ List.replicate n Zgz) (vs ++ List.replicate n undef)
  | [],vs,n,h=>by
    obtain rfl:vs=[]:=h
    induction n with
    | zero=>rfl
    | succ n ih=>exact ⟨_,_,rfl,ZpU,ih⟩
  | _ :: _,_,n,⟨v,r,e,h1,h2⟩=>by rw [e]; exact ⟨v,_,rfl,h1,Zt1 n h2⟩
theorem ZJd (hsz:∀ b ∈ X,b < W.heap.size):RepM X W [] []:=⟨rfl,List.nodup_nil,fun i b e h=>by simp at h,fun b hb=>by simp [foots] at hb,fun b _=>by simp [foots],hsz⟩
theorem ZjM {L:Nat→List AV→Mem→Za3} {f:FuncId} {fn:Func} {args:List AW} {vs:List Value} {M0:Mem} {E0:Env} {Q:AV→Mem→Prop} (hf:P.funcs[f]?=some fn) (hT:Zr8 X W E0 T) (h:ZB2 T L fn args M0 Q) (hM0:RepM X W E0 M0) (hr:ZcZ X W E0 M0 args vs)
    (hinp:∀ i ∈ T.inp,∃ t xs v c,M0[i]?=some (.row t xs v c none)) :
    Calls P f vs.toArray W (fun e W'=>∃ v E' M' r,e=.returned v∧ZjK T W E0 W' E' M'∧RepM X W' E' M'∧Zcu X W' E' M' r v∧Q r M'):=by
  unfold ZB2 at h
  cases hb:fn.body with
  | none=>rw [hb] at h; exact h.elim
  | some c =>
    rw [hb] at h
    simp only at h
    refine calls_of_wp hf hb (Zt0 (T:=T) (L:=L) (X:=X) (W0:=W) hT c (ZHO fn.ntmps args) M0 _ W E0 _ _ (fun e tm M a W' E' hk hr' hg=>?_) h ⟨hM0,?_,rfl⟩ ⟨Zbe.refl _ _,fun i hi=>?_⟩)
    · have fin:∀ (hk:match ZG1 P tm M fn.results.toList with | some l=>Q (ZJn l) M | none=>False),a.defers=[]∧∃ v,(results fn a.tmps).run P W'=.ok v W'∧∃ v' E' M' r,Ending.returned v=.returned v'∧ZjK T W E0 W' E' M'∧RepM X W' E' M'∧Zcu X W' E' M' r v'∧Q r M':=fun hk=>by
        split at hk
        · rename_i l hl
          obtain ⟨v,h1,h2⟩:=Zy8 hr'.mem hr'.tmps hl
          exact ⟨hr'.dfr,v,h1,v,E',M,_,rfl,hg,hr'.mem,h2,hk⟩
        · exact hk.elim
      cases e with
      | normal=>exact fin hk
      | ret=>exact fin hk
      | _=>exact hk.elim
    · have:=Zt1 (fn.ntmps - vs.length) hr
      have hl:=hr.len
      unfold ZHO
      rw [hl] at this
      have e1:(vs.toArray ++ Array.replicate (fn.ntmps - vs.toArray.size) undef).toList=vs ++ List.replicate (fn.ntmps - args.length) undef:=by simp [hl]
      show ZbJ X W E0 M0 _ (vs.toArray ++ Array.replicate (fn.ntmps - vs.toArray.size) undef).toList
      rw [e1]
      exact this
    · obtain ⟨t,xs,v,c,hi'⟩:=hinp i hi
      exact .inr ⟨t,xs,v,c,none,hi',fun _ e0 he0=>⟨e0,he0,rfl⟩⟩
end
def ZJe {α:Type} (p:α→Prop) (l:List α):Prop:=∀ x ∈ l,p x
def WfT:(t:Ty)→t.den→Prop
  | .int k,x=>(Lit.int k x).wf=true
  | .bool,_=>True
  | .str,s=>ByteArray.size s≤maxLen
  | .opq,_=>True
  | .prod a b,x=>WfT a x.1∧WfT b x.2
  | .list a,xs=>List.length (α:=a.den) xs≤maxLen∧ZJe (α:=a.den) (WfT a) xs
def WfC:AC→Prop
  | .int k x=>(Lit.int k x).wf=true
  | .str s=>s.size≤maxLen
  | .hs .no t xs=>xs.length≤maxLen∧ZJe (WfT t) xs
  | .ep .no t xs _ _=>ZJe (WfT t) xs
  | _=>True
def WfL:List AC→Prop
  | []=>True
  | c :: l=>WfC c∧WfL l
def WfW:AW→Prop
  | .c a=>WfC a
  | .ag l=>WfL l
def WfA:List AW→Prop
  | []=>True
  | x :: l=>WfW x∧WfA l
theorem ZD1 {α:Type} [GoRep α] {W:World} {p:α→Prop} (hp:∀ x cs F,rep W x cs F→p x) {b:Nat}:∀ {xs:List α} {off:Nat} {G:List Nat},Zb8 W b off xs G→∀ x ∈ xs,p x
  | [],_,_,_,x,hx=>by simp at hx
  | y :: xs,_,_,⟨cs,G1,G2,h1,_,h3,_⟩,x,hx=>by
    rcases List.mem_cons.1 hx with rfl | hx
    · exact hp _ _ _ h1
    · exact ZD1 hp h3 x hx
theorem Zp1 {W:World}:∀ (t:Ty) {x:t.den} {cs:List Value} {F:List Nat},rep W x cs F→WfT t x
  | .int _,_,_,_,h=>h.2.1
  | .bool,_,_,_,_=>trivial
  | .str,_,_,_,h=>h.2.1
  | .opq,_,_,_,_=>trivial
  | .prod a b,_,_,_,⟨_,_,_,_,h1,h2,_,_⟩=>⟨Zp1 a h1,Zp1 b h2⟩
  | .list a,xs,_,_,⟨A,c,_,h1,h2,h3⟩=>by
    refine ⟨Nat.le_trans h1 h2,fun x hx=>?_⟩
    rcases h3 with ⟨rfl,_⟩ | ⟨_,b,off,G,_,_,hr⟩
    · simp at hx
    · exact ZD1 (fun x cs F h=>Zp1 a h) hr x hx
section
variable {P:Program} {X:List Nat} {W:World} {E:Env} {M:Mem}
theorem ZD2:∀ {c:AC} {v:Value},Zbm X W E M c v→WfC c
  | .int _ _,_,h=>h.2
  | .bool _,_,_=>trivial
  | .str _,_,h=>h.2
  | .opq _,_,_=>trivial
  | .hs .no t xs,v,⟨_,F,h,_⟩=>Zp1 (.list t) h
  | .hs (.at _ _ _) _ _,_,_=>trivial
  | .bp _ _,_,_=>trivial
  | .ep .no t xs k o,v,⟨_,F,⟨b,off,G,_,_,_,h⟩,_⟩=>fun x hx=>ZD1 (fun x cs F h=>Zp1 t h) h x hx
  | .ep (.at _ _ _) _ _ _ _,_,_=>trivial
  | .row _ _,_,_=>trivial
  | .rp _ _ _ _ _,_,_=>trivial
  | .sl _ _ _ _ _ _,_,_=>trivial
  | .sp _ _ _ _ _ _ _ _ _,_,_=>trivial
  | .tl _ _ _ _,_,_=>trivial
  | .mp _,_,_=>trivial
  | .junk,_,_=>trivial
  | .fn _ _,_,_=>trivial
  | .raw _,_,_=>trivial
theorem Zy9:∀ {l:List AC} {vs:List Value},ZbS X W E M l vs→WfL l
  | [],_,_=>trivial
  | _ :: _,_,⟨_,_,_,h1,h2⟩=>⟨ZD2 h1,Zy9 h2⟩
theorem Zkj:∀ {l:List AW} {vs:List Value},ZcZ X W E M l vs→WfA l
  | [],_,_=>trivial
  | .c _ :: _,_,⟨_,_,_,h1,h2⟩=>⟨ZD2 h1,Zkj h2⟩
  | .ag _ :: _,_,⟨_,_,_,⟨_,_,h1⟩,h2⟩=>⟨Zy9 h1,Zkj h2⟩
theorem ZHC {W0:World} {res r:AV} {new:Mem} {v:Value} {T:Tab P} (hM:RepM X W E M) (hg:Zbe W0 [] W E) (hr:Zcu X W E M r v) (h:ZJo res new r M):∃ E',Zbe W0 [] W E'∧RepM X W E' new∧Zcu X W E' new res v:=by
  obtain ⟨hn,hc⟩:=h
  obtain ⟨us,hus⟩:∃ us,us=(ZlY M new [] r res).used:=⟨_,rfl⟩
  rw [← hus] at hc
  rw [Bool.and_eq_true] at hc
  have hlen:=Nat.eq_of_beq_eq_true hc.1
  obtain ⟨hu,hv⟩:=Zqm (X':=X) (us:=us) (acc:=[]) hM (fun b hb=>.inl hb) (fun q u h=>by simp at h) hn hr (fun q u h=>by rw [hus]; simpa using h)
  rw [← hus] at hu
  have hu:Zcw X X W E M new us 0 us:=hu
  refine ⟨pickE E us,⟨hg.os,hg.tape,hg.output,hg.size,hg.keep,fun b hb=>hg.new b (Zdr b hb),fun i e h=>by simp at h⟩,Znx hM hu hlen hc.2 (fun b hb hf=>hM.xlt b hb (Zdr b hf)) hM.xsz,hv⟩
theorem Zp2:∀ {l:Mem} {k j:Nat} {c:List AC},l[j]?=some (.box c)→k + j ∈ Zt9 k l
  | [],_,_,_,h=>by simp at h
  | .box _ :: l,k,0,c,h=>List.mem_cons_self
  | b :: l,k,j + 1,c,h=>by
    have:=Zp2 (l:=l) (k:=k + 1) (j:=j) (c:=c) (by simpa using h)
    rw [show k + 1 + j=k + (j + 1) by omega] at this
    cases b <;> first | exact List.mem_cons_of_mem _ this | exact this
  | .row _ _ _ _ none :: l,k,0,c,h=>by cases h
  | .mp _ :: l,k,0,c,h=>by cases h
  | .dead :: l,k,0,c,h=>by cases h
theorem Zt2 {us:List (Option Nat)} {l:List Nat} (h:ZII us l=true) {j:Nat} (hj:j ∈ l):us[j]?=some (some j):=by
  have h1:=List.all_eq_true.1 h j hj
  unfold ZD8 at h1
  split at h1
  · rename_i i hi
    rw [hi,Nat.eq_of_beq_eq_true h1]
  · cases h1
theorem Zt3 {X' : List Nat} {new:Mem} {us:List (Option Nat)} (hM:RepM X W E M) (hX:∀ b ∈ X',b ∈ X∨b ∈ foots E):∀ {ps:List (AW × AW)} {acc:List (Option Nat)},(∀ (q:Nat) (u:Option Nat),acc[q]?=some u→us[q]?=some u)→(ZjR M new acc ps).need →
    (∀ (q:Nat) (u:Option Nat),(ZjR M new acc ps).used[q]?=some u→us[acc.length + q]?=some u)→(∀ p ∈ ps,∃ v,Zi3 X W E M p.1 v)→Zcw X X' W E M new us acc.length (ZjR M new acc ps).used
  | [],_,_,_,_,_=>trivial
  | p :: ps,acc,hacc,⟨h1,h2⟩,hus,hv=>by
    have hus:∀ (q:Nat) (u:Option Nat),((Zdn M new acc p.1 p.2).used ++ (ZjR M new (acc ++ (Zdn M new acc p.1 p.2).used) ps).used)[q]?=some u→us[acc.length + q]?=some u:=hus
    have hu1:∀ (q:Nat) (u:Option Nat),(Zdn M new acc p.1 p.2).used[q]?=some u→us[acc.length + q]?=some u:=fun q u hq=>hus q u (by rw [List.getElem?_append_left (List.getElem?_eq_some_iff.1 hq).1]; exact hq)
    have hacc2:∀ (q:Nat) (u:Option Nat),(acc ++ (Zdn M new acc p.1 p.2).used)[q]?=some u→us[q]?=some u:=fun q u hq=>by
      exact Zim
    obtain ⟨v,hv1⟩:=hv p List.mem_cons_self
    obtain ⟨q1,_⟩:=Zqn hM hX hacc h1 hv1 hu1
    have p1:=Zt3 hM hX hacc2 h2 (fun q u hq=>by
      have:=hus ((Zdn M new acc p.1 p.2).used.length + q) u (by rw [List.getElem?_append_right (by omega),Nat.add_sub_cancel_left]; exact hq)
      rwa [List.length_append,Nat.add_assoc]) (fun p hp=>hv p (List.mem_cons_of_mem _ hp))
    rw [List.length_append] at p1
    exact q1.app p1
theorem pairs_name:∀ {ins:List MTy} {k:Nat} {p:AW × AW},p ∈ Zmf k ins→(∃ j,p.1=.c (.bp j 0)∧j < k + (ins.map MTy.nb).sum)∨(∃ j ∈ inpM k ins,p.1=.c (.row j 0))∨p.1=.c (.raw (.slice none 0 0))
  | [],_,_,h=>by simp [Zmf] at h
  | y :: l,k,p,h=>by
    have seq_lt:∀ (n k j:Nat),j ∈ seqN k n→j < k + n:=by
      intro n
      induction n with
      | zero=>intro k j h; simp [seqN] at h
      | succ n ih =>
        intro k j h
        rcases List.mem_cons.1 h with rfl | h
        · omega
        · have:=ih (k + 1) j h; omega
    have up:∀ {n:Nat} {inp:List Nat},n=y.nb→inpM k (y :: l)=inp ++ inpM (k + n) l→p ∈ Zmf (k + n) l→(∃ j,p.1=.c (.bp j 0)∧j < k + ((y :: l).map MTy.nb).sum)∨(∃ j ∈ inpM k (y :: l),p.1=.c (.row j 0))∨p.1=.c (.raw (.slice none 0 0)):=fun {n inp} hn hi hp=>by
      rcases pairs_name hp with ⟨j,h1,h2⟩ | ⟨j,h1,h2⟩ | h
      · exact .inl ⟨j,h1,by rw [List.map_cons,List.sum_cons,← hn]; omega⟩
      · exact .inr (.inl ⟨j,by rw [hi]; exact List.mem_append_right _ h1,h2⟩)
      · exact .inr (.inr h)
    cases y with
    | a y=>exact up (n:=0) (inp:=[]) rfl rfl h
    | m t =>
      exact Zvx
    | e t =>
      rcases List.mem_cons.1 h with rfl | h
      · exact .inr (.inl ⟨k,List.mem_cons_self,rfl⟩)
      · exact up (inp:=[k]) rfl rfl h
    | q g t =>
      rcases List.mem_append.1 h with h | h
      · obtain ⟨j,hj,rfl⟩:=List.mem_map.1 h
        exact .inr (.inl ⟨j,List.mem_append_left _ hj,rfl⟩)
      · exact up (inp:=seqN k t.nl) rfl rfl h
    | g g t =>
      rcases List.mem_append.1 h with h | h
      · obtain ⟨j,hj,rfl⟩:=List.mem_map.1 h
        exact .inr (.inr rfl)
      · exact up (inp:=[]) rfl rfl h
    | b t =>
      exact Zvx
    | f g c =>
      rcases List.mem_append.1 h with h | h
      · obtain ⟨j,hj,rfl⟩:=List.mem_map.1 h
        refine .inl ⟨j,rfl,?_⟩
        have:=seq_lt _ _ _ hj
        rw [List.map_cons,List.sum_cons]
        show j < k + (c.length + _)
        omega
      · exact up (inp:=[]) rfl rfl h
theorem ZrT:∀ {l:List ZIF} {x:ZHH l},(ZJf l x).length=l.length
  | [],_=>rfl
  | .b t :: l,x=>congrArg (· + 1) (ZrT (l:=l) (x:=x.2))
  | .ptr j :: l,x=>congrArg (· + 1) (ZrT (l:=l) (x:=(x:ZHH l)))
theorem Zgm:∀ {t:Ty} {x:t.den},(Zic t x).length=t.nl
  | .int _,_=>rfl
  | .bool,_=>rfl
  | .str,_=>rfl
  | .opq,_=>rfl
  | .prod a b,x=>(List.length_append).trans (congr (congrArg Nat.add (Zgm (t:=a))) (Zgm (t:=b)))
  | .list _,_=>rfl
theorem Zkk {k:Nat}:∀ {y:MTy} {x:y.D},(preM1 k y x).length=y.nb
  | .a _,_=>rfl
  | .m t,x=>congrArg (· + 1) (Zgm (t:=t))
  | .e _,_=>rfl
  | .q _ t,x=>Zgm (t:=t)
  | .g _ t,x=>Zgm (t:=t)
  | .b _,_=>rfl
  | .f _ l,x=>ZrT (l:=l)
theorem ZAf:∀ {ins:List MTy} {k:Nat} {x:MD ins},(ZjV k ins x).length=(ins.map MTy.nb).sum
  | [],_,_=>rfl
  | y :: l,k,x=>by
    show (preM1 k y x.1 ++ ZjV (k + y.nb) l x.2).length=_
    rw [List.length_append,Zkk,ZAf,List.map_cons,List.sum_cons]
theorem Zli:∀ {t:Ty} {x:t.den} {b:Blk},b ∈ Zic t x→∃ (t' : Ty) (xs:List t'.den),b=.row t' xs 0 0 none
  | .int _,_,_,h=>by simp [Zic] at h
  | .bool,_,_,h=>by simp [Zic] at h
  | .str,_,_,h=>by simp [Zic] at h
  | .opq,_,_,h=>by simp [Zic] at h
  | .prod a b,x,_,h=>(List.mem_append.1 h).elim (Zli (t:=a)) (Zli (t:=b))
  | .list a,xs,_,h=>⟨a,xs,List.mem_singleton.1 h⟩
theorem ZAg:∀ {n k j:Nat},j ∈ seqN k n→k≤j∧j < k + n
  | 0,_,_,h=>by simp [seqN] at h
  | n + 1,k,j,h=>by
    rcases List.mem_cons.1 h with rfl | h
    · omega
    · have:=ZAg h; omega
theorem ZrU:∀ {ins:List MTy} {k:Nat} {x:MD ins} {i:Nat},i ∈ inpM k ins→k≤i∧∃ (t:Ty) (xs:List t.den) (v c:Nat),(ZjV k ins x)[i - k]?=some (.row t xs v c none)
  | [],_,_,_,h=>by simp [inpM] at h
  | y :: l,k,x,i,h=>by
    have up:i ∈ inpM (k + y.nb) l→k≤i∧∃ (t:Ty) (xs:List t.den) (v c:Nat),(ZjV k (y :: l) x)[i - k]?=some (.row t xs v c none):=fun h=>by
      obtain ⟨h1,t,xs,v,c,h2⟩:=ZrU (x:=x.2) h
      refine ⟨by omega,t,xs,v,c,?_⟩
      show (preM1 k y x.1 ++ ZjV (k + y.nb) l x.2)[i - k]?=_
      rw [List.getElem?_append_right (by rw [Zkk]; omega),Zkk,← h2]
      congr 1
      omega
    have here:i ∈ seqN k y.nb→(∀ b ∈ preM1 k y x.1,∃ (t' : Ty) (xs:List t'.den),b=.row t' xs 0 0 none)→k≤i∧∃ (t:Ty) (xs:List t.den) (v c:Nat),(ZjV k (y :: l) x)[i - k]?=some (.row t xs v c none):=fun h hb=>by
      obtain ⟨h1,h2⟩:=ZAg h
      refine ⟨h1,?_⟩
      have hl:i - k < (preM1 k y x.1).length:=by rw [Zkk]; omega
      obtain ⟨t,xs,e⟩:=hb _ (List.getElem_mem hl)
      refine ⟨t,xs,0,0,?_⟩
      show (preM1 k y x.1 ++ ZjV (k + y.nb) l x.2)[i - k]?=_
      rw [List.getElem?_append_left hl,List.getElem?_eq_getElem hl,e]
    cases y with
    | e t =>
      rcases List.mem_cons.1 h with h | h
      · exact here (by rw [h]; exact List.mem_cons_self) (fun b hb=>⟨t,_,List.mem_singleton.1 hb⟩)
      · exact up h
    | q g t =>
      rcases List.mem_append.1 h with h | h
      · exact here h (fun b hb=>Zli (t:=t) hb)
      · exact up h
    | a _=>exact up h
    | m _=>exact up h
    | g _ _=>exact up h
    | b _=>exact up h
    | f _ _=>exact up h
def WfB:Blk→Prop
  | .row t xs _ _ none=>WfT (.list t) xs
  | .box l=>WfL l
  | _=>True
def WfM:Mem→Prop
  | []=>True
  | b :: l=>WfB b∧WfM l
theorem ZFP {t:Ty} {xs:List t.den} {v:Value} {F:List Nat} (h:Zbz W (ZaT W t) t.n xs v F):WfT (.list t) xs:=by
  obtain ⟨F',h1,_⟩:=ZaT.rep (.list t) (x:=xs) (cs:=[v]) ⟨v,rfl,h⟩
  exact Zp1 (.list t) h1
theorem ZHD {b:Blk} {e:EB} (h:ZH3 X W E M b e):WfB b:=by
  cases b with
  | row t xs v c hh =>
    cases hh with
    | none=>exact ZFP h
    | some _=>trivial
  | box l=>obtain ⟨_,cs,T,_,h⟩:=h; exact Zy9 h
  | mp _=>trivial
  | dead=>trivial
theorem ZHE (hM:RepM X W E M):WfM M:=by
  have:∀ b ∈ M,WfB b:=fun b hb=>by
    obtain ⟨i,hi⟩:=List.mem_iff_getElem?.1 hb
    have hl:i < E.length:=by rw [← hM.len]; exact (List.getElem?_eq_some_iff.1 hi).1
    exact ZHD (hM.at_ i b _ hi (List.getElem?_eq_getElem hl))
  clear hM
  induction M with
  | nil=>trivial
  | cons b l ih=>exact ⟨this b List.mem_cons_self,ih (fun b hb=>this b (List.mem_cons_of_mem _ hb))⟩
theorem Zc2 {T:Tab P} {L:Nat→List AV→Mem→Za3} {f:FuncId} {fn:Func} {args:List AW} {res:AV} {new:Mem} (hf:P.funcs[f]?=some fn) (hC:(T.C=none∧T.n0=0)∧T.inp=[]) (h:WfA args→ZB2 T L fn args [] (ZJo res new)):Zai P f args res new:=fun X W vs hsz hgl hr =>
  (ZjM (E0:=[]) hf ⟨.inl hC.1.1,hC.1.2,(fun i hi=>by rw [hC.2] at hi; cases hi),hgl⟩ (h (Zkj hr)) (ZJd hsz) hr (fun i hi=>by rw [hC.2] at hi; cases hi)).mono fun e W' hq=>by
    exact ZvH
theorem Zdk {T:Tab P} {L:Nat→List AV→Mem→Za3} {f:FuncId} {fn:Func} {args:List AW} {res:AV} {vs:List Value} (hf:P.funcs[f]?=some fn) (hn0:T.n0=0∧T.inp=[]) (hT:∀ c,T.C=some c→ZJh X W c) (hsz:∀ b ∈ X,b < W.heap.size) (hgl:Zjd W []) (hr:ZcZ X W [] [] args vs)
    (h:WfA args→ZB2 T L fn args [] (ZJo res [])) :
    Calls P f vs.toArray W (fun e W'=>∃ v E',e=.returned v∧Zbe W [] W' E'∧RepM X W' E' []∧Zcu X W' E' [] res v) :=
  (ZjM (E0:=[]) hf ⟨.inr ⟨rfl,hT⟩,hn0.1,(fun i hi=>by rw [hn0.2] at hi; cases hi),hgl⟩ (h (Zkj hr)) (ZJd hsz) hr (fun i hi=>by rw [hn0.2] at hi; cases hi)).mono fun e W' hq=>by
    exact ZvH
theorem ZD3 {T:Tab P} {L:Nat→List AV→Mem→Za3} {f:FuncId} {fn:Func} {ins:List MTy} {x y:MD ins} {res:AV} {new:Mem} (hf:P.funcs[f]?=some fn) (hC:T.C=none) (hn0:T.n0=(ZjV 0 ins x).length) (hinp:T.inp=inpM 0 ins)
    (hsame:Zfq (ZjV 0 ins x) (ZjQ 0 ins y ++ new)=true)
    (h:WfA (Zfo 0 ins x)→WfM (ZjV 0 ins x)→ZB2 T L fn (Zfo 0 ins x) (ZjV 0 ins x) (ZKx ins (ZjQ 0 ins y ++ new) res)):Zkz P f (Zfo 0 ins x) (ZjV 0 ins x) (ZjQ 0 ins y ++ new) (inpM 0 ins) res:=fun X W E0 vs hgl hM0 hr=>by
  have hrow:∀ i ∈ T.inp,∃ (t:Ty) (xs:List t.den) (v c:Nat),(ZjV 0 ins x)[i]?=some (.row t xs v c none):=fun i hi=>by
    rw [hinp] at hi
    obtain ⟨_,h⟩:=ZrU (x:=x) hi
    exact h
  have hl0:(ZjV 0 ins x).length=E0.length:=hM0.len
  refine (ZjM (T:=T) hf ⟨.inl hC,by rw [hn0,hl0],(fun i hi=>by
    obtain ⟨t,xs,v,c,h⟩:=hrow i hi
    rw [← hl0]
    exact (List.getElem?_eq_some_iff.1 h).1),hgl⟩ (h (Zkj hr) (ZHE hM0)) hM0 hr hrow).mono fun e W' hq=>?_
  obtain ⟨v,E',M',r,rfl,hs,m,hv,hn,hchk⟩:=hq
  obtain ⟨qm,hqm⟩:∃ qm,qm=ZjQ 0 ins y ++ new:=⟨_,rfl⟩
  rw [← hqm] at hn hchk hsame ⊢
  obtain ⟨us1,hus1⟩:∃ us1,us1=(ZjR M' qm [] (Zmf 0 ins)).used:=⟨_,rfl⟩
  rw [← hus1] at hn hchk
  obtain ⟨us2,hus2⟩:∃ us2,us2=(ZlY M' qm us1 r res).used:=⟨_,rfl⟩
  rw [← hus2] at hchk
  simp only [Bool.and_eq_true] at hchk
  obtain ⟨⟨c1,c2⟩,c3,c4⟩:=hchk
  have c1:=Nat.eq_of_beq_eq_true c1
  have hlE:∀ j,j < (ZjV 0 ins x).length→∃ ej e0,E'[j]?=some ej∧E0[j]?=some e0∧ej.blk=e0.blk:=fun j hj=>by
    have h0:E0[j]?=some (E0[j]'(by omega)):=List.getElem?_eq_getElem (by omega)
    obtain ⟨ej,q1,q2⟩:=hs.g.blk j _ h0
    exact ⟨ej,_,q1,h0,q2⟩
  have hu1:Zcw X X W' E' M' qm (us1 ++ us2) 0 us1:=by
    have:=Zt3 (X':=X) (us:=us1 ++ us2) (acc:=[]) m (fun b hb=>.inl hb) (fun q u h=>by simp at h) hn.1 (fun q u h=>by rw [← hus1] at h; rw [List.length_nil,Nat.zero_add,List.getElem?_append_left (List.getElem?_eq_some_iff.1 h).1]; exact h) (fun p hp=>by
      rcases pairs_name hp with ⟨j,h1,h2⟩ | ⟨j,h1,h2⟩ | h1
      · rw [h1]
        obtain ⟨ej,e0,q1,_⟩:=hlE j (by rw [ZAf]; omega)
        exact ⟨_,ej,q1,rfl⟩
      · rw [h2]
        have hv0:=List.all_eq_true.1 c4 j h1
        rcases hs.kept j (by rw [hinp]; exact h1) with hd | ⟨t,xs,v',c,hh,k1,_⟩
        · rw [hd] at hv0; cases hv0
        · rw [k1] at hv0
          cases hh with
          | some _=>cases hv0
          | none =>
          obtain rfl:=Nat.eq_of_beq_eq_true (show Nat.beq v' 0=true from hv0)
          obtain ⟨_,t2,xs2,v2,c2,h3⟩:=ZrU (x:=x) h1
          obtain ⟨ej,e0,q1,_⟩:=hlE j (by have:=(List.getElem?_eq_some_iff.1 h3).1; omega)
          have hol:Zbz W' (ZaT W' t) t.n xs ej.val ej.foot:=m.at_ j _ ej k1 q1
          obtain ⟨A,c',hsl⟩:=Zcs hol
          refine ⟨ej.val,by rw [hsl]; rfl,?_⟩
          unfold ZbL
          rw [k1]
          exact ⟨Nat.le_refl _,fun _=>⟨ej,q1,rfl⟩⟩
      · rw [h1]
        exact ⟨.slice none 0 0,rfl,rfl⟩)
    rw [← hus1] at this
    exact this
  obtain ⟨hu2,hv2⟩:=Zqm (X':=X) (us:=us1 ++ us2) (acc:=us1) m (fun b hb=>.inl hb) (fun q u h=>by rw [List.getElem?_append_left (List.getElem?_eq_some_iff.1 h).1]; exact h) hn.2 hv (fun q u h=>by rw [← hus2] at h; rw [List.getElem?_append_right (by omega),Nat.add_sub_cancel_left]; exact h)
  rw [← hus2] at hu2
  have hu:Zcw X X W' E' M' qm (us1 ++ us2) 0 (us1 ++ us2):=hu1.app (by rw [Nat.zero_add]; exact hu2)
  refine ⟨v,pickE E' (us1 ++ us2),rfl,⟨hs.g.os,hs.g.tape,hs.g.output,hs.g.size,hs.g.keep,fun b hb=>hs.g.new b (Zdr b hb)⟩,fun i l e0 hb he0=>?_,fun i hi e0 he0=>?_,Znx m hu c1 c2 (fun b hb hf=>m.xlt b hb (Zdr b hf)) m.xsz,hv2⟩
  · have hq:∃ l',qm[i]?=some (.box l'):=ZjH hsame hb
    obtain ⟨l',hq⟩:=hq
    have hin:i ∈ Zt9 0 qm:=by have:=Zp2 (k:=0) hq; rwa [Nat.zero_add] at this
    have hus:=Zt2 c3 (List.mem_append_left _ hin)
    obtain ⟨ej,e0',q1,q2,q3⟩:=hlE i (List.getElem?_eq_some_iff.1 hb).1
    rw [he0] at q2
    obtain rfl:=Option.some.inj q2
    exact ⟨ej,Zdz hus q1,q3⟩
  · have hus:=Zt2 c3 (List.mem_append_right _ hi)
    have hv0:=List.all_eq_true.1 c4 i hi
    rcases hs.kept i (by rw [hinp]; exact hi) with hd | ⟨t,xs,v',c,hh,k1,k2⟩
    · rw [hd] at hv0; cases hv0
    · rw [k1] at hv0
      cases hh with
      | some _=>cases hv0
      | none =>
      obtain rfl:=Nat.eq_of_beq_eq_true (show Nat.beq v' 0=true from hv0)
      obtain ⟨ej,q1,q2⟩:=k2 rfl e0 he0
      exact ⟨ej,Zdz hus q1,q2⟩
theorem RV.of_b {f:FuncId} {args:List AW} {c:AC} {w:World} {vs:List Value} {u:Value} (h:Zai P f args (.c c) []) (hgl:Zjd w []) (hr:ZcZ [] w [] [] args vs) (hc:∀ W' E' v,Zbm [] W' E' [] c v→v=u):Calls P f vs.toArray w (RV u w) :=
  (h [] w vs (by simp) hgl hr).mono fun e W' hq=>by
    obtain ⟨v,E',rfl,g,m,hv⟩:=hq
    obtain rfl:=hc _ _ _ hv
    exact ⟨rfl,Zip g.below⟩
theorem ZD4 {w:World} (t:Ty) {x:t.den} {cs:List Value} (h:ZG7 w x cs):Zi3 [] w [] [] (.ag (cellsOf t x)) (.agg cs.toArray):=by
  obtain ⟨F,h⟩:=h
  exact ⟨cs,rfl,ZcE (L:=.no) t h (fun b hb=>⟨by simp [foots],GoRep.lt h b hb⟩)⟩
end
theorem Zmt {b:Bool} {p q:Prop}:(bif b then p else q)↔((b=true→p)∧(b=false→q)):=by cases b <;> simp
section
variable {P:Program} {X X2:List Nat} {W W' : World} {E:Env} {M:Mem}
def Ty.quo:Ty→Ty
  | .int k=>.int k
  | .bool=>.bool
  | .str=>.str
  | .opq=>.opq
  | .prod a b=>.prod a.quo b.quo
  | .list _=>.opq
def ZwD (W:World):(t:Ty)→t.den→t.quo.den→List Nat→Prop
  | .int _,x,q,F=>@Eq Int x q∧F=[]
  | .bool,x,q,F=>@Eq Bool x q∧F=[]
  | .str,x,q,F=>@Eq ByteArray x q∧F=[]
  | .opq,x,q,F=>@Eq Value x q∧F=[]
  | .prod a b,x,q,F=>∃ F1 F2,ZwD W a x.1 q.1 F1∧ZwD W b x.2 q.2 F2∧F=F1 ++ F2
  | .list a,xs,q,F=>Zbz W (ZaT W a) a.n xs q F
theorem ZFQ:∀ t:Ty,t.quo.n=t.n
  | .int _=>rfl
  | .bool=>rfl
  | .str=>rfl
  | .opq=>rfl
  | .prod a b=>by
    show a.quo.n + b.quo.n=a.n + b.n
    rw [ZFQ a,ZFQ b]
  | .list _=>rfl
theorem ZrV:∀ t:Ty,t.quo.flat=true
  | .int _=>rfl
  | .bool=>rfl
  | .str=>rfl
  | .opq=>rfl
  | .prod a b=>by
    show (a.quo.flat && b.quo.flat)=true
    rw [ZrV a,ZrV b]
    rfl
  | .list _=>rfl
theorem ZrW:∀ (t:Ty) {x:t.den} {cs:List Value} {F:List Nat},ZaT W t x cs F→∃ q:t.quo.den,ZaT W t.quo q cs []∧ZwD W t x q F
  | .int _,x,_,_,h=>⟨x,⟨h.1,h.2.1,rfl⟩,rfl,h.2.2⟩
  | .bool,x,_,_,h=>⟨x,⟨h.1,rfl⟩,rfl,h.2⟩
  | .str,x,_,_,h=>⟨x,⟨h.1,h.2.1,rfl⟩,rfl,h.2.2⟩
  | .opq,x,_,_,h=>⟨x,⟨h.1,h.2.1,rfl⟩,rfl,h.2.2⟩
  | .prod a b,x,_,_,⟨c1,c2,F1,F2,h1,h2,e1,e2⟩=>by
    obtain ⟨q1,r1,k1⟩:=ZrW a h1
    obtain ⟨q2,r2,k2⟩:=ZrW b h2
    exact ⟨(q1,q2),⟨c1,c2,[],[],r1,r2,e1,rfl⟩,F1,F2,k1,k2,e2⟩
  | .list a,xs,_,_,⟨v,e,h⟩=>by
    obtain ⟨T,cells,G,h0,h1,h2⟩:=h
    exact ⟨v,⟨e,Zc1 h0,rfl⟩,T,cells,G,h0,h1,h2⟩
theorem ZnN:∀ (t:Ty) {x:t.den} {q:t.quo.den} {cs:List Value} {F:List Nat},ZaT W t.quo q cs []→ZwD W t x q F→ZaT W t x cs F
  | .int _,x,q,_,_,h,⟨k1,k2⟩=>by
    exact ZoU
  | .bool,x,q,_,_,h,⟨k1,k2⟩=>by
    have k1:x=q:=k1
    subst k1
    exact ⟨h.1,k2⟩
  | .str,x,q,_,_,h,⟨k1,k2⟩=>by
    exact ZoU
  | .opq,x,q,_,_,h,⟨k1,k2⟩=>by
    exact ZoU
  | .prod a b,x,q,_,_,⟨c1,c2,G1,G2,h1,h2,e1,e2⟩,⟨F1,F2,k1,k2,e3⟩=>by
    have e2:[]=G1 ++ G2:=e2
    obtain ⟨rfl,rfl⟩:=List.append_eq_nil_iff.1 e2.symm
    exact ⟨c1,c2,F1,F2,ZnN a h1 k1,ZnN b h2 k2,e1,e3⟩
  | .list a,xs,q,_,_,h,k=>⟨q,h.1,k⟩
theorem Zbz.keep2 {t:Ty} {xs:List t.den} {v:Value} {F:List Nat} (h:Zbz W (ZaT W t) t.n xs v F) (hk:∀ b ∈ F,W'.heap[b]?=W.heap[b]?):Zbz W' (ZaT W' t) t.n xs v F:=Zbz.keep h hk
theorem ZwD.keep:∀ (t:Ty) {x:t.den} {q:t.quo.den} {F:List Nat},ZwD W t x q F→(∀ b ∈ F,W'.heap[b]?=W.heap[b]?)→ZwD W' t x q F
  | .int _,_,_,_,h,_=>h
  | .bool,_,_,_,h,_=>h
  | .str,_,_,_,h,_=>h
  | .opq,_,_,_,h,_=>h
  | .prod a b,_,_,_,⟨F1,F2,h1,h2,e⟩,hk=>⟨F1,F2,ZwD.keep a h1 (fun p hp=>hk p (by rw [e]; simp [hp])),ZwD.keep b h2 (fun p hp=>hk p (by rw [e]; simp [hp])),e⟩
  | .list a,_,_,_,h,hk=>Zbz.keep2 (t:=a) h hk
def Zci (W:World) (t:Ty):List t.den→List t.quo.den→List Nat→Prop
  | [],[],G=>G=[]
  | x :: xs,q :: qs,G=>∃ G1 G2,ZwD W t x q G1∧Zci W t xs qs G2∧G=G1 ++ G2
  | _,_,_=>False
theorem ZrX {t:Ty}:∀ {xs:List t.den} {cells:List Value} {G:List Nat},Zbi (ZaT W t) xs cells G→∃ qs:List t.quo.den,Zbi (ZaT W t.quo) qs cells []∧Zci W t xs qs G
  | [],_,_,h=>⟨[],⟨h.1,rfl⟩,h.2⟩
  | _ :: _,_,_,⟨c1,c2,G1,G2,h1,h2,e1,e2⟩=>by
    obtain ⟨q,r1,k1⟩:=ZrW t h1
    obtain ⟨qs,r2,k2⟩:=ZrX h2
    exact ⟨q :: qs,⟨c1,c2,[],[],r1,r2,e1,rfl⟩,G1,G2,k1,k2,e2⟩
theorem ZnO {t:Ty}:∀ {xs:List t.den} {qs:List t.quo.den} {cells:List Value} {G:List Nat},Zbi (ZaT W t.quo) qs cells []→Zci W t xs qs G→Zbi (ZaT W t) xs cells G
  | [],[],_,_,h,k=>⟨h.1,k⟩
  | [],_ :: _,_,_,_,k=>k.elim
  | _ :: _,[],_,_,_,k=>k.elim
  | _ :: _,_ :: _,_,_,⟨c1,c2,H1,H2,h1,h2,e1,e2⟩,⟨G1,G2,k1,k2,e3⟩=>by
    obtain ⟨rfl,rfl⟩:=List.append_eq_nil_iff.1 e2.symm
    exact ⟨c1,c2,G1,G2,ZnN t h1 k1,ZnO h2 k2,e1,e3⟩
theorem Zci.app {t:Ty}:∀ {xs ys:List t.den} {qs rs:List t.quo.den} {G H:List Nat},Zci W t xs qs G→Zci W t ys rs H→Zci W t (xs ++ ys) (qs ++ rs) (G ++ H)
  | [],_,[],_,_,_,h,k=>by
    obtain rfl:_=[]:=h
    exact k
  | [],_,_ :: _,_,_,_,h,_=>h.elim
  | _ :: _,_,[],_,_,_,h,_=>h.elim
  | _ :: _,_,_ :: _,_,_,_,⟨G1,G2,h1,h2,e⟩,k=>⟨G1,_,h1,Zci.app h2 k,by rw [e,List.append_assoc]⟩
theorem Zci.split {t:Ty}:∀ (k:Nat) {xs:List t.den} {qs:List t.quo.den} {G:List Nat},Zci W t xs qs G→∃ G1 G2,G=G1 ++ G2∧Zci W t (xs.take k) (qs.take k) G1∧Zci W t (xs.drop k) (qs.drop k) G2
  | 0,_,_,G,h=>⟨[],G,rfl,rfl,h⟩
  | _ + 1,[],[],G,h=>⟨[],G,rfl,rfl,h⟩
  | _ + 1,[],_ :: _,_,h=>h.elim
  | _ + 1,_ :: _,[],_,h=>h.elim
  | k + 1,_ :: _,_ :: _,_,⟨G1,G2,h1,h2,e⟩=>by
    obtain ⟨A,B,e1,q1,q2⟩:=Zci.split k h2
    exact ⟨G1 ++ A,B,by rw [e,e1,List.append_assoc],⟨G1,A,h1,q1,rfl⟩,q2⟩
theorem Zci.out {t:Ty} (k:Nat) {xs:List t.den} {qs:List t.quo.den} {G:List Nat} (h:Zci W t xs qs G):∃ G1 Gd G3,G=G1 ++ (Gd ++ G3)∧Zci W t (xs.take k ++ xs.drop (k + 1)) (qs.take k ++ qs.drop (k + 1)) (G1 ++ G3):=by
  obtain ⟨G1,G2,e1,q1,q2⟩:=h.split k
  obtain ⟨Gd,G3,e2,q3,q4⟩:=q2.split 1
  rw [List.drop_drop,List.drop_drop] at q4
  exact ⟨G1,Gd,G3,by rw [e1,e2],q1.app q4⟩
theorem Zci.len {t:Ty}:∀ {xs:List t.den} {qs:List t.quo.den} {G:List Nat},Zci W t xs qs G→qs.length=xs.length
  | [],[],_,_=>rfl
  | [],_ :: _,_,h=>h.elim
  | _ :: _,[],_,h=>h.elim
  | _ :: _,_ :: _,_,⟨_,_,_,h,_⟩=>by rw [List.length_cons,List.length_cons,Zci.len h]
theorem Zci.keep {t:Ty}:∀ {xs:List t.den} {qs:List t.quo.den} {G:List Nat},Zci W t xs qs G→(∀ b ∈ G,W'.heap[b]?=W.heap[b]?)→Zci W' t xs qs G
  | [],[],_,h,_=>h
  | [],_ :: _,_,h,_=>h.elim
  | _ :: _,[],_,h,_=>h.elim
  | _ :: _,_ :: _,_,⟨G1,G2,h1,h2,e⟩,hk=>⟨G1,G2,ZwD.keep t h1 (fun p hp=>hk p (by rw [e]; simp [hp])),h2.keep (fun p hp=>hk p (by rw [e]; simp [hp])),e⟩
theorem Zci.map {t:Ty} {β:Type} (f:t.den→β) (g:t.quo.den→β) (hfg:∀ x q F,ZwD W t x q F→g q=f x):∀ {xs:List t.den} {qs:List t.quo.den} {G:List Nat},Zci W t xs qs G→qs.map g=xs.map f
  | [],[],_,_=>rfl
  | [],_ :: _,_,h=>h.elim
  | _ :: _,[],_,h=>h.elim
  | _ :: _,_ :: _,_,⟨_,_,h1,h2,_⟩=>by rw [List.map_cons,List.map_cons,hfg _ _ _ h1,Zci.map f g hfg h2]
theorem ZnP {t:Ty} {xs:List t.den} {v:Value} {F:List Nat} (h:Zbz W (ZaT W t) t.n xs v F):∃ (qs:List t.quo.den) (G:List Nat),F=v.ownBlock.toList ++ G∧Zbz W (ZaT W t.quo) t.quo.n qs v v.ownBlock.toList∧Zci W t xs qs G:=by
  obtain ⟨T,cells,G,h0,h1,h2⟩:=h
  obtain ⟨qs,r1,r2⟩:=ZrX h1
  exact ⟨qs,G,h2,⟨T,cells,[],by rw [ZFQ,r2.len]; exact h0,r1,by simp⟩,r2⟩
theorem ZBW {t:Ty} {xs:List t.den} {qs:List t.quo.den} {v:Value} {F G:List Nat} (h:Zbz W (ZaT W t.quo) t.quo.n qs v F) (k:Zci W t xs qs G):Zbz W (ZaT W t) t.n xs v (F ++ G)∧F=v.ownBlock.toList:=by
  obtain ⟨T,cells,G0,h0,h1,h2⟩:=h
  have e0:G0=[]:=by
    have hz:=h1.all (Q:=fun _=>False) (fun x cs F h b hb=>by rw [ZkJ t.quo (ZrV t) h] at hb; cases hb)
    cases G0 with
    | nil=>rfl
    | cons b l=>exact (hz b (by simp)).elim
  subst e0
  rw [List.append_nil] at h2
  rw [ZFQ,k.len] at h0
  exact ⟨⟨T,cells,G,h0,ZnO h1 k,by rw [h2]⟩,h2⟩
theorem RepM.row {i:Nat} {t:Ty} {xs:List t.den} {v c:Nat} {e:EB} (hM:RepM X W E M) (hi:M[i]?=some (.row t xs v c none)) (he:E[i]?=some e):Zbz W (ZaT W t) t.n xs e.val e.foot:=hM.at_ i _ e hi he
theorem Zmu {t:Ty} {qs:List t.quo.den} {v:Value} (h:Zbz W (ZaT W t.quo) t.quo.n qs v v.ownBlock.toList) (hx:∀ b ∈ v.ownBlock.toList,b ∉ X2):Zbm X2 W [] [] (.hs .no t.quo qs) v:=by
  obtain ⟨F',⟨A,c,e1,hs⟩,hF⟩:=ZaT.rep (.list t.quo) (x:=qs) (cs:=[v]) (F:=v.ownBlock.toList) ⟨v,rfl,h⟩
  have hlt:=ZaT.lt (.list t.quo) (x:=qs) (cs:=[v]) (F:=v.ownBlock.toList) ⟨v,rfl,h⟩
  have e2:v=.slice A qs.length c:=by simpa using e1
  refine ⟨by rw [e2]; rfl,F',⟨A,c,by rw [e2],hs⟩,fun b hb=>⟨⟨by simp [foots],hx b (hF b hb)⟩,hlt b (hF b hb)⟩⟩
def ZE0 (n:Nat):Env:=List.replicate n ⟨0, .slice none 0 0,[]⟩
theorem ZBX (n:Nat):foots (ZE0 n)=[]:=by
  unfold foots ZE0
  rw [List.flatMap_replicate]
  simp
theorem ZD5 {pm:Mem} {t:Ty} {ts:List Ty} {E' : Env} {v:Value} {rs:List t.quo.den} {ys:List t.den} {G:List Nat} (hM:RepM X W E pm) (hg:Zbe W [] W' E') (hm:RepM X2 W' E' [.row t.quo rs 0 0 none])
    (hv:Zbm X2 W' E' [.row t.quo rs 0 0 none] (.row 0 0) v) (hX:∀ b ∈ X,b ∈ X2) (hq:Zci W t ys rs G) (hn:G.Nodup) (hG:∀ b ∈ G,b ∈ foots E) :
    ∃ E2,ZHJ W E W' E2∧RepM X W' E2 (ts.map (fun a=>Blk.row a [] 0 0 none) ++ [.row t ys 0 0 none])∧Zbm X W' E2 (ts.map (fun a=>Blk.row a [] 0 0 none) ++ [.row t ys 0 0 none]) (.row ts.length 0) v:=by
  have hl:E'.length=1:=by rw [← hm.len]; rfl
  obtain ⟨e1,rfl⟩:∃ e1,E'=[e1]:=by
    match E',hl with
    | [e],_=>exact ⟨e,rfl⟩
  have hrow:Zbz W' (ZaT W' t.quo) t.quo.n rs e1.val e1.foot:=hm.row (i:=0) rfl rfl
  have hve:v=e1.val:=by
    have:=hv.2
    unfold ZbL at this
    obtain ⟨e,he,h⟩:=this.2 rfl
    obtain rfl:e1=e:=Option.some.inj he
    exact h
  have hGlt:∀ b ∈ G,b < W.heap.size:=fun b hb=>hM.lt b (hG b hb)
  have hq' : Zci W' t ys rs G:=hq.keep (fun b hb=>hg.keep b (hGlt b hb) (by simp [foots]))
  obtain ⟨ho,hf⟩:=ZBW hrow hq'
  have hfe:∀ b ∈ e1.foot,W.heap.size≤b:=fun b hb=>(hg.new b (by simp [foots,hb])).resolve_left (by simp [foots])
  have hfoot:foots (ZE0 ts.length ++ [⟨0,e1.val,e1.foot ++ G⟩])=e1.foot ++ G:=by rw [Za7,ZBX]; simp [foots]
  have hlenE:(ZE0 ts.length).length=ts.length:=by simp [ZE0]
  refine ⟨ZE0 ts.length ++ [⟨0,e1.val,e1.foot ++ G⟩],⟨hg.os,hg.tape,hg.output,hg.size,fun b hb _=>hg.keep b hb (by simp [foots]),fun b hb=>?_⟩,⟨by simp [ZE0],?_,fun i b e hb he=>?_,fun b hb=>?_,fun b hb=>?_,fun b hb=>?_⟩,?_⟩
  · rw [hfoot] at hb
    rcases List.mem_append.1 hb with hb | hb
    · exact .inr (hfe b hb)
    · exact .inl (hG b hb)
  · rw [hfoot,List.nodup_append]
    refine ⟨?_,hn,fun a ha b hb e=>?_⟩
    · have:=hm.nodup
      simpa [foots] using this
    · subst e
      have:=hfe a ha
      have:=hGlt a hb
      omega
  · by_cases hi:i < ts.length
    · rw [List.getElem?_append_left (by simpa using hi),List.getElem?_map] at hb
      rw [List.getElem?_append_left (by rw [hlenE]; exact hi)] at he
      have he:e=⟨0, .slice none 0 0,[]⟩:=by
        unfold ZE0 at he
        rw [List.getElem?_replicate,if_pos hi] at he
        exact (Option.some.inj he).symm
      subst he
      rw [List.getElem?_eq_getElem hi] at hb
      obtain rfl:=Option.some.inj hb
      exact ⟨0,[],[],World.ownsRow_nil W' 0 0 _,⟨rfl,rfl⟩,rfl⟩
    · rw [List.getElem?_append_right (by simp; omega)] at hb
      rw [List.getElem?_append_right (by rw [hlenE]; omega),hlenE] at he
      simp only [List.length_map] at hb
      have h0:i - ts.length=0:=by
        exact ZoR
      rw [h0] at hb he
      exact Zwh
  · rw [hfoot] at hb
    rcases List.mem_append.1 hb with hb | hb
    · exact hm.lt b (by simp [foots,hb])
    · exact Nat.lt_of_lt_of_le (hGlt b hb) hg.size
  · rw [hfoot]
    intro hb'
    rcases List.mem_append.1 hb' with hb' | hb'
    · exact hm.xlt b (hX b hb) (by simp [foots,hb'])
    · exact hM.xlt b hb (hG b hb')
  · exact Nat.lt_of_lt_of_le (hM.xsz b hb) hg.size
  · refine ⟨by rw [hve]; obtain ⟨T,cells,G0,h0,_⟩:=ho; exact Zc1 h0,?_⟩
    unfold ZbL
    rw [List.getElem?_append_right (by simp),List.getElem?_append_right (by simp [ZE0])]
    simp [hve,ZE0]
end
end Go.Proofs.YtkompmgleojmlaaGreat
