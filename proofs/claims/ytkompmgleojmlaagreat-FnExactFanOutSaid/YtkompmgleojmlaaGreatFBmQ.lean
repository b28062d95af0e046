import Derived.Test.YtkompmgleojmlaaGreatFBmL
import Derived.Test.YtkompmgleojmlaaGreatFTypes
set_option linter.unusedSimpArgs false
set_option linter.unusedVariables false
namespace Go.Proofs.YtkompmgleojmlaaGreat
open Go.ChangeShapes Go.WideShapes Go.ChangeAt Go.RowKit Go.Joins Go.Deep
open GoRep (rep bulk)
theorem ZEj:∀ {x y:List AC},leL x y→x=y
  | [],[],_=>rfl
  | [],_ :: _,h=>h.elim
  | _ :: _,[],h=>h.elim
  | _ :: _,_ :: _,h=>by rw [ZEQ h.1,ZEj h.2]
theorem leV_eq {x y:AV} (h:leV x y):y=.any∨x=y:=by
  unfold leV at h
  split at h
  · exact .inl rfl
  · exact .inr (by rw [ZEQ h])
  · exact .inr (by rw [ZEj h])
  · exact .inr h
theorem ZIQ {x y:Blk} (h:leB x y):x=y:=by
  unfold leB at h
  split at h
  · rw [ZEj h]
  · obtain ⟨⟨e1,e2⟩,e3,e4⟩:=h; subst e3; rw [← e4,e1,e2]
  · exact h
theorem ZEk:∀ {x y:Mem},leM x y→∃ z,x=y ++ z
  | x,[],_=>⟨x,rfl⟩
  | [],_ :: _,h=>h.elim
  | _ :: _,_ :: _,h=>by
    obtain ⟨z,e⟩:=ZEk h.2
    exact ⟨z,by rw [ZIQ h.1,e]; rfl⟩
section
variable {P:Program} {X:List Nat} {W:World} {E:Env} {M:Mem} {a:Act} {tm:List AV} {o:Oper} {T:Tab P}
theorem ZHP {x y:AV} {v:Value} (h:leV x y) (hr:ZcR X W E M x v):ZcR X W E M y v:=by
  rcases leV_eq h with rfl | rfl
  · trivial
  · exact hr
theorem ZEl:∀ {x y:List AV} {vs:List Value},leT x y→Zb5 X W E M x vs→Zb5 X W E M y vs
  | [],[],_,_,hr=>hr
  | [],_ :: _,_,h,_=>h.elim
  | _ :: _,[],_,h,_=>h.elim
  | _ :: _,_ :: _,_,h,⟨v,r,e,h1,h2⟩=>⟨v,r,e,ZHP h.1 h1,ZEl h.2 h2⟩
theorem ZuG {n i q:Nat} {v:Value} (hi:i < n) (h:Zit E i v q):Zit (E.take n) i v q:=by
  obtain ⟨e,h1,h2⟩:=h
  exact ⟨e,by rw [List.getElem?_take,if_pos hi]; exact h1,h2⟩
theorem ZqR {n:Nat}:∀ {is:List Nat} {vs:List Value},is.all (Nat.blt · n)=true→ZdC E is vs→ZdC (E.take n) is vs
  | [],_,_,h=>h
  | _ :: _,_,ho,⟨v,r,e,h1,h2⟩=>by
    rw [List.all_cons,Bool.and_eq_true] at ho
    exact ⟨v,r,e,ZuG (Nat.le_of_ble_eq_true ho.1) h1,ZqR ho.2 h2⟩
theorem Zjr (n:Nat):∀ b ∈ foots (E.take n),b ∈ foots E:=fun b hb=>by
  obtain ⟨e,h1,h2⟩:=Za0.1 hb
  exact Za0.2 ⟨e,List.mem_of_mem_take h1,h2⟩
theorem ZkZ {n i v:Nat} {Q:EB→Prop} (hi:i < n) (h:Zb8 E M i v Q):Zb8 (E.take n) (M.take n) i v Q:=by
  unfold Zb8 at h ⊢
  exact Zw9
theorem Zos {n:Nat} {Q:List Nat→Prop}:∀ {L:Lnd},(∀ i v c,L=.at i v c→i < n)→ZkR X W E M L Q→ZkR X W (E.take n) (M.take n) L Q
  | .no,_,⟨F,h1,h2⟩=>⟨F,h1,fun b hb=>⟨⟨fun hm=>(h2 b hb).1.1 (Zjr n b hm),(h2 b hb).1.2⟩,(h2 b hb).2⟩⟩
  | .at i v c,hi,h=>by
    have hi:=hi i v c rfl
    have h:ZdD E M i v c Q:=h
    show ZdD (E.take n) (M.take n) i v c Q
    unfold ZdD at h ⊢
    exact Zw9
theorem ZuH {n i ver c n' k o:Nat} {u:Value} (hi:i < n) (h:ZlX W E M i ver c n' k o u):ZlX W (E.take n) (M.take n) i ver c n' k o u:=by
  obtain ⟨b,h1,h2⟩:=h
  exact ⟨b,ZkZ hi h1,Zos (X:=[]) (W:=W) (L:=.at i ver c) (fun _ _ _ e=>by injection e with e1 _ _; omega) h2⟩
theorem ZEm {n:Nat}:∀ {c:AC} {v:Value},okC n c=true→ZbL X W E M c v→ZbL X W (E.take n) (M.take n) c v
  | .int _ _,_,_,h=>h
  | .bool _,_,_,h=>h
  | .str _,_,_,h=>h
  | .opq _,_,_,h=>h
  | .hs L t xs,v,ho,h=>⟨h.1,Zos (fun i v c e=>by subst e; exact Nat.le_of_ble_eq_true ho) h.2⟩
  | .bp _ _,_,ho,h=>ZuG (Nat.le_of_ble_eq_true ho) h
  | .ep L t xs k o,v,ho,h=>⟨h.1,Zos (fun i v c e=>by subst e; exact Nat.le_of_ble_eq_true ho) h.2⟩
  | .row i ver,v,ho,h=>⟨h.1,ZkZ (Nat.le_of_ble_eq_true ho) h.2⟩
  | .rp i ver n k o,v,ho,h=>⟨h.1,ZkZ (Nat.le_of_ble_eq_true ho) h.2⟩
  | .sl i ver c n k o,v,ho,h=>⟨h.1,ZuH (Nat.le_of_ble_eq_true ho) h.2⟩
  | .sp i ver c n k o m x q,v,ho,⟨h0,b,l,cap,h1,h2⟩=>⟨h0,b,l,cap,ZuH (Nat.le_of_ble_eq_true ho) h1,h2⟩
  | .tl i ver n k,v,ho,h=>⟨h.1,ZkZ (Nat.le_of_ble_eq_true ho) h.2⟩
  | .mp i,v,ho,⟨e,h1,h2⟩=>⟨e,by rw [List.getElem?_take,if_pos (show i < n from Nat.le_of_ble_eq_true ho)]; exact h1,h2⟩
  | .fn f caps,v,ho,⟨vs,e,h⟩=>⟨vs,e,ZqR ho h⟩
  | .raw _,_,_,h=>h
  | .junk,_,_,h=>h
theorem Zzt {n:Nat}:∀ {l:List AC} {vs:List Value},l.all (okC n)=true→Zcg X W E M l vs→Zcg X W (E.take n) (M.take n) l vs
  | [],_,_,h=>h
  | _ :: _,_,ho,⟨v,r,e,h1,h2⟩=>by
    rw [List.all_cons,Bool.and_eq_true] at ho
    exact ⟨v,r,e,ZEm ho.1 h1,Zzt ho.2 h2⟩
theorem ZEn {n:Nat}:∀ {x:AW} {v:Value},okW n x=true→ZjP X W E M x v→ZjP X W (E.take n) (M.take n) x v
  | .c _,_,ho,h=>ZEm ho h
  | .ag _,_,ho,⟨cs,e,h⟩=>⟨cs,e,Zzt ho h⟩
theorem ZAs {n:Nat}:∀ {l:List AW} {vs:List Value},l.all (okW n)=true→Zdl X W E M l vs→Zdl X W (E.take n) (M.take n) l vs
  | [],_,_,h=>h
  | _ :: _,_,ho,⟨v,r,e,h1,h2⟩=>by
    rw [List.all_cons,Bool.and_eq_true] at ho
    exact ⟨v,r,e,ZEn ho.1 h1,ZAs ho.2 h2⟩
theorem ZHQ {n:Nat}:∀ {x:AV} {v:Value},okV n x=true→ZcR X W E M x v→ZcR X W (E.take n) (M.take n) x v
  | .w _,_,ho,h=>ZEn ho h
  | .tp _,_,ho,⟨vs,e,h⟩=>⟨vs,e,ZAs ho h⟩
  | .any,_,_,_=>trivial
theorem ZEo {n:Nat}:∀ {l:List AV} {vs:List Value},l.all (okV n)=true→Zb5 X W E M l vs→Zb5 X W (E.take n) (M.take n) l vs
  | [],_,_,h=>h
  | _ :: _,_,ho,⟨v,r,e,h1,h2⟩=>by
    rw [List.all_cons,Bool.and_eq_true] at ho
    exact ⟨v,r,e,ZHQ ho.1 h1,ZEo ho.2 h2⟩
theorem ZF8 {M N:Mem} (hM:RepM X W E (M ++ N)) (ho:M.all (okB M.length)=true):RepM X W (E.take M.length) M:=by
  have hl:=hM.len
  rw [List.length_append] at hl
  refine ⟨by simp; omega,?_,fun i b e hb he=>?_,fun b hb=>hM.lt b (Zjr _ b hb),fun b hb hf=>hM.xlt b hb (Zjr _ b hf),hM.xsz⟩
  · have hn:=hM.nodup
    rw [← List.take_append_drop M.length E,Zbq,List.nodup_append] at hn
    exact hn.1
  · have hi:i < M.length:=(List.getElem?_eq_some_iff.1 hb).1
    rw [List.getElem?_take,if_pos hi] at he
    have h:=hM.at_ i b e (by rw [List.getElem?_append_left hi]; exact hb) he
    have hob:=List.all_eq_true.1 ho b (List.mem_of_getElem? hb)
    cases b with
    | box l =>
      obtain ⟨q1,cs,T,q2,q3⟩:=h
      have:=Zzt (n:=M.length) hob q3
      rw [List.take_left] at this
      exact ⟨q1,cs,T,q2,this⟩
    | row t xs v c hh =>
      cases hh with
      | none=>exact h
      | some _=>cases hob
    | mp _=>exact h
    | dead=>exact h
theorem Ze9.le {n0:Nat} {inp:List Nat} {tm0:List AV} {M0:Mem} {h:List AV × Mem} (hr:Ze9 X tm M a W E) (hle:leS n0 inp tm0 M0 tm M h):Ze9 X h.1 h.2 a W (E.take h.2.length):=by
  obtain ⟨h1,h2,h3⟩:=hle
  rw [Bool.and_eq_true] at h3
  replace h3:=h3.1
  rw [Bool.and_eq_true] at h3
  obtain ⟨z,e⟩:=ZEk h2
  subst e
  refine ⟨ZF8 hr.mem h3.2,?_,hr.dfr⟩
  have:=ZEo h3.1 (ZEl h1 hr.tmps)
  rwa [List.take_left] at this
theorem ZEp {W0:World} {E0:Env} {n:Nat} (hn:E0.length≤n) (hg:Zbz W0 E0 W E):Zbz W0 E0 W (E.take n):=⟨hg.os,hg.tape,hg.output,hg.size,hg.keep,fun b hb=>hg.new b (Zjr n b hb),fun i e h=>by
  obtain ⟨e',h1,h2⟩:=hg.blk i e h
  exact ⟨e',by rw [List.getElem?_take,if_pos (Nat.lt_of_lt_of_le (List.getElem?_eq_some_iff.1 h).1 hn)]; exact h1,h2⟩⟩
theorem Zot (hM:RepM X W E M):Zbz W E W.drew E:=⟨rfl,rfl,rfl,Nat.le_refl _,fun _ _ _=>rfl,fun _ h=>.inl h,fun _ e h=>⟨e,h,rfl⟩⟩
theorem ZqS (hM:RepM X W E M):Za8 W E M W.drew E M:=by
  have:=ZeP (W:=W) (W':=W.drew) (Zot hM) hM (fun _ _=>rfl) [] []
  rwa [List.append_nil,List.append_nil] at this
theorem Ze9.drew (hr:Ze9 X tm M a W E):Ze9 X tm M a W.drew E:=by
  have g:=Zot hr.mem
  have m:=ZqS hr.mem
  refine ⟨⟨hr.mem.len,hr.mem.nodup,fun i b e hb he=>(hr.mem.at_ i b e hb he).keep g m hr.mem.len (fun _ _=>rfl),hr.mem.lt,hr.mem.xlt,hr.mem.xsz⟩,hr.tmps.mono g m hr.mem.len,hr.dfr⟩
theorem Zsy (i:Nat):(M.map (Zgu M))[i]?=(M[i]?).map (Zgu M):=List.getElem?_map
theorem ZIR {i v:Nat} {r:Zgx} (h:ZcW M i v=some r):(M.map (Zgu M))[i]?=some (.row r.t r.xs 0 0 none):=by
  rw [Zsy,Zc2 h]
  rfl
theorem ZuI {i v c:Nat} (h:ZdE M i v c=true):∃ (t:Ty) (xs:List t.den),M[i]?=some (.row t xs v c none):=by
  unfold ZdE at h
  split at h
  · rename_i t xs cv cc hM
    rw [Bool.and_eq_true] at h
    obtain rfl:=Nat.eq_of_beq_eq_true h.1
    obtain rfl:=Nat.eq_of_beq_eq_true h.2
    exact ⟨t,xs,hM⟩
  · cases h
theorem Zl2 {i v:Nat} {Q:EB→Prop} {r:Zgx} (hr:ZcW M i v=some r) (h:Zb8 E M i v Q):Zb8 E (M.map (Zgu M)) i 0 Q:=by
  unfold Zb8 at h ⊢
  rw [Zc2 hr] at h
  rw [ZIR hr]
  exact ⟨Nat.le_refl _,fun _=>h.2 rfl⟩
theorem ZkA {i v c:Nat} {Q:List Nat→Prop} (hl:ZdE M i v c=true) (h:ZdD E M i v c Q):ZdD E (M.map (Zgu M)) i 0 0 Q:=by
  obtain ⟨t,xs,hM⟩:=ZuI hl
  unfold ZdD at h ⊢
  rw [hM] at h
  rw [Zsy,hM]
  exact ⟨Nat.le_refl _,fun _=>⟨Nat.le_refl _,fun _=>(h.2 rfl).2 rfl⟩⟩
theorem ZqT {i ver c n k o:Nat} {u:Value} (hl:ZdE M i ver c=true) (h:ZlX W E M i ver c n k o u):ZlX W E (M.map (Zgu M)) i 0 0 n k o u:=by
  obtain ⟨b,h1,h2⟩:=h
  obtain ⟨t,xs,hM⟩:=ZuI hl
  refine ⟨b,Zl2 (r:=⟨t,xs,c⟩) ?_ h1,ZkA hl h2⟩
  unfold ZcW
  rw [hM]
  simp
theorem ZuJ:∀ {c:AC} {v:Value},ZbL X W E M c v→ZbL X W E (M.map (Zgu M)) (ZEI M c) v
  | .int _ _,_,h=>h
  | .bool _,_,h=>h
  | .str _,_,h=>h
  | .opq _,_,h=>h
  | .hs .no t xs,v,h=>h
  | .hs (.at i u c) t xs,v,h=>by
    show ZbL X W E _ (bif ZdE M i u c then _ else _) v
    cases hl:ZdE M i u c with
    | false=>exact h.1
    | true=>exact ⟨h.1,ZkA hl h.2⟩
  | .bp _ _,_,h=>h
  | .ep .no t xs k o,v,h=>h
  | .ep (.at i u c) t xs k o,v,h=>by
    show ZbL X W E _ (bif ZdE M i u c then _ else _) v
    cases hl:ZdE M i u c with
    | false=>exact h.1
    | true=>exact ⟨h.1,ZkA hl h.2⟩
  | .row i ver,v,h=>by
    show ZbL X W E _ (bif (ZcW M i ver).isSome then _ else _) v
    cases hl:ZcW M i ver with
    | none=>exact h.1
    | some r=>exact ⟨h.1,Zl2 hl h.2⟩
  | .sl i ver c n k o,v,h=>by
    show ZbL X W E _ (bif ZdE M i ver c then _ else _) v
    cases hl:ZdE M i ver c with
    | false=>exact h.1
    | true=>exact ⟨h.1,ZqT hl h.2⟩
  | .sp i ver c n k o m x q,v,⟨h0,b,l,cap,h1,h2⟩=>by
    show ZbL X W E _ (bif ZdE M i ver c then _ else _) v
    cases hl:ZdE M i ver c with
    | false=>exact h0
    | true=>exact ⟨h0,b,l,cap,ZqT hl h1,h2⟩
  | .rp i ver n k o,v,h=>by
    show ZbL X W E _ (bif (ZcW M i ver).isSome then _ else _) v
    cases hl:ZcW M i ver with
    | none=>exact h.1
    | some r=>exact ⟨h.1,Zl2 hl h.2⟩
  | .tl i ver n k,v,h=>h.1
  | .mp _,_,h=>h
  | .fn f caps,v,h=>h
  | .raw _,_,h=>h
  | .junk,_,h=>h
theorem Zou:∀ {l:List AC} {vs:List Value},Zcg X W E M l vs→Zcg X W E (M.map (Zgu M)) (l.map (ZEI M)) vs
  | [],_,h=>h
  | _ :: _,_,⟨v,r,e,h1,h2⟩=>⟨v,r,e,ZuJ h1,Zou h2⟩
theorem ZuK:∀ {x:AW} {v:Value},ZjP X W E M x v→ZjP X W E (M.map (Zgu M)) (ZGD M x) v
  | .c _,_,h=>ZuJ h
  | .ag _,_,⟨cs,e,h⟩=>⟨cs,e,Zou h⟩
theorem ZqU:∀ {l:List AW} {vs:List Value},Zdl X W E M l vs→Zdl X W E (M.map (Zgu M)) (l.map (ZGD M)) vs
  | [],_,h=>h
  | _ :: _,_,⟨v,r,e,h1,h2⟩=>⟨v,r,e,ZuK h1,ZqU h2⟩
theorem ZEq:∀ {x:AV} {v:Value},ZcR X W E M x v→ZcR X W E (M.map (Zgu M)) (ZsM M x) v
  | .w _,_,h=>ZuK h
  | .tp _,_,⟨vs,e,h⟩=>⟨vs,e,ZqU h⟩
  | .any,_,_=>trivial
theorem ZuL:∀ {l:List AV} {vs:List Value},Zb5 X W E M l vs→Zb5 X W E (M.map (Zgu M)) (l.map (ZsM M)) vs
  | [],_,h=>h
  | _ :: _,_,⟨v,r,e,h1,h2⟩=>⟨v,r,e,ZEq h1,ZuL h2⟩
theorem Ze9.back (hr:Ze9 X tm M a W E) (hno:ZzD M=true):Ze9 X (tm.map (ZsM M)) (M.map (Zgu M)) a W E:=by
  refine ⟨⟨by rw [List.length_map]; exact hr.mem.len,hr.mem.nodup,fun i b e hb he=>?_,hr.mem.lt,hr.mem.xlt,hr.mem.xsz⟩,ZuL hr.tmps,hr.dfr⟩
  rw [Zsy] at hb
  cases hM:M[i]? with
  | none=>rw [hM] at hb; cases hb
  | some b' =>
    rw [hM] at hb
    obtain rfl:Zgu M b'=b:=by simpa using hb
    have h:=hr.mem.at_ i b' e hM he
    cases b' with
    | box l =>
      obtain ⟨q1,cs,T,q2,q3⟩:=h
      exact ⟨q1,cs,T,q2,Zou q3⟩
    | row t xs v c hh =>
      cases hh with
      | none=>exact h
      | some _=>have:=List.all_eq_true.1 hno _ (List.mem_of_getElem? hM); cases this
    | mp _=>exact h
    | dead=>exact h
theorem Zb5.put:∀ {l:List AV} {vs:List Value} (j:Nat) {x:AV},Zb5 X W E M l vs→(∀ v,vs[j]?=some v→ZcR X W E M x v)→Zb5 X W E M (l.set j x) vs
  | [],_,_,_,h,_=>h
  | _ :: _,_,0,_,⟨v,r,e,h1,h2⟩,h=>⟨v,r,e,h v (by rw [e]; rfl),h2⟩
  | _ :: _,_,j + 1,_,⟨v,r,e,h1,h2⟩,h=>⟨v,r,e,h1,Zb5.put j h2 (fun u hu=>h u (by rw [e]; simpa using hu))⟩
theorem Zcg.put:∀ {l:List AC} {vs:List Value} (j:Nat) {x:AC},Zcg X W E M l vs→(∀ v,vs[j]?=some v→ZbL X W E M x v)→Zcg X W E M (l.set j x) vs
  | [],_,_,_,h,_=>h
  | _ :: _,_,0,_,⟨v,r,e,h1,h2⟩,h=>⟨v,r,e,h v (by rw [e]; rfl),h2⟩
  | _ :: _,_,j + 1,_,⟨v,r,e,h1,h2⟩,h=>⟨v,r,e,h1,Zcg.put j h2 (fun u hu=>h u (by rw [e]; simpa using hu))⟩
theorem Ze9.nilrow (hr:Ze9 X tm M a W E) (t:Ty):∃ E',Zbz W E W E'∧Za8 W E M W E' (M ++ [.row t [] 0 0 none])∧Ze9 X tm (M ++ [.row t [] 0 0 none]) a W E'∧ZbL X W E' (M ++ [.row t [] 0 0 none]) (.row M.length 0) (.slice none 0 0):=by
  obtain ⟨E',g,m,rm,rc⟩:=ZjD (W':=W) (js:=[]) (t:=t) (ys:=[]) (v:=.slice none 0 0) (T:=0) (cells:=[]) (own:=[]) (G:=[]) hr.mem rfl (by simp) ⟨rfl,rfl,rfl,Nat.le_refl _,fun _ _ _=>rfl⟩ (World.ownsRow_nil W 0 0 t.n) ⟨rfl,rfl⟩ rfl (.inl rfl)
  exact ⟨E',g,m,⟨rm,hr.tmps.mono g m hr.mem.len,hr.dfr⟩,rc⟩
theorem Ze9.boxput {b i:Nat} {l:List AC} {x:AC} {v:Value} (hr:Ze9 X tm M a W E) (hb:M[b]?=some (.box l)) (hl:l[i]?=some (.raw v)) (hx:ZbL X W E M x v):Za8 W E M W E (M.set b (.box (l.set i x)))∧Ze9 X tm (M.set b (.box (l.set i x))) a W E:=by
  have hbl:=(List.getElem?_eq_some_iff.1 hb).1
  have m:Za8 W E M W E (M.set b (.box (l.set i x))):=fun j=>by
    exact ZwG
  have g:=Zbz.refl W E
  refine ⟨m,⟨by simp [hr.mem.len],hr.mem.nodup,fun j b' e hb' he=>?_,hr.mem.lt,hr.mem.xlt,hr.mem.xsz⟩,hr.tmps.mono g m hr.mem.len,hr.dfr⟩
  by_cases hj:b=j
  · subst hj
    rw [List.getElem?_set_self hbl] at hb'
    obtain rfl:=Option.some.inj hb'
    obtain ⟨q1,cs,T,q2,q3⟩:=hr.mem.at_ _ _ e hb he
    refine ⟨q1,cs,T,q2,Zcg.mono g m hr.mem.len (Zcg.put i q3 (fun u hu=>?_))⟩
    obtain ⟨w,h1,h2⟩:=q3.get hl
    obtain rfl:w=u:=Option.some.inj (h1.symm.trans hu)
    rw [h2.1]
    exact hx
  · exact ZwK
theorem ZF9 (hr:Ze9 X tm M a W E) (p:Pro):∃ E',Zbz W E W E'∧Za8 W E M W E' (ZJx tm M p).2∧Ze9 X (ZJx tm M p).1 (ZJx tm M p).2 a W E':=by
  obtain ⟨b,i,t⟩:=p
  cases b with
  | none =>
    show ∃ E',Zbz W E W E'∧Za8 W E M W E' (bif ZkT (tm.getD i .any) then (tm.set i (AV.c (AC.row M.length 0)),M ++ [Blk.row t [] 0 0 none]) else (tm,M)).2∧Ze9 X (bif ZkT (tm.getD i .any) then (tm.set i (AV.c (AC.row M.length 0)),M ++ [Blk.row t [] 0 0 none]) else (tm,M)).1 (bif ZkT (tm.getD i .any) then (tm.set i (AV.c (AC.row M.length 0)),M ++ [Blk.row t [] 0 0 none]) else (tm,M)).2 a W E'
    cases hn:ZkT (tm.getD i .any) with
    | false=>exact ⟨E,Zbz.refl W E,Za8.refl W E M,hr⟩
    | true =>
      obtain ⟨E',g,m,r,rc⟩:=hr.nilrow t
      refine ⟨E',g,m,⟨r.mem,Zb5.put i r.tmps (fun u hu=>?_),r.dfr⟩⟩
      have e:=Zus hn
      rw [List.getD_eq_getElem?_getD] at e
      cases hq:tm[i]? with
      | none=>rw [hq] at e; cases e
      | some x =>
        rw [hq] at e
        obtain rfl:x=_:=e
        obtain ⟨w,h1,h2⟩:=hr.tmps.get hq
        obtain rfl:w=u:=Option.some.inj (h1.symm.trans hu)
        have h2:ZbL X W E M (.raw (.slice none 0 0)) w:=h2
        rw [h2.1]
        exact rc
  | some b =>
    show ∃ E',Zbz W E W E'∧Za8 W E M W E' (match M[b]? with | some (.box l)=>bif Zlh (l.getD i .junk) then (tm,M.set b (Blk.box (l.set i (AC.row M.length 0))) ++ [Blk.row t [] 0 0 none]) else (tm,M) | _=>(tm,M)).2∧Ze9 X (match M[b]? with | some (.box l)=>bif Zlh (l.getD i .junk) then (tm,M.set b (Blk.box (l.set i (AC.row M.length 0))) ++ [Blk.row t [] 0 0 none]) else (tm,M) | _=>(tm,M)).1
      (match M[b]? with | some (.box l)=>bif Zlh (l.getD i .junk) then (tm,M.set b (Blk.box (l.set i (AC.row M.length 0))) ++ [Blk.row t [] 0 0 none]) else (tm,M) | _=>(tm,M)).2 a W E'
    split
    · rename_i l hb
      cases hn:Zlh (l.getD i .junk) with
      | false=>exact ⟨E,Zbz.refl W E,Za8.refl W E M,hr⟩
      | true =>
        obtain ⟨E',g,m,r,rc⟩:=hr.nilrow t
        have e:=Zva hn
        have hl:l[i]?=some (.raw (.slice none 0 0)):=by
          rw [List.getD_eq_getElem?_getD] at e
          cases hq:l[i]? with
          | none=>rw [hq] at e; cases e
          | some x=>rw [hq] at e; exact congrArg some e
        have hbl:=(List.getElem?_eq_some_iff.1 hb).1
        obtain ⟨m2,r2⟩:=r.boxput (b:=b) (i:=i) (l:=l) (by rw [List.getElem?_append_left hbl]; exact hb) hl rc
        rw [List.set_append_left _ _ hbl] at r2 m2
        exact ⟨E',g,m.trans m2,r2⟩
    · exact ⟨E,Zbz.refl W E,Za8.refl W E M,hr⟩
theorem ZAt:∀ (ps:List Pro) {tm:List AV} {M:Mem} {E:Env},Ze9 X tm M a W E→∃ E',Zbz W E W E'∧Za8 W E M W E' (ZH2 tm M ps).2∧Ze9 X (ZH2 tm M ps).1 (ZH2 tm M ps).2 a W E'
  | [],_,M,E,hr=>⟨E,Zbz.refl W E,Za8.refl W E M,hr⟩
  | p :: ps,tm,M,E,hr=>by
    obtain ⟨E1,g1,m1,r1⟩:=ZF9 hr p
    obtain ⟨E2,g2,m2,r2⟩:=ZAt ps r1
    exact Zjg
theorem Ze9.boxput2 {b i:Nat} {l:List AC} {x:AC} (hr:Ze9 X tm M a W E) (hb:M[b]?=some (.box l)) (hx:∀ e cs T,E[b]?=some e→W.heap[e.blk]?=some (.cells cs T (0,0))→∀ u,cs.toList[i]?=some u→ZbL X W E M x u):Za8 W E M W E (M.set b (.box (l.set i x)))∧Ze9 X tm (M.set b (.box (l.set i x))) a W E:=by
  have hbl:=(List.getElem?_eq_some_iff.1 hb).1
  have m:Za8 W E M W E (M.set b (.box (l.set i x))):=fun j=>by
    exact ZwG
  have g:=Zbz.refl W E
  refine ⟨m,⟨by simp [hr.mem.len],hr.mem.nodup,fun j b' e hb' he=>?_,hr.mem.lt,hr.mem.xlt,hr.mem.xsz⟩,hr.tmps.mono g m hr.mem.len,hr.dfr⟩
  by_cases hj:b=j
  · subst hj
    rw [List.getElem?_set_self hbl] at hb'
    obtain rfl:=Option.some.inj hb'
    obtain ⟨q1,cs,T,q2,q3⟩:=hr.mem.at_ _ _ e hb he
    exact ⟨q1,cs,T,q2,Zcg.mono g m hr.mem.len (Zcg.put i q3 (hx e cs T he q2))⟩
  · exact ZwK
theorem ZCi (hr:Ze9 X tm M a W E) (b c k:Nat):∃ E',Zbz W E W E'∧Za8 W E M W E' (ZAM M b c k)∧Ze9 X tm (ZAM M b c k) a W E':=by
  have stay:∃ E',Zbz W E W E'∧Za8 W E M W E' M∧Ze9 X tm M a W E':=⟨E,Zbz.refl W E,Za8.refl W E M,hr⟩
  unfold ZAM
  split
  · rename_i l hb
    split
    · rename_i j v hc
      cases hjk:Nat.beq j k with
      | true=>exact stay
      | false =>
        simp only [cond_false]
        split
        · rename_i t ys vj cj t' xs vk ck hj hk
          cases hv:Nat.beq v vj with
          | false=>exact stay
          | true =>
            simp only [cond_true]
            split
            · rename_i ht
              subst ht
              obtain rfl:=Nat.eq_of_beq_eq_true hv
              have hne:j ≠ k:=fun e=>by rw [e,Nat.beq_refl] at hjk; cases hjk
              obtain ⟨E',g,m,rm,rc⟩:=ZqK hr.mem hk hj hne
              have hbj:b ≠ j:=fun e=>by rw [e,hj] at hb; cases hb
              have hbk:b ≠ k:=fun e=>by rw [e,hk] at hb; cases hb
              have hb' : ((ZcC M [j]).set k (.row t' ys (vk + 1) (ck + 1) none))[b]?=some (.box l):=by
                rw [List.getElem?_set_ne (Ne.symm hbk),ZbK (fun q hq e=>hbj (by rw [← List.mem_singleton.1 hq]; exact e.symm))]
                exact hb
              obtain ⟨m2,r2⟩:=Ze9.boxput2 (X:=X) (tm:=tm) (a:=a) (i:=c) (x:=.row k (vk + 1)) ⟨rm,hr.tmps.mono g m hr.mem.len,hr.dfr⟩ hb' (fun e cs T he hcs u hu=>by
                have hble:b < E.length:=by rw [← hr.mem.len]; exact (List.getElem?_eq_some_iff.1 hb).1
                obtain ⟨e0,he0⟩:∃ e0,E[b]?=some e0:=⟨_,List.getElem?_eq_getElem hble⟩
                obtain ⟨e',h1,h2⟩:=g.blk b e0 he0
                obtain rfl:=Option.some.inj (h1.symm.trans he)
                obtain ⟨_,cs0,T0,q2,q3⟩:=hr.mem.at_ _ _ e0 hb he0
                rw [h2] at hcs
                have hcc:=Option.some.inj (q2.symm.trans hcs)
                injection hcc with hcc
                subst hcc
                obtain ⟨w,w1,w2⟩:=q3.get hc
                obtain rfl:=Option.some.inj (w1.symm.trans hu)
                have h3:=(w2:ZbL X W E M (.row j v) w).2
                unfold Zb8 at h3
                rw [hj] at h3
                obtain ⟨ej,p1,p2⟩:=h3.2 rfl
                rw [p2]
                exact rc ej p1)
              exact ⟨E',g,m.trans m2,r2⟩
            · exact stay
        · exact stay
    · exact stay
  · exact stay
theorem Zl3 (b:Nat):∀ (l:List AC) (c:Nat) {M:Mem} {E:Env},Ze9 X tm M a W E→∃ E',Zbz W E W E'∧Za8 W E M W E' (Zu2 M b c l)∧Ze9 X tm (Zu2 M b c l) a W E'
  | [],_,M,E,hr=>⟨E,Zbz.refl W E,Za8.refl W E M,hr⟩
  | x :: l,c,M,E,hr=>by
    cases x with
    | row k _ =>
      obtain ⟨E1,g1,m1,r1⟩:=ZCi hr b c k
      obtain ⟨E2,g2,m2,r2⟩:=Zl3 b l (c + 1) r1
      exact Zjg
    | _=>exact Zl3 b l (c + 1) hr
theorem Zl4:∀ (b:Nat) (h:Mem) {M:Mem} {E:Env},Ze9 X tm M a W E→∃ E',Zbz W E W E'∧Za8 W E M W E' (ZoT M b h)∧Ze9 X tm (ZoT M b h) a W E'
  | _,[],M,E,hr=>⟨E,Zbz.refl W E,Za8.refl W E M,hr⟩
  | b,x :: h,M,E,hr=>by
    cases x with
    | box l =>
      obtain ⟨E1,g1,m1,r1⟩:=Zl3 b l 0 hr
      obtain ⟨E2,g2,m2,r2⟩:=Zl4 (b + 1) h r1
      exact Zjg
    | _=>exact Zl4 (b + 1) h hr
theorem ZAu:∀ {l:List AV} {vs:List Value} (i:Nat) {x:AV},Zb5 X W E M l vs→(∀ u,vs[i]?=some u→ZcR X W E M x u)→Zb5 X W E M (l.set i x) vs
  | [],_,_,_,h,_=>h
  | _ :: _,_,0,_,⟨v,r,e,_,h2⟩,hx=>⟨v,r,e,hx v (by rw [e]; rfl),h2⟩
  | _ :: _,_,i + 1,_,⟨v,r,e,h1,h2⟩,hx=>⟨v,r,e,h1,ZAu i h2 (fun u hu=>hx u (by rw [e]; simpa using hu))⟩
theorem Zzu {q:List AV × Mem} (hr:Ze9 X q.1 q.2 a W E) (i k:Nat):∃ E',Zbz W E W E'∧Za8 W E q.2 W E' (ZoU q i k).2∧Ze9 X (ZoU q i k).1 (ZoU q i k).2 a W E':=by
  have stay:∃ E',Zbz W E W E'∧Za8 W E q.2 W E' q.2∧Ze9 X q.1 q.2 a W E':=⟨E,Zbz.refl W E,Za8.refl W E q.2,hr⟩
  unfold ZoU
  split
  · rename_i j v hc
    cases hjk:Nat.beq j k with
    | true=>exact stay
    | false =>
      simp only [cond_false]
      split
      · rename_i t ys vj cj t' xs vk ck hj hk
        cases hv:Nat.beq v vj with
        | false=>exact stay
        | true =>
          simp only [cond_true]
          split
          · rename_i ht
            subst ht
            obtain rfl:=Nat.eq_of_beq_eq_true hv
            have hne:j ≠ k:=fun e=>by rw [e,Nat.beq_refl] at hjk; cases hjk
            obtain ⟨E',g,m,rm,rc⟩:=ZqK hr.mem hk hj hne
            refine ⟨E',g,m,rm,ZAu i (hr.tmps.mono g m hr.mem.len) (fun u hu=>?_),hr.dfr⟩
            obtain ⟨w,w1,w2⟩:=hr.tmps.get hc
            obtain rfl:=Option.some.inj (w1.symm.trans hu)
            have h3:=(w2:ZbL X W E q.2 (.row j v) w).2
            unfold Zb8 at h3
            rw [hj] at h3
            obtain ⟨ej,p1,p2⟩:=h3.2 rfl
            rw [p2]
            exact rc ej p1
          · exact stay
      · exact stay
  · exact stay
theorem ZfA:∀ (h:List AV) (i:Nat) {q:List AV × Mem} {E:Env},Ze9 X q.1 q.2 a W E→∃ E',Zbz W E W E'∧Za8 W E q.2 W E' (ZoV q i h).2∧Ze9 X (ZoV q i h).1 (ZoV q i h).2 a W E'
  | [],_,q,E,hr=>⟨E,Zbz.refl W E,Za8.refl W E q.2,hr⟩
  | x :: h,i,q,E,hr=>by
    cases x with
    | w z =>
      cases z with
      | c c0 =>
        cases c0 with
        | row k ver =>
          obtain ⟨E1,g1,m1,r1⟩:=Zzu hr i k
          obtain ⟨E2,g2,m2,r2⟩:=ZfA h (i + 1) r1
          exact Zjg
        | _=>exact ZfA h (i + 1) hr
      | ag l=>exact ZfA h (i + 1) hr
    | tp l=>exact ZfA h (i + 1) hr
    | any=>exact ZfA h (i + 1) hr
theorem ZHg {n0:Nat} {inp:List Nat} {tm0 tm' : List AV} {M0 M' : Mem} {h:List AV × Mem} (hle:leS n0 inp tm0 M0 tm' M' h):ZzD M0=true:=by
  obtain ⟨_,_,h3⟩:=hle
  simp only [Bool.and_eq_true] at h3
  exact h3.2.2.2
theorem Zkz.head {W0:World} {E0:Env} {tm' : List AV} {h:List AV × Mem} (hT:ZsK X W0 E0 T) (hs:Zkz T W0 E0 W E M) (hle:leS T.n0 T.inp tm M tm' (M.map (Zgu M)) h):Zkz T W0 E0 W (E.take h.2.length) h.2:=by
  obtain ⟨h1,h2,h3⟩:=hle
  rw [Bool.and_eq_true,Bool.and_eq_true (a:=Nat.ble _ _)] at h3
  obtain ⟨_,hn,hi⟩:=h3
  rw [Bool.and_eq_true] at hi
  replace hi:=hi.1
  have hn:=Nat.le_of_ble_eq_true hn
  rw [hT.2.1] at hn
  refine ⟨ZEp hn hs.g,fun i hii=>?_⟩
  obtain ⟨z,e⟩:=ZEk h2
  have hlt:i < h.2.length:=Nat.lt_of_lt_of_le (hT.2.2.1 i hii) hn
  have e1:h.2[i]?=(M.map (Zgu M))[i]?:=by rw [e,List.getElem?_append_left hlt]
  have hv:=List.all_eq_true.1 hi i hii
  rcases hs.kept i hii with hd | ⟨t,xs,v,c,hh,k1,k2⟩
  · rw [hd] at hv; cases hv
  · rw [k1] at hv
    cases hh with
    | some _=>cases hv
    | none =>
    obtain rfl:=Nat.eq_of_beq_eq_true (show Nat.beq v 0=true from hv)
    refine .inr ⟨t,xs,0,0,none,by rw [e1,Zsy,k1]; rfl,fun _ e0 he0=>?_⟩
    obtain ⟨e',q1,q2⟩:=k2 rfl e0 he0
    exact ⟨e',by rw [List.getElem?_take,if_pos hlt]; exact q1,q2⟩
theorem ZuM {L:Nat→List AV→Mem→Zbn} {W0:World} {E0:Env} (hT:ZsK X W0 E0 T):∀ (c:Code) (tm:List AV) (M:Mem) (a:Act) (W:World) (E:Env) (K:Exit→List AV→Mem→Prop) (Q:Exit→Act→World→Prop),
    (∀ e tm M a W E,K e tm M→Ze9 X tm M a W E→Zkz T W0 E0 W E M→Q e a W)→Zhx T L c tm M K→Ze9 X tm M a W E→Zkz T W0 E0 W E M→c.wp P Q a W:=by
  intro c
  induction c with
  | skip=>intro tm M a W E K Q hS h hr hg; exact wp_skip (hS _ _ _ _ _ _ h hr hg)
  | label l=>intro tm M a W E K Q hS h hr hg; exact wp_label (hS _ _ _ _ _ _ h hr hg)
  | exit id=>intro tm M a W E K Q hS h hr hg; exact wp_exit (hS _ _ _ _ _ _ h hr hg)
  | ret=>intro tm M a W E K Q hS h hr hg; exact wp_ret (hS _ _ _ _ _ _ h hr hg)
  | region id ops draw =>
    intro tm M a W E K Q hS h0 hr hg
    have h:bif draw then (P.follows .mixedOrders=true∧okA T ops (Zhv T ops ops.size (Array.replicate ops.size false)) false (Array.replicate ops.size false)=true)∧Zll T ops (Zhv T ops ops.size (Array.replicate ops.size false)) tm M (fun tm M=>K .normal tm M) else Zmb T ops.toList ops.toList tm M (fun tm M=>K .normal tm M):=by
      have h0:bif ops.toList.any ZzE then False else (bif draw then (P.follows .mixedOrders=true∧okA T ops (Zhv T ops ops.size (Array.replicate ops.size false)) false (Array.replicate ops.size false)=true)∧Zll T ops (Zhv T ops ops.size (Array.replicate ops.size false)) tm M (fun tm M=>K .normal tm M) else Zmb T ops.toList ops.toList tm M (fun tm M=>K .normal tm M)):=h0
      cases hp:ops.toList.any ZzE with
      | true=>rw [hp] at h0; exact h0.elim
      | false=>rw [hp] at h0; exact h0
    cases draw with
    | false =>
      exact wp_region_list (Zez hT (K:=fun tm M=>K .normal tm M) (fun tm M a W E hk hr hg=>hS _ _ _ _ _ _ hk hr hg) ops.toList tm M a W E h hr hg)
    | true =>
      obtain ⟨⟨hm,hB⟩,h⟩:=(h:(P.follows .mixedOrders=true∧okA T ops (Zhv T ops ops.size (Array.replicate ops.size false)) false (Array.replicate ops.size false)=true)∧Zll T ops (Zhv T ops ops.size (Array.replicate ops.size false)) tm M (fun tm M=>K .normal tm M))
      have:=Zor _ ops.size _ _ _ ((Zhg (T:=T) (ops:=ops) _ _ tm M (Zzs ops.size) h).1 hB) (ZqQ _ _)
      exact wp_region_any hm (Znf (T:=T) (X:=X) (W0:=W0) hT (fun tm M a W E hk hr hg=>hS _ _ _ _ _ _ hk hr hg) _ _ tm M a _ E hr.drew (hg.step (Zot hr.mem) (ZqS hr.mem)) this)
  | seq x y ihx ihy =>
    intro tm M a W E K Q hS h hr hg
    refine wp_seq (ihx tm M a W E _ _ (fun e tm M a W E hk hr hg=>?_) h hr hg)
    cases e with
    | normal=>exact ihy tm M a W E K Q hS hk hr hg
    | _=>exact hS _ _ _ _ _ _ hk hr hg
  | cond c x y ihx ihy =>
    intro tm M a W E K Q hS h hr hg
    unfold Zhx at h
    cases c with
    | tmp t =>
      simp only at h
      split at h
      · rename_i g hq
        have hl:=hr.lit hq
        have he:=ZaE hr.tmps (.tmp t)
        have he' : a.eval (.tmp t)=.bool g:=by
          have:evalA tm (.tmp t)=.w (.c (.bool g)):=hq
          rw [this] at he
          exact he
        cases g with
        | true=>exact wp_cond_true he' (ihx _ M a W E K Q hS h hl hg)
        | false=>exact wp_cond_false he' (ihy _ M a W E K Q hS h hl hg)
      · exact h.elim
    | const v =>
      split at h
      · rename_i t hq; cases hq
      · rename_i g hq
        obtain rfl:v=.bool g:=by injection hq
        cases g with
        | true=>exact wp_cond_true rfl (ihx _ M a W E K Q hS h hr hg)
        | false=>exact wp_cond_false rfl (ihy _ M a W E K Q hS h hr hg)
      · exact h.elim
    | global g=>exact h.elim
    | func f=>exact h.elim
  | block id x ih =>
    intro tm M a W E K Q hS h hr hg
    refine wp_block (ih tm M a W E _ _ (fun e tm M a W E hk hr hg=>?_) h hr hg)
    cases e with
    | exit id' =>
      show (if id'=id then Q .normal a W else Q (.exit id') a W)
      have hk:(bif Nat.beq id' id then K .normal tm M else K (.exit id') tm M):=hk
      by_cases hid:id'=id
      · rw [if_pos hid]
        rw [hid,Nat.beq_refl] at hk
        exact hS _ _ _ _ _ _ hk hr hg
      · rw [if_neg hid]
        have hb:Nat.beq id' id=false:=by
          cases hb:Nat.beq id' id with
          | false=>rfl
          | true=>exact absurd (Nat.eq_of_beq_eq_true hb) hid
        rw [hb] at hk
        exact hS _ _ _ _ _ _ hk hr hg
    | _=>exact hS _ _ _ _ _ _ hk hr hg
  | loop x ih =>
    intro tm M a W E K Q hS h hr hg
    unfold Zhx at h
    obtain ⟨E1,g1,m1,r1⟩:=ZAt (T.pro (Zeb x)) hr
    obtain ⟨tm1,htm1⟩:∃ z,z=(ZH2 tm M (T.pro (Zeb x))).1:=⟨_,rfl⟩
    obtain ⟨M1,hM1⟩:∃ z,z=(ZH2 tm M (T.pro (Zeb x))).2:=⟨_,rfl⟩
    rw [← htm1,← hM1] at r1
    rw [← hM1] at m1
    have hs1:=hg.step g1 m1
    obtain ⟨A,hA⟩:∃ A,A=L (Zeb x) (tm1.map (ZsM M1)) (M1.map (Zgu M1)):=⟨_,rfl⟩
    have h:(∃ y,A.inv y∧leS T.n0 T.inp tm1 M1 (tm1.map (ZsM M1)) (M1.map (Zgu M1)) (A.hd y)) ∧
        ∀ y,A.inv y→Zhx T L x (A.hd y).1 (A.hd y).2 (fun e tm' M'=>match e with | .normal=>∃ y',A.inv y'∧A.μ y' < A.μ y∧(let p:=ZoV (tm',ZoT M' 0 (A.hd y).2) 0 (A.hd y).1; leS T.n0 T.inp p.1 p.2 (p.1.map (ZsM p.2)) (p.2.map (Zgu p.2)) (A.hd y')) | e=>K e tm' M'):=by rw [hA,htm1,hM1]; exact h
    obtain ⟨⟨y0,hi0,hl0⟩,hround⟩:=h
    refine wp_loop_ghost (fun n a' w'=>∃ y E',A.inv y∧A.μ y=n∧Ze9 X (A.hd y).1 (A.hd y).2 a' w' E'∧Zkz T W0 E0 w' E' (A.hd y).2) (A.μ y0) ⟨y0,_,hi0,rfl,(r1.back (ZHg hl0)).le hl0,hs1.head hT hl0⟩ ?_
    intro n a' w' hI
    obtain ⟨y,E',hiy,rfl,hry,hgy⟩:=hI
    refine ih _ _ a' w' E' _ _ (fun e tm' M' a' W' E' hk hr' hg'=>?_) (hround y hiy) hry hgy
    cases e with
    | normal =>
      obtain ⟨y',hi',hlt,hl'⟩:=hk
      obtain ⟨E2,g2,m2,r2⟩:=Zl4 0 (A.hd y).2 hr'
      obtain ⟨E3,g3,m3,r3⟩:=ZfA (A.hd y).1 0 (q:=(tm',ZoT M' 0 (A.hd y).2)) r2
      exact ⟨_,hlt,y',_,hi',rfl,(r3.back (ZHg hl')).le hl',((hg'.step g2 m2).step g3 m3).head hT hl'⟩
    | _=>exact hS _ _ _ _ _ _ hk hr' hg'
  | _=>intro tm M a W E K Q hS h hr hg; exact h.elim
theorem ZGa {r:ResultVar} {x:AW} (hM:RepM X W E M) (ht:Zb5 X W E M tm a.tmps.toList) (h:ZJy P tm M r=some x) :
    ∃ v,((match r with | .tmp t=>pure (a.tmps.getD t undef) | .cell p t=>do loadVar t (← asAddr (a.tmps.getD p undef)):Sem Value)).run P W=.ok v W∧ZjP X W E M x v:=by
  unfold ZJy at h
  split at h
  · rename_i t
    have he:=ZaE ht (.tmp t)
    have he:ZcR X W E M (tm.getD t .any) (a.tmps.getD t undef):=he
    split at h
    · rename_i y hy
      obtain rfl:=Option.some.inj h
      rw [hy] at he
      exact ⟨_,rfl,he⟩
    · cases h
  · rename_i p t
    have he:=ZaE ht (.tmp p)
    have he:ZcR X W E M (tm.getD p .any) (a.tmps.getD p undef):=he
    split at h
    · rename_i i q hy
      rw [hy] at he
      obtain ⟨e,hei,hv⟩:=(he:Zit E i _ q)
      split at h
      · rename_i l hb
        split at h
        · rename_i z hz
          obtain rfl:=Option.some.inj h
          obtain ⟨_,cs,T,hgc,hl⟩:=hM.at_ i _ e hb hei
          obtain ⟨u,h1,h2⟩:=ZAk (P:=P) hgc hl hz
          refine ⟨u,?_,h2⟩
          simp only [Sem.run_bind]
          rw [hv]
          simp only [asAddr,Sem.run_pure,Result.andThen_ok]
          exact h1
        · cases h
      · cases h
    · cases h
theorem ZAv (hM:RepM X W E M) (ht:Zb5 X W E M tm a.tmps.toList):∀ {rs:List ResultVar} {l:List AW},ZHo P tm M rs=some l →
    ∃ vs,(rs.mapM (fun r=>(match r with | .tmp t=>pure (a.tmps.getD t undef) | .cell p t=>do loadVar t (← asAddr (a.tmps.getD p undef)):Sem Value))).run P W=.ok vs W∧Zdl X W E M l vs
  | [],l,h=>by
    obtain rfl:=Option.some.inj h
    exact ⟨[],rfl,rfl⟩
  | r :: rs,l,h=>by
    unfold ZHo at h
    cases hx:ZJy P tm M r with
    | none=>rw [hx] at h; cases h
    | some x =>
      rw [hx] at h
      simp only at h
      cases hxs:ZHo P tm M rs with
      | none=>rw [hxs] at h; cases h
      | some xs =>
        rw [hxs] at h
        obtain rfl:=Option.some.inj h
        obtain ⟨v,h1,h2⟩:=ZGa hM ht hx
        obtain ⟨vs,h3,h4⟩:=ZAv hM ht hxs
        refine ⟨v :: vs,?_,v,vs,rfl,h2,h4⟩
        rw [List.mapM_cons]
        simp only [Sem.run_bind,h1,Result.andThen_ok,h3,Sem.run_pure]
theorem Zdl.len:∀ {l:List AW} {vs:List Value},Zdl X W E M l vs→vs.length=l.length
  | [],_,h=>by rw [show _=_ from h]; rfl
  | _ :: _,_,⟨v,r,e,_,h2⟩=>by rw [e,List.length_cons,Zdl.len h2,List.length_cons]
theorem Zzv {fn:Func} {l:List AW} (hM:RepM X W E M) (ht:Zb5 X W E M tm a.tmps.toList) (h:ZHo P tm M fn.results.toList=some l):∃ v,(results fn a.tmps).run P W=.ok v W∧ZcR X W E M (ZJz l) v:=by
  obtain ⟨vs,h1,h2⟩:=ZAv hM ht h
  have hlen:=h2.len
  have hrun:(results fn a.tmps).run P W=.ok (if h:vs.toArray.size=1 then vs.toArray[0] else .tuple vs.toArray) W:=by
    unfold results
    rw [Array.mapM_eq_mapM_toList]
    simp only [Sem.run_bind,Sem.run_map]
    exact Eq.trans (congrArg (fun z:Result (List Value)=>(z.andThen (fun a w'=>Result.ok a.toArray w')).andThen (fun a w'=>Sem.run P (pure (if h:a.size=1 then a[0] else Value.tuple a)) w')) h1) rfl
  refine ⟨_,hrun,?_⟩
  cases l with
  | nil =>
    obtain rfl:vs=[]:=h2
    exact ⟨[],rfl,rfl⟩
  | cons x l =>
    cases l with
    | nil =>
      obtain ⟨v,r,rfl,q1,rfl⟩:=h2
      exact q1
    | cons y l =>
      have:¬ vs.toArray.size=1:=by simp at hlen ⊢; omega
      rw [dif_neg this]
      exact ⟨vs,rfl,h2⟩
theorem ZuN:∀ {args:List AW} {vs:List Value} (n:Nat),Zdl X W E M args vs→Zb5 X W E M (args.map .w ++ List.replicate n Zhw) (vs ++ List.replicate n undef)
  | [],vs,n,h=>by
    obtain rfl:vs=[]:=h
    induction n with
    | zero=>rfl
    | succ n ih=>exact ⟨_,_,rfl,ZqO,ih⟩
  | _ :: _,_,n,⟨v,r,e,h1,h2⟩=>by rw [e]; exact ⟨v,_,rfl,h1,ZuN n h2⟩
theorem ZJ7 (hsz:∀ b ∈ X,b < W.heap.size):RepM X W [] []:=⟨rfl,List.nodup_nil,fun i b e h=>by simp at h,fun b hb=>by simp [foots] at hb,fun b _=>by simp [foots],hsz⟩
theorem ZkB {L:Nat→List AV→Mem→Zbn} {f:FuncId} {fn:Func} {args:List AW} {vs:List Value} {M0:Mem} {E0:Env} {Q:AV→Mem→Prop} (hf:P.funcs[f]?=some fn) (hT:ZsK X W E0 T) (h:ZCp T L fn args M0 Q) (hM0:RepM X W E0 M0) (hr:Zdl X W E0 M0 args vs)
    (hinp:∀ i ∈ T.inp,∃ t xs v c,M0[i]?=some (.row t xs v c none)) :
    Calls P f vs.toArray W (fun e W'=>∃ v E' M' r,e=.returned v∧Zkz T W E0 W' E' M'∧RepM X W' E' M'∧ZcR X W' E' M' r v∧Q r M'):=by
  unfold ZCp at h
  cases hb:fn.body with
  | none=>rw [hb] at h; exact h.elim
  | some c =>
    rw [hb] at h
    simp only at h
    refine calls_of_wp hf hb (ZuM (T:=T) (L:=L) (X:=X) (W0:=W) hT c (ZH3 fn.ntmps args) M0 _ W E0 _ _ (fun e tm M a W' E' hk hr' hg=>?_) h ⟨hM0,?_,rfl⟩ ⟨Zbz.refl _ _,fun i hi=>?_⟩)
    · have fin:∀ (hk:match ZHo P tm M fn.results.toList with | some l=>Q (ZJz l) M | none=>False),a.defers=[]∧∃ v,(results fn a.tmps).run P W'=.ok v W'∧∃ v' E' M' r,Ending.returned v=.returned v'∧Zkz T W E0 W' E' M'∧RepM X W' E' M'∧ZcR X W' E' M' r v'∧Q r M':=fun hk=>by
        split at hk
        · rename_i l hl
          obtain ⟨v,h1,h2⟩:=Zzv hr'.mem hr'.tmps hl
          exact ⟨hr'.dfr,v,h1,v,E',M,_,rfl,hg,hr'.mem,h2,hk⟩
        · exact hk.elim
      cases e with
      | normal=>exact fin hk
      | ret=>exact fin hk
      | _=>exact hk.elim
    · have:=ZuN (fn.ntmps - vs.length) hr
      have hl:=hr.len
      unfold ZH3
      rw [hl] at this
      have e1:(vs.toArray ++ Array.replicate (fn.ntmps - vs.toArray.size) undef).toList=vs ++ List.replicate (fn.ntmps - args.length) undef:=by simp [hl]
      show Zb5 X W E0 M0 _ (vs.toArray ++ Array.replicate (fn.ntmps - vs.toArray.size) undef).toList
      rw [e1]
      exact this
    · obtain ⟨t,xs,v,c,hi'⟩:=hinp i hi
      exact .inr ⟨t,xs,v,c,none,hi',fun _ e0 he0=>⟨e0,he0,rfl⟩⟩
end
def ZJq {α:Type} (p:α→Prop) (l:List α):Prop:=∀ x ∈ l,p x
def WfT:(t:Ty)→t.den→Prop
  | .int k,x=>(Lit.int k x).wf=true
  | .bool,_=>True
  | .str,s=>ByteArray.size s≤maxLen
  | .opq,_=>True
  | .prod a b,x=>WfT a x.1∧WfT b x.2
  | .list a,xs=>List.length (α:=a.den) xs≤maxLen∧ZJq (α:=a.den) (WfT a) xs
def WfC:AC→Prop
  | .int k x=>(Lit.int k x).wf=true
  | .str s=>s.size≤maxLen
  | .hs .no t xs=>xs.length≤maxLen∧ZJq (WfT t) xs
  | .ep .no t xs _ _=>ZJq (WfT t) xs
  | _=>True
def WfL:List AC→Prop
  | []=>True
  | c :: l=>WfC c∧WfL l
def WfW:AW→Prop
  | .c a=>WfC a
  | .ag l=>WfL l
def WfA:List AW→Prop
  | []=>True
  | x :: l=>WfW x∧WfA l
theorem ZEr {α:Type} [GoRep α] {W:World} {p:α→Prop} (hp:∀ x cs F,rep W x cs F→p x) {b:Nat}:∀ {xs:List α} {off:Nat} {G:List Nat},Zct W b off xs G→∀ x ∈ xs,p x
  | [],_,_,_,x,hx=>by simp at hx
  | y :: xs,_,_,⟨cs,G1,G2,h1,_,h3,_⟩,x,hx=>by
    rcases List.mem_cons.1 hx with rfl | hx
    · exact hp _ _ _ h1
    · exact ZEr hp h3 x hx
theorem ZqV {W:World}:∀ (t:Ty) {x:t.den} {cs:List Value} {F:List Nat},rep W x cs F→WfT t x
  | .int _,_,_,_,h=>h.2.1
  | .bool,_,_,_,_=>trivial
  | .str,_,_,_,h=>h.2.1
  | .opq,_,_,_,_=>trivial
  | .prod a b,_,_,_,⟨_,_,_,_,h1,h2,_,_⟩=>⟨ZqV a h1,ZqV b h2⟩
  | .list a,xs,_,_,⟨A,c,_,h1,h2,h3⟩=>by
    refine ⟨Nat.le_trans h1 h2,fun x hx=>?_⟩
    rcases h3 with ⟨rfl,_⟩ | ⟨_,b,off,G,_,_,hr⟩
    · simp at hx
    · exact ZEr (fun x cs F h=>ZqV a h) hr x hx
section
variable {P:Program} {X:List Nat} {W:World} {E:Env} {M:Mem}
theorem ZEs:∀ {c:AC} {v:Value},ZbL X W E M c v→WfC c
  | .int _ _,_,h=>h.2
  | .bool _,_,_=>trivial
  | .str _,_,h=>h.2
  | .opq _,_,_=>trivial
  | .hs .no t xs,v,⟨_,F,h,_⟩=>ZqV (.list t) h
  | .hs (.at _ _ _) _ _,_,_=>trivial
  | .bp _ _,_,_=>trivial
  | .ep .no t xs k o,v,⟨_,F,⟨b,off,G,_,_,_,h⟩,_⟩=>fun x hx=>ZEr (fun x cs F h=>ZqV t h) h x hx
  | .ep (.at _ _ _) _ _ _ _,_,_=>trivial
  | .row _ _,_,_=>trivial
  | .rp _ _ _ _ _,_,_=>trivial
  | .sl _ _ _ _ _ _,_,_=>trivial
  | .sp _ _ _ _ _ _ _ _ _,_,_=>trivial
  | .tl _ _ _ _,_,_=>trivial
  | .mp _,_,_=>trivial
  | .junk,_,_=>trivial
  | .fn _ _,_,_=>trivial
  | .raw _,_,_=>trivial
theorem Zzw:∀ {l:List AC} {vs:List Value},Zcg X W E M l vs→WfL l
  | [],_,_=>trivial
  | _ :: _,_,⟨_,_,_,h1,h2⟩=>⟨ZEs h1,Zzw h2⟩
theorem Zk0:∀ {l:List AW} {vs:List Value},Zdl X W E M l vs→WfA l
  | [],_,_=>trivial
  | .c _ :: _,_,⟨_,_,_,h1,h2⟩=>⟨ZEs h1,Zk0 h2⟩
  | .ag _ :: _,_,⟨_,_,_,⟨_,_,h1⟩,h2⟩=>⟨Zzw h1,Zk0 h2⟩
theorem ZHR {W0:World} {res r:AV} {new:Mem} {v:Value} {T:Tab P} (hM:RepM X W E M) (hg:Zbz W0 [] W E) (hr:ZcR X W E M r v) (h:ZJA res new r M):∃ E',Zbz W0 [] W E'∧RepM X W E' new∧ZcR X W E' new res v:=by
  obtain ⟨hn,hc⟩:=h
  obtain ⟨us,hus⟩:∃ us,us=(ZmK M new [] r res).used:=⟨_,rfl⟩
  rw [← hus] at hc
  rw [Bool.and_eq_true] at hc
  have hlen:=Nat.eq_of_beq_eq_true hc.1
  obtain ⟨hu,hv⟩:=Zrg (X':=X) (us:=us) (acc:=[]) hM (fun b hb=>.inl hb) (fun q u h=>by simp at h) hn hr (fun q u h=>by rw [hus]; simpa using h)
  rw [← hus] at hu
  have hu:ZcM X X W E M new us 0 us:=hu
  refine ⟨pickE E us,⟨hg.os,hg.tape,hg.output,hg.size,hg.keep,fun b hb=>hg.new b (ZdM b hb),fun i e h=>by simp at h⟩,Zof hM hu hlen hc.2 (fun b hb hf=>hM.xlt b hb (ZdM b hf)) hM.xsz,hv⟩
theorem ZqW:∀ {l:Mem} {k j:Nat} {c:List AC},l[j]?=some (.box c)→k + j ∈ ZuV k l
  | [],_,_,_,h=>by simp at h
  | .box _ :: l,k,0,c,h=>List.mem_cons_self
  | b :: l,k,j + 1,c,h=>by
    have:=ZqW (l:=l) (k:=k + 1) (j:=j) (c:=c) (by simpa using h)
    rw [show k + 1 + j=k + (j + 1) by omega] at this
    cases b <;> first | exact List.mem_cons_of_mem _ this | exact this
  | .row _ _ _ _ none :: l,k,0,c,h=>by cases h
  | .mp _ :: l,k,0,c,h=>by cases h
  | .dead :: l,k,0,c,h=>by cases h
theorem ZuO {us:List (Option Nat)} {l:List Nat} (h:ZIV us l=true) {j:Nat} (hj:j ∈ l):us[j]?=some (some j):=by
  have h1:=List.all_eq_true.1 h j hj
  unfold ZEz at h1
  split at h1
  · rename_i i hi
    rw [hi,Nat.eq_of_beq_eq_true h1]
  · cases h1
theorem ZuP {X' : List Nat} {new:Mem} {us:List (Option Nat)} (hM:RepM X W E M) (hX:∀ b ∈ X',b ∈ X∨b ∈ foots E):∀ {ps:List (AW × AW)} {acc:List (Option Nat)},(∀ (q:Nat) (u:Option Nat),acc[q]?=some u→us[q]?=some u)→(ZkF M new acc ps).need →
    (∀ (q:Nat) (u:Option Nat),(ZkF M new acc ps).used[q]?=some u→us[acc.length + q]?=some u)→(∀ p ∈ ps,∃ v,ZjP X W E M p.1 v)→ZcM X X' W E M new us acc.length (ZkF M new acc ps).used
  | [],_,_,_,_,_=>trivial
  | p :: ps,acc,hacc,⟨h1,h2⟩,hus,hv=>by
    have hus:∀ (q:Nat) (u:Option Nat),((ZdG M new acc p.1 p.2).used ++ (ZkF M new (acc ++ (ZdG M new acc p.1 p.2).used) ps).used)[q]?=some u→us[acc.length + q]?=some u:=hus
    have hu1:∀ (q:Nat) (u:Option Nat),(ZdG M new acc p.1 p.2).used[q]?=some u→us[acc.length + q]?=some u:=fun q u hq=>hus q u (by rw [List.getElem?_append_left (List.getElem?_eq_some_iff.1 hq).1]; exact hq)
    have hacc2:∀ (q:Nat) (u:Option Nat),(acc ++ (ZdG M new acc p.1 p.2).used)[q]?=some u→us[q]?=some u:=fun q u hq=>by
      exact Zjf
    obtain ⟨v,hv1⟩:=hv p List.mem_cons_self
    obtain ⟨q1,_⟩:=Zrh hM hX hacc h1 hv1 hu1
    have p1:=ZuP hM hX hacc2 h2 (fun q u hq=>by
      have:=hus ((ZdG M new acc p.1 p.2).used.length + q) u (by rw [List.getElem?_append_right (by omega),Nat.add_sub_cancel_left]; exact hq)
      rwa [List.length_append,Nat.add_assoc]) (fun p hp=>hv p (List.mem_cons_of_mem _ hp))
    rw [List.length_append] at p1
    exact q1.app p1
theorem pairs_name:∀ {ins:List MTy} {k:Nat} {p:AW × AW},p ∈ Zm6 k ins→(∃ j,p.1=.c (.bp j 0)∧j < k + (ins.map MTy.nb).sum)∨(∃ j ∈ inpM k ins,p.1=.c (.row j 0))∨p.1=.c (.raw (.slice none 0 0))
  | [],_,_,h=>by simp [Zm6] at h
  | y :: l,k,p,h=>by
    have seq_lt:∀ (n k j:Nat),j ∈ seqN k n→j < k + n:=by
      intro n
      induction n with
      | zero=>intro k j h; simp [seqN] at h
      | succ n ih =>
        intro k j h
        rcases List.mem_cons.1 h with rfl | h
        · omega
        · have:=ih (k + 1) j h; omega
    have up:∀ {n:Nat} {inp:List Nat},n=y.nb→inpM k (y :: l)=inp ++ inpM (k + n) l→p ∈ Zm6 (k + n) l→(∃ j,p.1=.c (.bp j 0)∧j < k + ((y :: l).map MTy.nb).sum)∨(∃ j ∈ inpM k (y :: l),p.1=.c (.row j 0))∨p.1=.c (.raw (.slice none 0 0)):=fun {n inp} hn hi hp=>by
      rcases pairs_name hp with ⟨j,h1,h2⟩ | ⟨j,h1,h2⟩ | h
      · exact .inl ⟨j,h1,by rw [List.map_cons,List.sum_cons,← hn]; omega⟩
      · exact .inr (.inl ⟨j,by rw [hi]; exact List.mem_append_right _ h1,h2⟩)
      · exact .inr (.inr h)
    cases y with
    | a y=>exact up (n:=0) (inp:=[]) rfl rfl h
    | m t =>
      exact Zwh
    | e t =>
      rcases List.mem_cons.1 h with rfl | h
      · exact .inr (.inl ⟨k,List.mem_cons_self,rfl⟩)
      · exact up (inp:=[k]) rfl rfl h
    | q g t =>
      rcases List.mem_append.1 h with h | h
      · obtain ⟨j,hj,rfl⟩:=List.mem_map.1 h
        exact .inr (.inl ⟨j,List.mem_append_left _ hj,rfl⟩)
      · exact up (inp:=seqN k t.nl) rfl rfl h
    | g g t =>
      rcases List.mem_append.1 h with h | h
      · obtain ⟨j,hj,rfl⟩:=List.mem_map.1 h
        exact .inr (.inr rfl)
      · exact up (inp:=[]) rfl rfl h
    | b t =>
      exact Zwh
    | f g c =>
      rcases List.mem_append.1 h with h | h
      · obtain ⟨j,hj,rfl⟩:=List.mem_map.1 h
        refine .inl ⟨j,rfl,?_⟩
        have:=seq_lt _ _ _ hj
        rw [List.map_cons,List.sum_cons]
        show j < k + (c.length + _)
        omega
      · exact up (inp:=[]) rfl rfl h
theorem Zsz:∀ {l:List ZIS} {x:ZHW l},(ZJr l x).length=l.length
  | [],_=>rfl
  | .b t :: l,x=>congrArg (· + 1) (Zsz (l:=l) (x:=x.2))
  | .ptr j :: l,x=>congrArg (· + 1) (Zsz (l:=l) (x:=(x:ZHW l)))
theorem Zhh:∀ {t:Ty} {x:t.den},(Zi6 t x).length=t.nl
  | .int _,_=>rfl
  | .bool,_=>rfl
  | .str,_=>rfl
  | .opq,_=>rfl
  | .prod a b,x=>(List.length_append).trans (congr (congrArg Nat.add (Zhh (t:=a))) (Zhh (t:=b)))
  | .list _,_=>rfl
theorem Zk1 {k:Nat}:∀ {y:MTy} {x:y.D},(preM1 k y x).length=y.nb
  | .a _,_=>rfl
  | .m t,x=>congrArg (· + 1) (Zhh (t:=t))
  | .e _,_=>rfl
  | .q _ t,x=>Zhh (t:=t)
  | .g _ t,x=>Zhh (t:=t)
  | .b _,_=>rfl
  | .f _ l,x=>Zsz (l:=l)
theorem ZAw:∀ {ins:List MTy} {k:Nat} {x:MD ins},(Zga k ins x).length=(ins.map MTy.nb).sum
  | [],_,_=>rfl
  | y :: l,k,x=>by
    show (preM1 k y x.1 ++ Zga (k + y.nb) l x.2).length=_
    rw [List.length_append,Zk1,ZAw,List.map_cons,List.sum_cons]
theorem Zl5:∀ {t:Ty} {x:t.den} {b:Blk},b ∈ Zi6 t x→∃ (t' : Ty) (xs:List t'.den),b=.row t' xs 0 0 none
  | .int _,_,_,h=>by simp [Zi6] at h
  | .bool,_,_,h=>by simp [Zi6] at h
  | .str,_,_,h=>by simp [Zi6] at h
  | .opq,_,_,h=>by simp [Zi6] at h
  | .prod a b,x,_,h=>(List.mem_append.1 h).elim (Zl5 (t:=a)) (Zl5 (t:=b))
  | .list a,xs,_,h=>⟨a,xs,List.mem_singleton.1 h⟩
theorem ZAx:∀ {n k j:Nat},j ∈ seqN k n→k≤j∧j < k + n
  | 0,_,_,h=>by simp [seqN] at h
  | n + 1,k,j,h=>by
    rcases List.mem_cons.1 h with rfl | h
    · omega
    · have:=ZAx h; omega
theorem ZsA:∀ {ins:List MTy} {k:Nat} {x:MD ins} {i:Nat},i ∈ inpM k ins→k≤i∧∃ (t:Ty) (xs:List t.den) (v c:Nat),(Zga k ins x)[i - k]?=some (.row t xs v c none)
  | [],_,_,_,h=>by simp [inpM] at h
  | y :: l,k,x,i,h=>by
    have up:i ∈ inpM (k + y.nb) l→k≤i∧∃ (t:Ty) (xs:List t.den) (v c:Nat),(Zga k (y :: l) x)[i - k]?=some (.row t xs v c none):=fun h=>by
      obtain ⟨h1,t,xs,v,c,h2⟩:=ZsA (x:=x.2) h
      refine ⟨by omega,t,xs,v,c,?_⟩
      show (preM1 k y x.1 ++ Zga (k + y.nb) l x.2)[i - k]?=_
      rw [List.getElem?_append_right (by rw [Zk1]; omega),Zk1,← h2]
      congr 1
      omega
    have here:i ∈ seqN k y.nb→(∀ b ∈ preM1 k y x.1,∃ (t' : Ty) (xs:List t'.den),b=.row t' xs 0 0 none)→k≤i∧∃ (t:Ty) (xs:List t.den) (v c:Nat),(Zga k (y :: l) x)[i - k]?=some (.row t xs v c none):=fun h hb=>by
      obtain ⟨h1,h2⟩:=ZAx h
      refine ⟨h1,?_⟩
      have hl:i - k < (preM1 k y x.1).length:=by rw [Zk1]; omega
      obtain ⟨t,xs,e⟩:=hb _ (List.getElem_mem hl)
      refine ⟨t,xs,0,0,?_⟩
      show (preM1 k y x.1 ++ Zga (k + y.nb) l x.2)[i - k]?=_
      rw [List.getElem?_append_left hl,List.getElem?_eq_getElem hl,e]
    cases y with
    | e t =>
      rcases List.mem_cons.1 h with h | h
      · exact here (by rw [h]; exact List.mem_cons_self) (fun b hb=>⟨t,_,List.mem_singleton.1 hb⟩)
      · exact up h
    | q g t =>
      rcases List.mem_append.1 h with h | h
      · exact here h (fun b hb=>Zl5 (t:=t) hb)
      · exact up h
    | a _=>exact up h
    | m _=>exact up h
    | g _ _=>exact up h
    | b _=>exact up h
    | f _ _=>exact up h
def WfB:Blk→Prop
  | .row t xs _ _ none=>WfT (.list t) xs
  | .box l=>WfL l
  | _=>True
def WfM:Mem→Prop
  | []=>True
  | b :: l=>WfB b∧WfM l
theorem ZGb {t:Ty} {xs:List t.den} {v:Value} {F:List Nat} (h:ZbY W (Zbb W t) t.n xs v F):WfT (.list t) xs:=by
  obtain ⟨F',h1,_⟩:=Zbb.rep (.list t) (x:=xs) (cs:=[v]) ⟨v,rfl,h⟩
  exact ZqV (.list t) h1
theorem ZHS {b:Blk} {e:EB} (h:ZIi X W E M b e):WfB b:=by
  cases b with
  | row t xs v c hh =>
    cases hh with
    | none=>exact ZGb h
    | some _=>trivial
  | box l=>obtain ⟨_,cs,T,_,h⟩:=h; exact Zzw h
  | mp _=>trivial
  | dead=>trivial
theorem ZHT (hM:RepM X W E M):WfM M:=by
  have:∀ b ∈ M,WfB b:=fun b hb=>by
    obtain ⟨i,hi⟩:=List.mem_iff_getElem?.1 hb
    have hl:i < E.length:=by rw [← hM.len]; exact (List.getElem?_eq_some_iff.1 hi).1
    exact ZHS (hM.at_ i b _ hi (List.getElem?_eq_getElem hl))
  clear hM
  induction M with
  | nil=>trivial
  | cons b l ih=>exact ⟨this b List.mem_cons_self,ih (fun b hb=>this b (List.mem_cons_of_mem _ hb))⟩
theorem ZiS {T:Tab P} {L:Nat→List AV→Mem→Zbn} {f:FuncId} {fn:Func} {args:List AW} {res:AV} {new:Mem} (hf:P.funcs[f]?=some fn) (hC:(T.C=none∧T.n0=0)∧T.inp=[]) (h:WfA args→ZCp T L fn args [] (ZJA res new)):Zat P f args res new:=fun X W vs hsz hgl hr =>
  (ZkB (E0:=[]) hf ⟨.inl hC.1.1,hC.1.2,(fun i hi=>by rw [hC.2] at hi; cases hi),hgl⟩ (h (Zk0 hr)) (ZJ7 hsz) hr (fun i hi=>by rw [hC.2] at hi; cases hi)).mono fun e W' hq=>by
    exact Zwr
theorem Zf1 {T:Tab P} {L:Nat→List AV→Mem→Zbn} {f:FuncId} {fn:Func} {args:List AW} {res:AV} {vs:List Value} (hf:P.funcs[f]?=some fn) (hn0:T.n0=0∧T.inp=[]) (hT:∀ c,T.C=some c→ZJt X W c) (hsz:∀ b ∈ X,b < W.heap.size) (hgl:Zlf W []) (hr:Zdl X W [] [] args vs)
    (h:WfA args→ZCp T L fn args [] (ZJA res [])) :
    Calls P f vs.toArray W (fun e W'=>∃ v E',e=.returned v∧Zbz W [] W' E'∧RepM X W' E' []∧ZcR X W' E' [] res v) :=
  (ZkB (E0:=[]) hf ⟨.inr ⟨rfl,hT⟩,hn0.1,(fun i hi=>by rw [hn0.2] at hi; cases hi),hgl⟩ (h (Zk0 hr)) (ZJ7 hsz) hr (fun i hi=>by rw [hn0.2] at hi; cases hi)).mono fun e W' hq=>by
    exact Zwr
theorem Zb1 {T:Tab P} {L:Nat→List AV→Mem→Zbn} {f:FuncId} {fn:Func} {ins:List MTy} {x y:MD ins} {res:AV} {new:Mem} (hf:P.funcs[f]?=some fn) (hC:T.C=none) (hn0:T.n0=(Zga 0 ins x).length) (hinp:T.inp=inpM 0 ins)
    (hsame:Zgc (Zga 0 ins x) (ZdF 0 ins y ++ new)=true)
    (h:WfA (ZcX 0 ins x)→WfM (Zga 0 ins x)→ZCp T L fn (ZcX 0 ins x) (Zga 0 ins x) (ZKy ins (ZdF 0 ins y ++ new) res)):Zc0 P f (ZcX 0 ins x) (Zga 0 ins x) (ZdF 0 ins y ++ new) (inpM 0 ins) res:=fun X W E0 vs hgl hM0 hr=>by
  have hrow:∀ i ∈ T.inp,∃ (t:Ty) (xs:List t.den) (v c:Nat),(Zga 0 ins x)[i]?=some (.row t xs v c none):=fun i hi=>by
    rw [hinp] at hi
    obtain ⟨_,h⟩:=ZsA (x:=x) hi
    exact h
  have hl0:(Zga 0 ins x).length=E0.length:=hM0.len
  refine (ZkB (T:=T) hf ⟨.inl hC,by rw [hn0,hl0],(fun i hi=>by
    obtain ⟨t,xs,v,c,h⟩:=hrow i hi
    rw [← hl0]
    exact (List.getElem?_eq_some_iff.1 h).1),hgl⟩ (h (Zk0 hr) (ZHT hM0)) hM0 hr hrow).mono fun e W' hq=>?_
  obtain ⟨v,E',M',r,rfl,hs,m,hv,hn,hchk⟩:=hq
  obtain ⟨qm,hqm⟩:∃ qm,qm=ZdF 0 ins y ++ new:=⟨_,rfl⟩
  rw [← hqm] at hn hchk hsame ⊢
  obtain ⟨us1,hus1⟩:∃ us1,us1=(ZkF M' qm [] (Zm6 0 ins)).used:=⟨_,rfl⟩
  rw [← hus1] at hn hchk
  obtain ⟨us2,hus2⟩:∃ us2,us2=(ZmK M' qm us1 r res).used:=⟨_,rfl⟩
  rw [← hus2] at hchk
  simp only [Bool.and_eq_true] at hchk
  obtain ⟨⟨c1,c2⟩,c3,c4⟩:=hchk
  have c1:=Nat.eq_of_beq_eq_true c1
  have hlE:∀ j,j < (Zga 0 ins x).length→∃ ej e0,E'[j]?=some ej∧E0[j]?=some e0∧ej.blk=e0.blk:=fun j hj=>by
    have h0:E0[j]?=some (E0[j]'(by omega)):=List.getElem?_eq_getElem (by omega)
    obtain ⟨ej,q1,q2⟩:=hs.g.blk j _ h0
    exact ⟨ej,_,q1,h0,q2⟩
  have hu1:ZcM X X W' E' M' qm (us1 ++ us2) 0 us1:=by
    have:=ZuP (X':=X) (us:=us1 ++ us2) (acc:=[]) m (fun b hb=>.inl hb) (fun q u h=>by simp at h) hn.1 (fun q u h=>by rw [← hus1] at h; rw [List.length_nil,Nat.zero_add,List.getElem?_append_left (List.getElem?_eq_some_iff.1 h).1]; exact h) (fun p hp=>by
      rcases pairs_name hp with ⟨j,h1,h2⟩ | ⟨j,h1,h2⟩ | h1
      · rw [h1]
        obtain ⟨ej,e0,q1,_⟩:=hlE j (by rw [ZAw]; omega)
        exact ⟨_,ej,q1,rfl⟩
      · rw [h2]
        have hv0:=List.all_eq_true.1 c4 j h1
        rcases hs.kept j (by rw [hinp]; exact h1) with hd | ⟨t,xs,v',c,hh,k1,_⟩
        · rw [hd] at hv0; cases hv0
        · rw [k1] at hv0
          cases hh with
          | some _=>cases hv0
          | none =>
          obtain rfl:=Nat.eq_of_beq_eq_true (show Nat.beq v' 0=true from hv0)
          obtain ⟨_,t2,xs2,v2,c2,h3⟩:=ZsA (x:=x) h1
          obtain ⟨ej,e0,q1,_⟩:=hlE j (by have:=(List.getElem?_eq_some_iff.1 h3).1; omega)
          have hol:ZbY W' (Zbb W' t) t.n xs ej.val ej.foot:=m.at_ j _ ej k1 q1
          obtain ⟨A,c',hsl⟩:=ZcI hol
          refine ⟨ej.val,by rw [hsl]; rfl,?_⟩
          unfold Zb8
          rw [k1]
          exact ⟨Nat.le_refl _,fun _=>⟨ej,q1,rfl⟩⟩
      · rw [h1]
        exact ⟨.slice none 0 0,rfl,rfl⟩)
    rw [← hus1] at this
    exact this
  obtain ⟨hu2,hv2⟩:=Zrg (X':=X) (us:=us1 ++ us2) (acc:=us1) m (fun b hb=>.inl hb) (fun q u h=>by rw [List.getElem?_append_left (List.getElem?_eq_some_iff.1 h).1]; exact h) hn.2 hv (fun q u h=>by rw [← hus2] at h; rw [List.getElem?_append_right (by omega),Nat.add_sub_cancel_left]; exact h)
  rw [← hus2] at hu2
  have hu:ZcM X X W' E' M' qm (us1 ++ us2) 0 (us1 ++ us2):=hu1.app (by rw [Nat.zero_add]; exact hu2)
  refine ⟨v,pickE E' (us1 ++ us2),rfl,⟨hs.g.os,hs.g.tape,hs.g.output,hs.g.size,hs.g.keep,fun b hb=>hs.g.new b (ZdM b hb)⟩,fun i l e0 hb he0=>?_,fun i hi e0 he0=>?_,Zof m hu c1 c2 (fun b hb hf=>m.xlt b hb (ZdM b hf)) m.xsz,hv2⟩
  · have hq:∃ l',qm[i]?=some (.box l'):=Zkw hsame hb
    obtain ⟨l',hq⟩:=hq
    have hin:i ∈ ZuV 0 qm:=by have:=ZqW (k:=0) hq; rwa [Nat.zero_add] at this
    have hus:=ZuO c3 (List.mem_append_left _ hin)
    obtain ⟨ej,e0',q1,q2,q3⟩:=hlE i (List.getElem?_eq_some_iff.1 hb).1
    rw [he0] at q2
    obtain rfl:=Option.some.inj q2
    exact ⟨ej,ZdT hus q1,q3⟩
  · have hus:=ZuO c3 (List.mem_append_right _ hi)
    have hv0:=List.all_eq_true.1 c4 i hi
    rcases hs.kept i (by rw [hinp]; exact hi) with hd | ⟨t,xs,v',c,hh,k1,k2⟩
    · rw [hd] at hv0; cases hv0
    · rw [k1] at hv0
      cases hh with
      | some _=>cases hv0
      | none =>
      obtain rfl:=Nat.eq_of_beq_eq_true (show Nat.beq v' 0=true from hv0)
      obtain ⟨ej,q1,q2⟩:=k2 rfl e0 he0
      exact ⟨ej,ZdT hus q1,q2⟩
theorem RV.of_b {f:FuncId} {args:List AW} {c:AC} {w:World} {vs:List Value} {u:Value} (h:Zat P f args (.c c) []) (hgl:Zlf w []) (hr:Zdl [] w [] [] args vs) (hc:∀ W' E' v,ZbL [] W' E' [] c v→v=u):Calls P f vs.toArray w (RV u w) :=
  (h [] w vs (by simp) hgl hr).mono fun e W' hq=>by
    obtain ⟨v,E',rfl,g,m,hv⟩:=hq
    obtain rfl:=hc _ _ _ hv
    exact ⟨rfl,Zji g.below⟩
theorem ZEt {w:World} (t:Ty) {x:t.den} {cs:List Value} (h:ZHt w x cs):ZjP [] w [] [] (.ag (cellsOf t x)) (.agg cs.toArray):=by
  obtain ⟨F,h⟩:=h
  exact ⟨cs,rfl,Zc1 (L:=.no) t h (fun b hb=>⟨by simp [foots],GoRep.lt h b hb⟩)⟩
end
theorem Zng {b:Bool} {p q:Prop}:(bif b then p else q)↔((b=true→p)∧(b=false→q)):=by cases b <;> simp
section
variable {P:Program} {X X2:List Nat} {W W' : World} {E:Env} {M:Mem}
def Ty.quo:Ty→Ty
  | .int k=>.int k
  | .bool=>.bool
  | .str=>.str
  | .opq=>.opq
  | .prod a b=>.prod a.quo b.quo
  | .list _=>.opq
def Zxk (W:World):(t:Ty)→t.den→t.quo.den→List Nat→Prop
  | .int _,x,q,F=>@Eq Int x q∧F=[]
  | .bool,x,q,F=>@Eq Bool x q∧F=[]
  | .str,x,q,F=>@Eq ByteArray x q∧F=[]
  | .opq,x,q,F=>@Eq Value x q∧F=[]
  | .prod a b,x,q,F=>∃ F1 F2,Zxk W a x.1 q.1 F1∧Zxk W b x.2 q.2 F2∧F=F1 ++ F2
  | .list a,xs,q,F=>ZbY W (Zbb W a) a.n xs q F
theorem ZGc:∀ t:Ty,t.quo.n=t.n
  | .int _=>rfl
  | .bool=>rfl
  | .str=>rfl
  | .opq=>rfl
  | .prod a b=>by
    show a.quo.n + b.quo.n=a.n + b.n
    rw [ZGc a,ZGc b]
  | .list _=>rfl
theorem ZsB:∀ t:Ty,t.quo.flat=true
  | .int _=>rfl
  | .bool=>rfl
  | .str=>rfl
  | .opq=>rfl
  | .prod a b=>by
    show (a.quo.flat && b.quo.flat)=true
    rw [ZsB a,ZsB b]
    rfl
  | .list _=>rfl
theorem ZsC:∀ (t:Ty) {x:t.den} {cs:List Value} {F:List Nat},Zbb W t x cs F→∃ q:t.quo.den,Zbb W t.quo q cs []∧Zxk W t x q F
  | .int _,x,_,_,h=>⟨x,⟨h.1,h.2.1,rfl⟩,rfl,h.2.2⟩
  | .bool,x,_,_,h=>⟨x,⟨h.1,rfl⟩,rfl,h.2⟩
  | .str,x,_,_,h=>⟨x,⟨h.1,h.2.1,rfl⟩,rfl,h.2.2⟩
  | .opq,x,_,_,h=>⟨x,⟨h.1,h.2.1,rfl⟩,rfl,h.2.2⟩
  | .prod a b,x,_,_,⟨c1,c2,F1,F2,h1,h2,e1,e2⟩=>by
    obtain ⟨q1,r1,k1⟩:=ZsC a h1
    obtain ⟨q2,r2,k2⟩:=ZsC b h2
    exact ⟨(q1,q2),⟨c1,c2,[],[],r1,r2,e1,rfl⟩,F1,F2,k1,k2,e2⟩
  | .list a,xs,_,_,⟨v,e,h⟩=>by
    obtain ⟨T,cells,G,h0,h1,h2⟩:=h
    exact ⟨v,⟨e,Zdo h0,rfl⟩,T,cells,G,h0,h1,h2⟩
theorem Zov:∀ (t:Ty) {x:t.den} {q:t.quo.den} {cs:List Value} {F:List Nat},Zbb W t.quo q cs []→Zxk W t x q F→Zbb W t x cs F
  | .int _,x,q,_,_,h,⟨k1,k2⟩=>by
    exact ZpB
  | .bool,x,q,_,_,h,⟨k1,k2⟩=>by
    have k1:x=q:=k1
    subst k1
    exact ⟨h.1,k2⟩
  | .str,x,q,_,_,h,⟨k1,k2⟩=>by
    exact ZpB
  | .opq,x,q,_,_,h,⟨k1,k2⟩=>by
    exact ZpB
  | .prod a b,x,q,_,_,⟨c1,c2,G1,G2,h1,h2,e1,e2⟩,⟨F1,F2,k1,k2,e3⟩=>by
    have e2:[]=G1 ++ G2:=e2
    obtain ⟨rfl,rfl⟩:=List.append_eq_nil_iff.1 e2.symm
    exact ⟨c1,c2,F1,F2,Zov a h1 k1,Zov b h2 k2,e1,e3⟩
  | .list a,xs,q,_,_,h,k=>⟨q,h.1,k⟩
theorem ZbY.keep2 {t:Ty} {xs:List t.den} {v:Value} {F:List Nat} (h:ZbY W (Zbb W t) t.n xs v F) (hk:∀ b ∈ F,W'.heap[b]?=W.heap[b]?):ZbY W' (Zbb W' t) t.n xs v F:=ZbY.keep h hk
theorem Zxk.keep:∀ (t:Ty) {x:t.den} {q:t.quo.den} {F:List Nat},Zxk W t x q F→(∀ b ∈ F,W'.heap[b]?=W.heap[b]?)→Zxk W' t x q F
  | .int _,_,_,_,h,_=>h
  | .bool,_,_,_,h,_=>h
  | .str,_,_,_,h,_=>h
  | .opq,_,_,_,h,_=>h
  | .prod a b,_,_,_,⟨F1,F2,h1,h2,e⟩,hk=>⟨F1,F2,Zxk.keep a h1 (fun p hp=>hk p (by rw [e]; simp [hp])),Zxk.keep b h2 (fun p hp=>hk p (by rw [e]; simp [hp])),e⟩
  | .list a,_,_,_,h,hk=>ZbY.keep2 (t:=a) h hk
def ZcD (W:World) (t:Ty):List t.den→List t.quo.den→List Nat→Prop
  | [],[],G=>G=[]
  | x :: xs,q :: qs,G=>∃ G1 G2,Zxk W t x q G1∧ZcD W t xs qs G2∧G=G1 ++ G2
  | _,_,_=>False
theorem ZsD {t:Ty}:∀ {xs:List t.den} {cells:List Value} {G:List Nat},ZbD (Zbb W t) xs cells G→∃ qs:List t.quo.den,ZbD (Zbb W t.quo) qs cells []∧ZcD W t xs qs G
  | [],_,_,h=>⟨[],⟨h.1,rfl⟩,h.2⟩
  | _ :: _,_,_,⟨c1,c2,G1,G2,h1,h2,e1,e2⟩=>by
    obtain ⟨q,r1,k1⟩:=ZsC t h1
    obtain ⟨qs,r2,k2⟩:=ZsD h2
    exact ⟨q :: qs,⟨c1,c2,[],[],r1,r2,e1,rfl⟩,G1,G2,k1,k2,e2⟩
theorem Zow {t:Ty}:∀ {xs:List t.den} {qs:List t.quo.den} {cells:List Value} {G:List Nat},ZbD (Zbb W t.quo) qs cells []→ZcD W t xs qs G→ZbD (Zbb W t) xs cells G
  | [],[],_,_,h,k=>⟨h.1,k⟩
  | [],_ :: _,_,_,_,k=>k.elim
  | _ :: _,[],_,_,_,k=>k.elim
  | _ :: _,_ :: _,_,_,⟨c1,c2,H1,H2,h1,h2,e1,e2⟩,⟨G1,G2,k1,k2,e3⟩=>by
    obtain ⟨rfl,rfl⟩:=List.append_eq_nil_iff.1 e2.symm
    exact ⟨c1,c2,G1,G2,Zov t h1 k1,Zow h2 k2,e1,e3⟩
theorem ZcD.app {t:Ty}:∀ {xs ys:List t.den} {qs rs:List t.quo.den} {G H:List Nat},ZcD W t xs qs G→ZcD W t ys rs H→ZcD W t (xs ++ ys) (qs ++ rs) (G ++ H)
  | [],_,[],_,_,_,h,k=>by
    obtain rfl:_=[]:=h
    exact k
  | [],_,_ :: _,_,_,_,h,_=>h.elim
  | _ :: _,_,[],_,_,_,h,_=>h.elim
  | _ :: _,_,_ :: _,_,_,_,⟨G1,G2,h1,h2,e⟩,k=>⟨G1,_,h1,ZcD.app h2 k,by rw [e,List.append_assoc]⟩
theorem ZcD.split {t:Ty}:∀ (k:Nat) {xs:List t.den} {qs:List t.quo.den} {G:List Nat},ZcD W t xs qs G→∃ G1 G2,G=G1 ++ G2∧ZcD W t (xs.take k) (qs.take k) G1∧ZcD W t (xs.drop k) (qs.drop k) G2
  | 0,_,_,G,h=>⟨[],G,rfl,rfl,h⟩
  | _ + 1,[],[],G,h=>⟨[],G,rfl,rfl,h⟩
  | _ + 1,[],_ :: _,_,h=>h.elim
  | _ + 1,_ :: _,[],_,h=>h.elim
  | k + 1,_ :: _,_ :: _,_,⟨G1,G2,h1,h2,e⟩=>by
    obtain ⟨A,B,e1,q1,q2⟩:=ZcD.split k h2
    exact ⟨G1 ++ A,B,by rw [e,e1,List.append_assoc],⟨G1,A,h1,q1,rfl⟩,q2⟩
theorem ZcD.out {t:Ty} (k:Nat) {xs:List t.den} {qs:List t.quo.den} {G:List Nat} (h:ZcD W t xs qs G):∃ G1 Gd G3,G=G1 ++ (Gd ++ G3)∧ZcD W t (xs.take k ++ xs.drop (k + 1)) (qs.take k ++ qs.drop (k + 1)) (G1 ++ G3):=by
  obtain ⟨G1,G2,e1,q1,q2⟩:=h.split k
  obtain ⟨Gd,G3,e2,q3,q4⟩:=q2.split 1
  rw [List.drop_drop,List.drop_drop] at q4
  exact ⟨G1,Gd,G3,by rw [e1,e2],q1.app q4⟩
theorem ZcD.len {t:Ty}:∀ {xs:List t.den} {qs:List t.quo.den} {G:List Nat},ZcD W t xs qs G→qs.length=xs.length
  | [],[],_,_=>rfl
  | [],_ :: _,_,h=>h.elim
  | _ :: _,[],_,h=>h.elim
  | _ :: _,_ :: _,_,⟨_,_,_,h,_⟩=>by rw [List.length_cons,List.length_cons,ZcD.len h]
theorem ZcD.keep {t:Ty}:∀ {xs:List t.den} {qs:List t.quo.den} {G:List Nat},ZcD W t xs qs G→(∀ b ∈ G,W'.heap[b]?=W.heap[b]?)→ZcD W' t xs qs G
  | [],[],_,h,_=>h
  | [],_ :: _,_,h,_=>h.elim
  | _ :: _,[],_,h,_=>h.elim
  | _ :: _,_ :: _,_,⟨G1,G2,h1,h2,e⟩,hk=>⟨G1,G2,Zxk.keep t h1 (fun p hp=>hk p (by rw [e]; simp [hp])),h2.keep (fun p hp=>hk p (by rw [e]; simp [hp])),e⟩
theorem ZcD.map {t:Ty} {β:Type} (f:t.den→β) (g:t.quo.den→β) (hfg:∀ x q F,Zxk W t x q F→g q=f x):∀ {xs:List t.den} {qs:List t.quo.den} {G:List Nat},ZcD W t xs qs G→qs.map g=xs.map f
  | [],[],_,_=>rfl
  | [],_ :: _,_,h=>h.elim
  | _ :: _,[],_,h=>h.elim
  | _ :: _,_ :: _,_,⟨_,_,h1,h2,_⟩=>by rw [List.map_cons,List.map_cons,hfg _ _ _ h1,ZcD.map f g hfg h2]
theorem Zox {t:Ty} {xs:List t.den} {v:Value} {F:List Nat} (h:ZbY W (Zbb W t) t.n xs v F):∃ (qs:List t.quo.den) (G:List Nat),F=v.ownBlock.toList ++ G∧ZbY W (Zbb W t.quo) t.quo.n qs v v.ownBlock.toList∧ZcD W t xs qs G:=by
  obtain ⟨T,cells,G,h0,h1,h2⟩:=h
  obtain ⟨qs,r1,r2⟩:=ZsD h1
  exact ⟨qs,G,h2,⟨T,cells,[],by rw [ZGc,r2.len]; exact h0,r1,by simp⟩,r2⟩
theorem ZCj {t:Ty} {xs:List t.den} {qs:List t.quo.den} {v:Value} {F G:List Nat} (h:ZbY W (Zbb W t.quo) t.quo.n qs v F) (k:ZcD W t xs qs G):ZbY W (Zbb W t) t.n xs v (F ++ G)∧F=v.ownBlock.toList:=by
  obtain ⟨T,cells,G0,h0,h1,h2⟩:=h
  have e0:G0=[]:=by
    have hz:=h1.all (Q:=fun _=>False) (fun x cs F h b hb=>by rw [Zlr t.quo (ZsB t) h] at hb; cases hb)
    cases G0 with
    | nil=>rfl
    | cons b l=>exact (hz b (by simp)).elim
  subst e0
  rw [List.append_nil] at h2
  rw [ZGc,k.len] at h0
  exact ⟨⟨T,cells,G,h0,Zow h1 k,by rw [h2]⟩,h2⟩
theorem RepM.row {i:Nat} {t:Ty} {xs:List t.den} {v c:Nat} {e:EB} (hM:RepM X W E M) (hi:M[i]?=some (.row t xs v c none)) (he:E[i]?=some e):ZbY W (Zbb W t) t.n xs e.val e.foot:=hM.at_ i _ e hi he
theorem Znh {t:Ty} {qs:List t.quo.den} {v:Value} (h:ZbY W (Zbb W t.quo) t.quo.n qs v v.ownBlock.toList) (hx:∀ b ∈ v.ownBlock.toList,b ∉ X2):ZbL X2 W [] [] (.hs .no t.quo qs) v:=by
  obtain ⟨F',⟨A,c,e1,hs⟩,hF⟩:=Zbb.rep (.list t.quo) (x:=qs) (cs:=[v]) (F:=v.ownBlock.toList) ⟨v,rfl,h⟩
  have hlt:=Zbb.lt (.list t.quo) (x:=qs) (cs:=[v]) (F:=v.ownBlock.toList) ⟨v,rfl,h⟩
  have e2:v=.slice A qs.length c:=by simpa using e1
  refine ⟨by rw [e2]; rfl,F',⟨A,c,by rw [e2],hs⟩,fun b hb=>⟨⟨by simp [foots],hx b (hF b hb)⟩,hlt b (hF b hb)⟩⟩
def ZFr (n:Nat):Env:=List.replicate n ⟨0, .slice none 0 0,[]⟩
theorem ZCk (n:Nat):foots (ZFr n)=[]:=by
  unfold foots ZFr
  rw [List.flatMap_replicate]
  simp
theorem ZEu {pm:Mem} {t:Ty} {ts:List Ty} {E' : Env} {v:Value} {rs:List t.quo.den} {ys:List t.den} {G:List Nat} (hM:RepM X W E pm) (hg:Zbz W [] W' E') (hm:RepM X2 W' E' [.row t.quo rs 0 0 none])
    (hv:ZbL X2 W' E' [.row t.quo rs 0 0 none] (.row 0 0) v) (hX:∀ b ∈ X,b ∈ X2) (hq:ZcD W t ys rs G) (hn:G.Nodup) (hG:∀ b ∈ G,b ∈ foots E) :
    ∃ E2,ZHY W E W' E2∧RepM X W' E2 (ts.map (fun a=>Blk.row a [] 0 0 none) ++ [.row t ys 0 0 none])∧ZbL X W' E2 (ts.map (fun a=>Blk.row a [] 0 0 none) ++ [.row t ys 0 0 none]) (.row ts.length 0) v:=by
  have hl:E'.length=1:=by rw [← hm.len]; rfl
  obtain ⟨e1,rfl⟩:∃ e1,E'=[e1]:=by
    match E',hl with
    | [e],_=>exact ⟨e,rfl⟩
  have hrow:ZbY W' (Zbb W' t.quo) t.quo.n rs e1.val e1.foot:=hm.row (i:=0) rfl rfl
  have hve:v=e1.val:=by
    have:=hv.2
    unfold Zb8 at this
    obtain ⟨e,he,h⟩:=this.2 rfl
    obtain rfl:e1=e:=Option.some.inj he
    exact h
  have hGlt:∀ b ∈ G,b < W.heap.size:=fun b hb=>hM.lt b (hG b hb)
  have hq' : ZcD W' t ys rs G:=hq.keep (fun b hb=>hg.keep b (hGlt b hb) (by simp [foots]))
  obtain ⟨ho,hf⟩:=ZCj hrow hq'
  have hfe:∀ b ∈ e1.foot,W.heap.size≤b:=fun b hb=>(hg.new b (by simp [foots,hb])).resolve_left (by simp [foots])
  have hfoot:foots (ZFr ts.length ++ [⟨0,e1.val,e1.foot ++ G⟩])=e1.foot ++ G:=by rw [Zbq,ZCk]; simp [foots]
  have hlenE:(ZFr ts.length).length=ts.length:=by simp [ZFr]
  refine ⟨ZFr ts.length ++ [⟨0,e1.val,e1.foot ++ G⟩],⟨hg.os,hg.tape,hg.output,hg.size,fun b hb _=>hg.keep b hb (by simp [foots]),fun b hb=>?_⟩,⟨by simp [ZFr],?_,fun i b e hb he=>?_,fun b hb=>?_,fun b hb=>?_,fun b hb=>?_⟩,?_⟩
  · rw [hfoot] at hb
    rcases List.mem_append.1 hb with hb | hb
    · exact .inr (hfe b hb)
    · exact .inl (hG b hb)
  · rw [hfoot,List.nodup_append]
    refine ⟨?_,hn,fun a ha b hb e=>?_⟩
    · have:=hm.nodup
      simpa [foots] using this
    · subst e
      have:=hfe a ha
      have:=hGlt a hb
      omega
  · by_cases hi:i < ts.length
    · rw [List.getElem?_append_left (by simpa using hi),List.getElem?_map] at hb
      rw [List.getElem?_append_left (by rw [hlenE]; exact hi)] at he
      have he:e=⟨0, .slice none 0 0,[]⟩:=by
        unfold ZFr at he
        rw [List.getElem?_replicate,if_pos hi] at he
        exact (Option.some.inj he).symm
      subst he
      rw [List.getElem?_eq_getElem hi] at hb
      obtain rfl:=Option.some.inj hb
      exact ⟨0,[],[],World.ownsRow_nil W' 0 0 _,⟨rfl,rfl⟩,rfl⟩
    · rw [List.getElem?_append_right (by simp; omega)] at hb
      rw [List.getElem?_append_right (by rw [hlenE]; omega),hlenE] at he
      simp only [List.length_map] at hb
      have h0:i - ts.length=0:=by
        exact Zpy
      rw [h0] at hb he
      exact ZwX
  · rw [hfoot] at hb
    rcases List.mem_append.1 hb with hb | hb
    · exact hm.lt b (by simp [foots,hb])
    · exact Nat.lt_of_lt_of_le (hGlt b hb) hg.size
  · rw [hfoot]
    intro hb'
    rcases List.mem_append.1 hb' with hb' | hb'
    · exact hm.xlt b (hX b hb) (by simp [foots,hb'])
    · exact hM.xlt b hb (hG b hb')
  · exact Nat.lt_of_lt_of_le (hM.xsz b hb) hg.size
  · refine ⟨by rw [hve]; obtain ⟨T,cells,G0,h0,_⟩:=ho; exact Zdo h0,?_⟩
    unfold Zb8
    rw [List.getElem?_append_right (by simp),List.getElem?_append_right (by simp [ZFr])]
    simp [hve,ZFr]
end
end Go.Proofs.YtkompmgleojmlaaGreat
