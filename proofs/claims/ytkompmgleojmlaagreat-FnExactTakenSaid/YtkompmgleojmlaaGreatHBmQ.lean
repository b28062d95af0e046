import Derived.Test.YtkompmgleojmlaaGreatHBmL
import Derived.Test.YtkompmgleojmlaaGreatHTypes
set_option linter.unusedSimpArgs false
set_option linter.unusedVariables false
namespace Go.Proofs.YtkompmgleojmlaaGreat
open Go.ChangeShapes Go.WideShapes Go.ChangeAt Go.RowKit Go.Joins Go.Deep
open GoRep (rep bulk)
theorem ZI8:∀ {x y:List AC},leL x y→x=y
 | [],[],_=>rfl
 | [],_ :: _,h=>h.elim
 | _ :: _,[],h=>h.elim
 | _ :: _,_ :: _,h=>by rw [ZJA h.1,ZI8 h.2]
theorem leV_eq {x y:AV} (h:leV x y):y=.any∨x=y:=by
 unfold leV at h
 split at h
 ·exact .inl rfl
 ·exact .inr (by rw [ZJA h])
 ·exact .inr (by rw [ZI8 h])
 ·exact .inr h
theorem ZN2 {x y:Blk} (h:leB x y):x=y:=by
 unfold leB at h
 split at h
 ·rw [ZI8 h]
 ·obtain ⟨⟨e1,e2⟩,e3,e4⟩:=h; subst e3; rw [← e4,e1,e2]
 ·exact h
theorem ZI9:∀ {x y:Mem},leM x y→∃ z,x=y ++ z
 | x,[],_=>⟨x,rfl⟩
 | [],_ :: _,h=>h.elim
 | _ :: _,_ :: _,h=>by
  obtain ⟨z,e⟩:=ZI9 h.2
  exact ⟨z,by rw [ZN2 h.1,e]; rfl⟩
section
variable {P:Program} {X:List Nat} {W:World} {E:Env} {M:Mem} {a:Act} {tm:List AV} {o:Oper} {T:Tab P}
theorem ZMW {x y:AV} {v:Value} (h:leV x y) (hr:Zdt X W E M x v):Zdt X W E M y v:=by
 rcases leV_eq h with rfl | rfl
 ·trivial
 ·exact hr
theorem ZJa:∀ {x y:List AV} {vs:List Value},leT x y→Zcv X W E M x vs→Zcv X W E M y vs
 | [],[],_,_,hr=>hr
 | [],_ :: _,_,h,_=>h.elim
 | _ :: _,[],_,h,_=>h.elim
 | _ :: _,_ :: _,_,h,⟨v,r,e,h1,h2⟩=>⟨v,r,e,ZMW h.1 h1,ZJa h.2 h2⟩
theorem ZxO {n i q:Nat} {v:Value} (hi:i < n) (h:Zjo E i v q):Zjo (E.take n) i v q:=by
 obtain ⟨e,h1,h2⟩:=h
 exact ⟨e,by rw [List.getElem?_take,if_pos hi]; exact h1,h2⟩
theorem Zs9 {n:Nat}:∀ {is:List Nat} {vs:List Value},is.all (Nat.blt · n)=true→Zem E is vs→Zem (E.take n) is vs
 | [],_,_,h=>h
 | _ :: _,_,ho,⟨v,r,e,h1,h2⟩=>by
  rw [List.all_cons,Bool.and_eq_true] at ho
  exact ⟨v,r,e,ZxO (Nat.le_of_ble_eq_true ho.1) h1,Zs9 ho.2 h2⟩
theorem Zku (n:Nat):∀ b ∈ foots (E.take n),b ∈ foots E:=fun b hb=>by
 obtain ⟨e,h1,h2⟩:=Zbd.1 hb
 exact Zbd.2 ⟨e,List.mem_of_mem_take h1,h2⟩
theorem Zmr {n i v:Nat} {Q:EB→Prop} (hi:i < n) (h:ZcA E M i v Q):ZcA (E.take n) (M.take n) i v Q:=by
 unfold ZcA at h ⊢
 exact ZAA
theorem Zqx {n:Nat} {Q:List Nat→Prop}:∀ {L:Lnd},(∀ i v c,L=.at i v c→i < n)→Zmj X W E M L Q→Zmj X W (E.take n) (M.take n) L Q
 | .no,_,⟨F,h1,h2⟩=>⟨F,h1,fun b hb=>⟨⟨fun hm=>(h2 b hb).1.1 (Zku n b hm),(h2 b hb).1.2⟩,(h2 b hb).2⟩⟩
 | .at i v c,hi,h=>by
  have hi:=hi i v c rfl
  have h:Zen E M i v c Q:=h
  show Zen (E.take n) (M.take n) i v c Q
  unfold Zen at h ⊢
  exact ZAA
theorem ZxP {n i ver c n' k o:Nat} {u:Value} (hi:i < n) (h:Znm W E M i ver c n' k o u):Znm W (E.take n) (M.take n) i ver c n' k o u:=by
 obtain ⟨b,h1,h2⟩:=h
 exact ⟨b,Zmr hi h1,Zqx (X:=[]) (W:=W) (L:=.at i ver c) (fun _ _ _ e=>by injection e with e1 _ _; omega) h2⟩
theorem ZJb {n:Nat}:∀ {c:AC} {v:Value},okC n c=true→Zb7 X W E M c v→Zb7 X W (E.take n) (M.take n) c v
 | .int _ _,_,_,h=>h
 | .bool _,_,_,h=>h
 | .str _,_,_,h=>h
 | .opq _,_,_,h=>h
 | .hs L t xs,v,ho,h=>⟨h.1,Zqx (fun i v c e=>by subst e; exact Nat.le_of_ble_eq_true ho) h.2⟩
 | .bp _ _,_,ho,h=>ZxO (Nat.le_of_ble_eq_true ho) h
 | .ep L t xs k o,v,ho,h=>⟨h.1,Zqx (fun i v c e=>by subst e; exact Nat.le_of_ble_eq_true ho) h.2⟩
 | .row i ver,v,ho,h=>⟨h.1,Zmr (Nat.le_of_ble_eq_true ho) h.2⟩
 | .rp i ver n k o,v,ho,h=>⟨h.1,Zmr (Nat.le_of_ble_eq_true ho) h.2⟩
 | .sl i ver c n k o,v,ho,h=>⟨h.1,ZxP (Nat.le_of_ble_eq_true ho) h.2⟩
 | .sp i ver c n k o m x q,v,ho,⟨h0,b,l,cap,h1,h2⟩=>⟨h0,b,l,cap,ZxP (Nat.le_of_ble_eq_true ho) h1,h2⟩
 | .tl i ver n k,v,ho,h=>⟨h.1,Zmr (Nat.le_of_ble_eq_true ho) h.2⟩
 | .mp i,v,ho,⟨e,h1,h2⟩=>⟨e,by rw [List.getElem?_take,if_pos (show i < n from Nat.le_of_ble_eq_true ho)]; exact h1,h2⟩
 | .fn f caps,v,ho,⟨vs,e,h⟩=>⟨vs,e,Zs9 ho h⟩
 | .raw _,_,_,h=>h
 | .junk,_,_,h=>h
theorem ZDR {n:Nat}:∀ {l:List AC} {vs:List Value},l.all (okC n)=true→ZcK X W E M l vs→ZcK X W (E.take n) (M.take n) l vs
 | [],_,_,h=>h
 | _ :: _,_,ho,⟨v,r,e,h1,h2⟩=>by
  rw [List.all_cons,Bool.and_eq_true] at ho
  exact ⟨v,r,e,ZJb ho.1 h1,ZDR ho.2 h2⟩
theorem ZJc {n:Nat}:∀ {x:AW} {v:Value},okW n x=true→Zk1 X W E M x v→Zk1 X W (E.take n) (M.take n) x v
 | .c _,_,ho,h=>ZJb ho h
 | .ag _,_,ho,⟨cs,e,h⟩=>⟨cs,e,ZDR ho h⟩
theorem ZE1 {n:Nat}:∀ {l:List AW} {vs:List Value},l.all (okW n)=true→Zd2 X W E M l vs→Zd2 X W (E.take n) (M.take n) l vs
 | [],_,_,h=>h
 | _ :: _,_,ho,⟨v,r,e,h1,h2⟩=>by
  rw [List.all_cons,Bool.and_eq_true] at ho
  exact ⟨v,r,e,ZJc ho.1 h1,ZE1 ho.2 h2⟩
theorem ZMX {n:Nat}:∀ {x:AV} {v:Value},okV n x=true→Zdt X W E M x v→Zdt X W (E.take n) (M.take n) x v
 | .w _,_,ho,h=>ZJc ho h
 | .tp _,_,ho,⟨vs,e,h⟩=>⟨vs,e,ZE1 ho h⟩
 | .any,_,_,_=>trivial
theorem ZJd {n:Nat}:∀ {l:List AV} {vs:List Value},l.all (okV n)=true→Zcv X W E M l vs→Zcv X W (E.take n) (M.take n) l vs
 | [],_,_,h=>h
 | _ :: _,_,ho,⟨v,r,e,h1,h2⟩=>by
  rw [List.all_cons,Bool.and_eq_true] at ho
  exact ⟨v,r,e,ZMX ho.1 h1,ZJd ho.2 h2⟩
theorem ZK4 {M N:Mem} (hM:RepM X W E (M ++ N)) (ho:M.all (okB M.length)=true):RepM X W (E.take M.length) M:=by
 have hl:=hM.len
 rw [List.length_append] at hl
 refine ⟨by simp; omega,?_,fun i b e hb he=>?_,fun b hb=>hM.lt b (Zku _ b hb),fun b hb hf=>hM.xlt b hb (Zku _ b hf),hM.xsz⟩
 ·have hn:=hM.nodup
  rw [← List.take_append_drop M.length E,ZbM,List.nodup_append] at hn
  exact hn.1
 ·have hi:i < M.length:=(List.getElem?_eq_some_iff.1 hb).1
  rw [List.getElem?_take,if_pos hi] at he
  have h:=hM.at_ i b e (by rw [List.getElem?_append_left hi]; exact hb) he
  have hob:=List.all_eq_true.1 ho b (List.mem_of_getElem? hb)
  cases b with
  | box l =>
   obtain ⟨q1,cs,T,q2,q3⟩:=h
   have:=ZDR (n:=M.length) hob q3
   rw [List.take_left] at this
   exact ⟨q1,cs,T,q2,this⟩
  | row t xs v c hh =>
   cases hh with
   | none=>exact h
   | some _=>cases hob
  | mp _=>exact h
  | dead=>exact h
theorem ZfX.le {n0:Nat} {inp:List Nat} {tm0:List AV} {M0:Mem} {h:List AV × Mem} (hr:ZfX X tm M a W E) (hle:leS n0 inp tm0 M0 tm M h):ZfX X h.1 h.2 a W (E.take h.2.length):=by
 obtain ⟨h1,h2,h3⟩:=hle
 rw [Bool.and_eq_true] at h3
 replace h3:=h3.1
 rw [Bool.and_eq_true] at h3
 obtain ⟨z,e⟩:=ZI9 h2
 subst e
 refine ⟨ZK4 hr.mem h3.2,?_,hr.dfr⟩
 have:=ZJd h3.1 (ZJa h1 hr.tmps)
 rwa [List.take_left] at this
theorem ZJe {W0:World} {E0:Env} {n:Nat} (hn:E0.length≤n) (hg:ZbW W0 E0 W E):ZbW W0 E0 W (E.take n):=⟨hg.os,hg.tape,hg.output,hg.size,hg.keep,fun b hb=>hg.new b (Zku n b hb),fun i e h=>by
 obtain ⟨e',h1,h2⟩:=hg.blk i e h
 exact ⟨e',by rw [List.getElem?_take,if_pos (Nat.lt_of_lt_of_le (List.getElem?_eq_some_iff.1 h).1 hn)]; exact h1,h2⟩⟩
theorem Zqy (hM:RepM X W E M):ZbW W E W.drew E:=⟨rfl,rfl,rfl,Nat.le_refl _,fun _ _ _=>rfl,fun _ h=>.inl h,fun _ e h=>⟨e,h,rfl⟩⟩
theorem Zta (hM:RepM X W E M):Zbr W E M W.drew E M:=by
 have:=ZfE (W:=W) (W':=W.drew) (Zqy hM) hM (fun _ _=>rfl) [] []
 rwa [List.append_nil,List.append_nil] at this
theorem ZfX.drew (hr:ZfX X tm M a W E):ZfX X tm M a W.drew E:=by
 have g:=Zqy hr.mem
 have m:=Zta hr.mem
 refine ⟨⟨hr.mem.len,hr.mem.nodup,fun i b e hb he=>(hr.mem.at_ i b e hb he).keep g m hr.mem.len (fun _ _=>rfl),hr.mem.lt,hr.mem.xlt,hr.mem.xsz⟩,hr.tmps.mono g m hr.mem.len,hr.dfr⟩
theorem Zvs (i:Nat):(M.map (Zhm M))[i]?=(M[i]?).map (Zhm M):=List.getElem?_map
theorem ZN3 {i v:Nat} {r:Zht} (h:ZdC M i v=some r):(M.map (Zhm M))[i]?=some (.row r.t r.xs 0 0 none):=by
 rw [Zvs,ZdG h]
 rfl
theorem ZxQ {i v c:Nat} (h:Zeo M i v c=true):∃ (t:Ty) (xs:List t.den),M[i]?=some (.row t xs v c none):=by
 unfold Zeo at h
 split at h
 ·rename_i t xs cv cc hM
  rw [Bool.and_eq_true] at h
  obtain rfl:=Nat.eq_of_beq_eq_true h.1
  obtain rfl:=Nat.eq_of_beq_eq_true h.2
  exact ⟨t,xs,hM⟩
 ·cases h
theorem Znr {i v:Nat} {Q:EB→Prop} {r:Zht} (hr:ZdC M i v=some r) (h:ZcA E M i v Q):ZcA E (M.map (Zhm M)) i 0 Q:=by
 unfold ZcA at h ⊢
 rw [ZdG hr] at h
 rw [ZN3 hr]
 exact ⟨Nat.le_refl _,fun _=>h.2 rfl⟩
theorem ZlN {i v c:Nat} {Q:List Nat→Prop} (hl:Zeo M i v c=true) (h:Zen E M i v c Q):Zen E (M.map (Zhm M)) i 0 0 Q:=by
 obtain ⟨t,xs,hM⟩:=ZxQ hl
 unfold Zen at h ⊢
 rw [hM] at h
 rw [Zvs,hM]
 exact ⟨Nat.le_refl _,fun _=>⟨Nat.le_refl _,fun _=>(h.2 rfl).2 rfl⟩⟩
theorem Ztb {i ver c n k o:Nat} {u:Value} (hl:Zeo M i ver c=true) (h:Znm W E M i ver c n k o u):Znm W E (M.map (Zhm M)) i 0 0 n k o u:=by
 obtain ⟨b,h1,h2⟩:=h
 obtain ⟨t,xs,hM⟩:=ZxQ hl
 refine ⟨b,Znr (r:=⟨t,xs,c⟩) ?_ h1,ZlN hl h2⟩
 unfold ZdC
 rw [hM]
 simp
theorem ZxR:∀ {c:AC} {v:Value},Zb7 X W E M c v→Zb7 X W E (M.map (Zhm M)) (ZJs M c) v
 | .int _ _,_,h=>h
 | .bool _,_,h=>h
 | .str _,_,h=>h
 | .opq _,_,h=>h
 | .hs .no t xs,v,h=>h
 | .hs (.at i u c) t xs,v,h=>by
  show Zb7 X W E _ (bif Zeo M i u c then _ else _) v
  cases hl:Zeo M i u c with
  | false=>exact h.1
  | true=>exact ⟨h.1,ZlN hl h.2⟩
 | .bp _ _,_,h=>h
 | .ep .no t xs k o,v,h=>h
 | .ep (.at i u c) t xs k o,v,h=>by
  show Zb7 X W E _ (bif Zeo M i u c then _ else _) v
  cases hl:Zeo M i u c with
  | false=>exact h.1
  | true=>exact ⟨h.1,ZlN hl h.2⟩
 | .row i ver,v,h=>by
  show Zb7 X W E _ (bif (ZdC M i ver).isSome then _ else _) v
  cases hl:ZdC M i ver with
  | none=>exact h.1
  | some r=>exact ⟨h.1,Znr hl h.2⟩
 | .sl i ver c n k o,v,h=>by
  show Zb7 X W E _ (bif Zeo M i ver c then _ else _) v
  cases hl:Zeo M i ver c with
  | false=>exact h.1
  | true=>exact ⟨h.1,Ztb hl h.2⟩
 | .sp i ver c n k o m x q,v,⟨h0,b,l,cap,h1,h2⟩=>by
  show Zb7 X W E _ (bif Zeo M i ver c then _ else _) v
  cases hl:Zeo M i ver c with
  | false=>exact h0
  | true=>exact ⟨h0,b,l,cap,Ztb hl h1,h2⟩
 | .rp i ver n k o,v,h=>by
  show Zb7 X W E _ (bif (ZdC M i ver).isSome then _ else _) v
  cases hl:ZdC M i ver with
  | none=>exact h.1
  | some r=>exact ⟨h.1,Znr hl h.2⟩
 | .tl i ver n k,v,h=>h.1
 | .mp _,_,h=>h
 | .fn f caps,v,h=>h
 | .raw _,_,h=>h
 | .junk,_,h=>h
theorem Zqz:∀ {l:List AC} {vs:List Value},ZcK X W E M l vs→ZcK X W E (M.map (Zhm M)) (l.map (ZJs M)) vs
 | [],_,h=>h
 | _ :: _,_,⟨v,r,e,h1,h2⟩=>⟨v,r,e,ZxR h1,Zqz h2⟩
theorem ZxS:∀ {x:AW} {v:Value},Zk1 X W E M x v→Zk1 X W E (M.map (Zhm M)) (ZLB M x) v
 | .c _,_,h=>ZxR h
 | .ag _,_,⟨cs,e,h⟩=>⟨cs,e,Zqz h⟩
theorem Ztc:∀ {l:List AW} {vs:List Value},Zd2 X W E M l vs→Zd2 X W E (M.map (Zhm M)) (l.map (ZLB M)) vs
 | [],_,h=>h
 | _ :: _,_,⟨v,r,e,h1,h2⟩=>⟨v,r,e,ZxS h1,Ztc h2⟩
theorem ZJf:∀ {x:AV} {v:Value},Zdt X W E M x v→Zdt X W E (M.map (Zhm M)) (ZvJ M x) v
 | .w _,_,h=>ZxS h
 | .tp _,_,⟨vs,e,h⟩=>⟨vs,e,Ztc h⟩
 | .any,_,_=>trivial
theorem ZxT:∀ {l:List AV} {vs:List Value},Zcv X W E M l vs→Zcv X W E (M.map (Zhm M)) (l.map (ZvJ M)) vs
 | [],_,h=>h
 | _ :: _,_,⟨v,r,e,h1,h2⟩=>⟨v,r,e,ZJf h1,ZxT h2⟩
theorem ZfX.back (hr:ZfX X tm M a W E) (hno:ZD1 M=true):ZfX X (tm.map (ZvJ M)) (M.map (Zhm M)) a W E:=by
 refine ⟨⟨by rw [List.length_map]; exact hr.mem.len,hr.mem.nodup,fun i b e hb he=>?_,hr.mem.lt,hr.mem.xlt,hr.mem.xsz⟩,ZxT hr.tmps,hr.dfr⟩
 rw [Zvs] at hb
 cases hM:M[i]? with
 | none=>rw [hM] at hb; cases hb
 | some b' =>
  rw [hM] at hb
  obtain rfl:Zhm M b'=b:=by simpa using hb
  have h:=hr.mem.at_ i b' e hM he
  cases b' with
  | box l =>
   obtain ⟨q1,cs,T,q2,q3⟩:=h
   exact ⟨q1,cs,T,q2,Zqz q3⟩
  | row t xs v c hh =>
   cases hh with
   | none=>exact h
   | some _=>have:=List.all_eq_true.1 hno _ (List.mem_of_getElem? hM); cases this
  | mp _=>exact h
  | dead=>exact h
theorem Zcv.put:∀ {l:List AV} {vs:List Value} (j:Nat) {x:AV},Zcv X W E M l vs→(∀ v,vs[j]?=some v→Zdt X W E M x v)→Zcv X W E M (l.set j x) vs
 | [],_,_,_,h,_=>h
 | _ :: _,_,0,_,⟨v,r,e,h1,h2⟩,h=>⟨v,r,e,h v (by rw [e]; rfl),h2⟩
 | _ :: _,_,j + 1,_,⟨v,r,e,h1,h2⟩,h=>⟨v,r,e,h1,Zcv.put j h2 (fun u hu=>h u (by rw [e]; simpa using hu))⟩
theorem ZcK.put:∀ {l:List AC} {vs:List Value} (j:Nat) {x:AC},ZcK X W E M l vs→(∀ v,vs[j]?=some v→Zb7 X W E M x v)→ZcK X W E M (l.set j x) vs
 | [],_,_,_,h,_=>h
 | _ :: _,_,0,_,⟨v,r,e,h1,h2⟩,h=>⟨v,r,e,h v (by rw [e]; rfl),h2⟩
 | _ :: _,_,j + 1,_,⟨v,r,e,h1,h2⟩,h=>⟨v,r,e,h1,ZcK.put j h2 (fun u hu=>h u (by rw [e]; simpa using hu))⟩
theorem ZfX.nilrow (hr:ZfX X tm M a W E) (t:Ty):∃ E',ZbW W E W E'∧Zbr W E M W E' (M ++ [.row t [] 0 0 none])∧ZfX X tm (M ++ [.row t [] 0 0 none]) a W E'∧Zb7 X W E' (M ++ [.row t [] 0 0 none]) (.row M.length 0) (.slice none 0 0):=by
 obtain ⟨E',g,m,rm,rc⟩:=ZkG (W':=W) (js:=[]) (t:=t) (ys:=[]) (v:=.slice none 0 0) (T:=0) (cells:=[]) (own:=[]) (G:=[]) hr.mem rfl (by simp) ⟨rfl,rfl,rfl,Nat.le_refl _,fun _ _ _=>rfl⟩ (World.ownsRow_nil W 0 0 t.n) ⟨rfl,rfl⟩ rfl (.inl rfl)
 exact ⟨E',g,m,⟨rm,hr.tmps.mono g m hr.mem.len,hr.dfr⟩,rc⟩
theorem ZfX.boxput {b i:Nat} {l:List AC} {x:AC} {v:Value} (hr:ZfX X tm M a W E) (hb:M[b]?=some (.box l)) (hl:l[i]?=some (.raw v)) (hx:Zb7 X W E M x v):Zbr W E M W E (M.set b (.box (l.set i x)))∧ZfX X tm (M.set b (.box (l.set i x))) a W E:=by
 have hbl:=(List.getElem?_eq_some_iff.1 hb).1
 have m:Zbr W E M W E (M.set b (.box (l.set i x))):=fun j=>by
  exact Zz0
 have g:=ZbW.refl W E
 refine ⟨m,⟨by simp [hr.mem.len],hr.mem.nodup,fun j b' e hb' he=>?_,hr.mem.lt,hr.mem.xlt,hr.mem.xsz⟩,hr.tmps.mono g m hr.mem.len,hr.dfr⟩
 by_cases hj:b=j
 ·subst hj
  rw [List.getElem?_set_self hbl] at hb'
  obtain rfl:=Option.some.inj hb'
  obtain ⟨q1,cs,T,q2,q3⟩:=hr.mem.at_ _ _ e hb he
  refine ⟨q1,cs,T,q2,ZcK.mono g m hr.mem.len (ZcK.put i q3 (fun u hu=>?_))⟩
  obtain ⟨w,h1,h2⟩:=q3.get hl
  obtain rfl:w=u:=Option.some.inj (h1.symm.trans hu)
  rw [h2.1]
  exact hx
 ·exact Zz6
theorem ZK5 (hr:ZfX X tm M a W E) (p:Pro):∃ E',ZbW W E W E'∧Zbr W E M W E' (ZOK tm M p).2∧ZfX X (ZOK tm M p).1 (ZOK tm M p).2 a W E':=by
 obtain ⟨b,i,t⟩:=p
 cases b with
 | none =>
  show ∃ E',ZbW W E W E'∧Zbr W E M W E' (bif Zml (tm.getD i .any) then (tm.set i (AV.c (AC.row M.length 0)),M ++ [Blk.row t [] 0 0 none]) else (tm,M)).2∧ZfX X (bif Zml (tm.getD i .any) then (tm.set i (AV.c (AC.row M.length 0)),M ++ [Blk.row t [] 0 0 none]) else (tm,M)).1 (bif Zml (tm.getD i .any) then (tm.set i (AV.c (AC.row M.length 0)),M ++ [Blk.row t [] 0 0 none]) else (tm,M)).2 a W E'
  cases hn:Zml (tm.getD i .any) with
  | false=>exact ⟨E,ZbW.refl W E,Zbr.refl W E M,hr⟩
  | true =>
   obtain ⟨E',g,m,r,rc⟩:=hr.nilrow t
   refine ⟨E',g,m,⟨r.mem,Zcv.put i r.tmps (fun u hu=>?_),r.dfr⟩⟩
   have e:=ZxA hn
   rw [List.getD_eq_getElem?_getD] at e
   cases hq:tm[i]? with
   | none=>rw [hq] at e; cases e
   | some x =>
    rw [hq] at e
    obtain rfl:x=_:=e
    obtain ⟨w,h1,h2⟩:=hr.tmps.get hq
    obtain rfl:w=u:=Option.some.inj (h1.symm.trans hu)
    have h2:Zb7 X W E M (.raw (.slice none 0 0)) w:=h2
    rw [h2.1]
    exact rc
 | some b =>
  show ∃ E',ZbW W E W E'∧Zbr W E M W E' (match M[b]? with | some (.box l)=>bif ZmI (l.getD i .junk) then (tm,M.set b (Blk.box (l.set i (AC.row M.length 0))) ++ [Blk.row t [] 0 0 none]) else (tm,M) | _=>(tm,M)).2∧ZfX X (match M[b]? with | some (.box l)=>bif ZmI (l.getD i .junk) then (tm,M.set b (Blk.box (l.set i (AC.row M.length 0))) ++ [Blk.row t [] 0 0 none]) else (tm,M) | _=>(tm,M)).1
   (match M[b]? with | some (.box l)=>bif ZmI (l.getD i .junk) then (tm,M.set b (Blk.box (l.set i (AC.row M.length 0))) ++ [Blk.row t [] 0 0 none]) else (tm,M) | _=>(tm,M)).2 a W E'
  split
  ·rename_i l hb
   cases hn:ZmI (l.getD i .junk) with
   | false=>exact ⟨E,ZbW.refl W E,Zbr.refl W E M,hr⟩
   | true =>
    obtain ⟨E',g,m,r,rc⟩:=hr.nilrow t
    have e:=Zyi hn
    have hl:l[i]?=some (.raw (.slice none 0 0)):=by
     rw [List.getD_eq_getElem?_getD] at e
     cases hq:l[i]? with
     | none=>rw [hq] at e; cases e
     | some x=>rw [hq] at e; exact congrArg some e
    have hbl:=(List.getElem?_eq_some_iff.1 hb).1
    obtain ⟨m2,r2⟩:=r.boxput (b:=b) (i:=i) (l:=l) (by rw [List.getElem?_append_left hbl]; exact hb) hl rc
    rw [List.set_append_left _ _ hbl] at r2 m2
    exact ⟨E',g,m.trans m2,r2⟩
  ·exact ⟨E,ZbW.refl W E,Zbr.refl W E M,hr⟩
theorem ZE2:∀ (ps:List Pro) {tm:List AV} {M:Mem} {E:Env},ZfX X tm M a W E→∃ E',ZbW W E W E'∧Zbr W E M W E' (ZM9 tm M ps).2∧ZfX X (ZM9 tm M ps).1 (ZM9 tm M ps).2 a W E'
 | [],_,M,E,hr=>⟨E,ZbW.refl W E,Zbr.refl W E M,hr⟩
 | p :: ps,tm,M,E,hr=>by
  obtain ⟨E1,g1,m1,r1⟩:=ZK5 hr p
  obtain ⟨E2,g2,m2,r2⟩:=ZE2 ps r1
  exact Zki
theorem ZfX.boxput2 {b i:Nat} {l:List AC} {x:AC} (hr:ZfX X tm M a W E) (hb:M[b]?=some (.box l)) (hx:∀ e cs T,E[b]?=some e→W.heap[e.blk]?=some (.cells cs T (0,0))→∀ u,cs.toList[i]?=some u→Zb7 X W E M x u):Zbr W E M W E (M.set b (.box (l.set i x)))∧ZfX X tm (M.set b (.box (l.set i x))) a W E:=by
 have hbl:=(List.getElem?_eq_some_iff.1 hb).1
 have m:Zbr W E M W E (M.set b (.box (l.set i x))):=fun j=>by
  exact Zz0
 have g:=ZbW.refl W E
 refine ⟨m,⟨by simp [hr.mem.len],hr.mem.nodup,fun j b' e hb' he=>?_,hr.mem.lt,hr.mem.xlt,hr.mem.xsz⟩,hr.tmps.mono g m hr.mem.len,hr.dfr⟩
 by_cases hj:b=j
 ·subst hj
  rw [List.getElem?_set_self hbl] at hb'
  obtain rfl:=Option.some.inj hb'
  obtain ⟨q1,cs,T,q2,q3⟩:=hr.mem.at_ _ _ e hb he
  exact ⟨q1,cs,T,q2,ZcK.mono g m hr.mem.len (ZcK.put i q3 (hx e cs T he q2))⟩
 ·exact Zz6
theorem ZGR (hr:ZfX X tm M a W E) (b c k:Nat):∃ E',ZbW W E W E'∧Zbr W E M W E' (ZFn M b c k)∧ZfX X tm (ZFn M b c k) a W E':=by
 have stay:∃ E',ZbW W E W E'∧Zbr W E M W E' M∧ZfX X tm M a W E':=⟨E,ZbW.refl W E,Zbr.refl W E M,hr⟩
 unfold ZFn
 split
 ·rename_i l hb
  split
  ·rename_i j v hc
   cases hjk:Nat.beq j k with
   | true=>exact stay
   | false =>
    simp only [cond_false]
    split
    ·rename_i t ys vj cj t' xs vk ck hj hk
     cases hv:Nat.beq v vj with
     | false=>exact stay
     | true =>
      simp only [cond_true]
      split
      ·rename_i ht
       subst ht
       obtain rfl:=Nat.eq_of_beq_eq_true hv
       have hne:j ≠ k:=fun e=>by rw [e,Nat.beq_refl] at hjk; cases hjk
       obtain ⟨E',g,m,rm,rc⟩:=Zs2 hr.mem hk hj hne
       have hbj:b ≠ j:=fun e=>by rw [e,hj] at hb; cases hb
       have hbk:b ≠ k:=fun e=>by rw [e,hk] at hb; cases hb
       have hb' : ((Zdb M [j]).set k (.row t' ys (vk + 1) (ck + 1) none))[b]?=some (.box l):=by
        rw [List.getElem?_set_ne (Ne.symm hbk),Zb8 (fun q hq e=>hbj (by rw [← List.mem_singleton.1 hq]; exact e.symm))]
        exact hb
       obtain ⟨m2,r2⟩:=ZfX.boxput2 (X:=X) (tm:=tm) (a:=a) (i:=c) (x:=.row k (vk + 1)) ⟨rm,hr.tmps.mono g m hr.mem.len,hr.dfr⟩ hb' (fun e cs T he hcs u hu=>by
        have hble:b < E.length:=by rw [← hr.mem.len]; exact (List.getElem?_eq_some_iff.1 hb).1
        obtain ⟨e0,he0⟩:∃ e0,E[b]?=some e0:=⟨_,List.getElem?_eq_getElem hble⟩
        obtain ⟨e',h1,h2⟩:=g.blk b e0 he0
        obtain rfl:=Option.some.inj (h1.symm.trans he)
        obtain ⟨_,cs0,T0,q2,q3⟩:=hr.mem.at_ _ _ e0 hb he0
        rw [h2] at hcs
        have hcc:=Option.some.inj (q2.symm.trans hcs)
        injection hcc with hcc
        subst hcc
        obtain ⟨w,w1,w2⟩:=q3.get hc
        obtain rfl:=Option.some.inj (w1.symm.trans hu)
        have h3:=(w2:Zb7 X W E M (.row j v) w).2
        unfold ZcA at h3
        rw [hj] at h3
        obtain ⟨ej,p1,p2⟩:=h3.2 rfl
        rw [p2]
        exact rc ej p1)
       exact ⟨E',g,m.trans m2,r2⟩
      ·exact stay
    ·exact stay
  ·exact stay
 ·exact stay
theorem Zns (b:Nat):∀ (l:List AC) (c:Nat) {M:Mem} {E:Env},ZfX X tm M a W E→∃ E',ZbW W E W E'∧Zbr W E M W E' (Zya M b c l)∧ZfX X tm (Zya M b c l) a W E'
 | [],_,M,E,hr=>⟨E,ZbW.refl W E,Zbr.refl W E M,hr⟩
 | x :: l,c,M,E,hr=>by
  cases x with
  | row k _ =>
   obtain ⟨E1,g1,m1,r1⟩:=ZGR hr b c k
   obtain ⟨E2,g2,m2,r2⟩:=Zns b l (c + 1) r1
   exact Zki
  | _=>exact Zns b l (c + 1) hr
theorem Znt:∀ (b:Nat) (h:Mem) {M:Mem} {E:Env},ZfX X tm M a W E→∃ E',ZbW W E W E'∧Zbr W E M W E' (Zq0 M b h)∧ZfX X tm (Zq0 M b h) a W E'
 | _,[],M,E,hr=>⟨E,ZbW.refl W E,Zbr.refl W E M,hr⟩
 | b,x :: h,M,E,hr=>by
  cases x with
  | box l =>
   obtain ⟨E1,g1,m1,r1⟩:=Zns b l 0 hr
   obtain ⟨E2,g2,m2,r2⟩:=Znt (b + 1) h r1
   exact Zki
  | _=>exact Znt (b + 1) h hr
theorem ZE3:∀ {l:List AV} {vs:List Value} (i:Nat) {x:AV},Zcv X W E M l vs→(∀ u,vs[i]?=some u→Zdt X W E M x u)→Zcv X W E M (l.set i x) vs
 | [],_,_,_,h,_=>h
 | _ :: _,_,0,_,⟨v,r,e,_,h2⟩,hx=>⟨v,r,e,hx v (by rw [e]; rfl),h2⟩
 | _ :: _,_,i + 1,_,⟨v,r,e,h1,h2⟩,hx=>⟨v,r,e,h1,ZE3 i h2 (fun u hu=>hx u (by rw [e]; simpa using hu))⟩
theorem ZDS {q:List AV × Mem} (hr:ZfX X q.1 q.2 a W E) (i k:Nat):∃ E',ZbW W E W E'∧Zbr W E q.2 W E' (Zq1 q i k).2∧ZfX X (Zq1 q i k).1 (Zq1 q i k).2 a W E':=by
 have stay:∃ E',ZbW W E W E'∧Zbr W E q.2 W E' q.2∧ZfX X q.1 q.2 a W E':=⟨E,ZbW.refl W E,Zbr.refl W E q.2,hr⟩
 unfold Zq1
 split
 ·rename_i j v hc
  cases hjk:Nat.beq j k with
  | true=>exact stay
  | false =>
   simp only [cond_false]
   split
   ·rename_i t ys vj cj t' xs vk ck hj hk
    cases hv:Nat.beq v vj with
    | false=>exact stay
    | true =>
     simp only [cond_true]
     split
     ·rename_i ht
      subst ht
      obtain rfl:=Nat.eq_of_beq_eq_true hv
      have hne:j ≠ k:=fun e=>by rw [e,Nat.beq_refl] at hjk; cases hjk
      obtain ⟨E',g,m,rm,rc⟩:=Zs2 hr.mem hk hj hne
      refine ⟨E',g,m,rm,ZE3 i (hr.tmps.mono g m hr.mem.len) (fun u hu=>?_),hr.dfr⟩
      obtain ⟨w,w1,w2⟩:=hr.tmps.get hc
      obtain rfl:=Option.some.inj (w1.symm.trans hu)
      have h3:=(w2:Zb7 X W E q.2 (.row j v) w).2
      unfold ZcA at h3
      rw [hj] at h3
      obtain ⟨ej,p1,p2⟩:=h3.2 rfl
      rw [p2]
      exact rc ej p1
     ·exact stay
   ·exact stay
 ·exact stay
theorem Zgv:∀ (h:List AV) (i:Nat) {q:List AV × Mem} {E:Env},ZfX X q.1 q.2 a W E→∃ E',ZbW W E W E'∧Zbr W E q.2 W E' (Zq2 q i h).2∧ZfX X (Zq2 q i h).1 (Zq2 q i h).2 a W E'
 | [],_,q,E,hr=>⟨E,ZbW.refl W E,Zbr.refl W E q.2,hr⟩
 | x :: h,i,q,E,hr=>by
  cases x with
  | w z =>
   cases z with
   | c c0 =>
    cases c0 with
    | row k ver =>
     obtain ⟨E1,g1,m1,r1⟩:=ZDS hr i k
     obtain ⟨E2,g2,m2,r2⟩:=Zgv h (i + 1) r1
     exact Zki
    | _=>exact Zgv h (i + 1) hr
   | ag l=>exact Zgv h (i + 1) hr
  | tp l=>exact Zgv h (i + 1) hr
  | any=>exact Zgv h (i + 1) hr
theorem ZMi {n0:Nat} {inp:List Nat} {tm0 tm' : List AV} {M0 M' : Mem} {h:List AV × Mem} (hle:leS n0 inp tm0 M0 tm' M' h):ZD1 M0=true:=by
 obtain ⟨_,_,h3⟩:=hle
 simp only [Bool.and_eq_true] at h3
 exact h3.2.2.2
theorem ZlM.head {W0:World} {E0:Env} {tm' : List AV} {h:List AV × Mem} (hT:ZvH X W0 E0 T) (hs:ZlM T W0 E0 W E M) (hle:leS T.n0 T.inp tm M tm' (M.map (Zhm M)) h):ZlM T W0 E0 W (E.take h.2.length) h.2:=by
 obtain ⟨h1,h2,h3⟩:=hle
 rw [Bool.and_eq_true,Bool.and_eq_true (a:=Nat.ble _ _)] at h3
 obtain ⟨_,hn,hi⟩:=h3
 rw [Bool.and_eq_true] at hi
 replace hi:=hi.1
 have hn:=Nat.le_of_ble_eq_true hn
 rw [hT.2.1] at hn
 refine ⟨ZJe hn hs.g,fun i hii=>?_⟩
 obtain ⟨z,e⟩:=ZI9 h2
 have hlt:i < h.2.length:=Nat.lt_of_lt_of_le (hT.2.2.1 i hii) hn
 have e1:h.2[i]?=(M.map (Zhm M))[i]?:=by rw [e,List.getElem?_append_left hlt]
 have hv:=List.all_eq_true.1 hi i hii
 rcases hs.kept i hii with hd | ⟨t,xs,v,c,hh,k1,k2⟩
 ·rw [hd] at hv; cases hv
 ·rw [k1] at hv
  cases hh with
  | some _=>cases hv
  | none =>
  obtain rfl:=Nat.eq_of_beq_eq_true (show Nat.beq v 0=true from hv)
  refine .inr ⟨t,xs,0,0,none,by rw [e1,Zvs,k1]; rfl,fun _ e0 he0=>?_⟩
  obtain ⟨e',q1,q2⟩:=k2 rfl e0 he0
  exact ⟨e',by rw [List.getElem?_take,if_pos hlt]; exact q1,q2⟩
theorem ZxU {L:Nat→List AV→Mem→Zbj} {W0:World} {E0:Env} (hT:ZvH X W0 E0 T):∀ (c:Code) (tm:List AV) (M:Mem) (a:Act) (W:World) (E:Env) (K:Exit→List AV→Mem→Prop) (Q:Exit→Act→World→Prop),
 (∀ e tm M a W E,K e tm M→ZfX X tm M a W E→ZlM T W0 E0 W E M→Q e a W)→Zio T L c tm M K→ZfX X tm M a W E→ZlM T W0 E0 W E M→c.wp P Q a W:=by
 intro c
 induction c with
 | skip=>intro tm M a W E K Q hS h hr hg; exact wp_skip (hS _ _ _ _ _ _ h hr hg)
 | label l=>intro tm M a W E K Q hS h hr hg; exact wp_label (hS _ _ _ _ _ _ h hr hg)
 | exit id=>intro tm M a W E K Q hS h hr hg; exact wp_exit (hS _ _ _ _ _ _ h hr hg)
 | ret=>intro tm M a W E K Q hS h hr hg; exact wp_ret (hS _ _ _ _ _ _ h hr hg)
 | region id ops draw =>
  intro tm M a W E K Q hS h0 hr hg
  have h:bif draw then (P.follows .mixedOrders=true∧okA T ops (Zim T ops ops.size (Array.replicate ops.size false)) false (Array.replicate ops.size false)=true)∧ZmL T ops (Zim T ops ops.size (Array.replicate ops.size false)) tm M (fun tm M=>K .normal tm M) else Znz T ops.toList ops.toList tm M (fun tm M=>K .normal tm M):=by
   have h0:bif ops.toList.any ZD2 then False else (bif draw then (P.follows .mixedOrders=true∧okA T ops (Zim T ops ops.size (Array.replicate ops.size false)) false (Array.replicate ops.size false)=true)∧ZmL T ops (Zim T ops ops.size (Array.replicate ops.size false)) tm M (fun tm M=>K .normal tm M) else Znz T ops.toList ops.toList tm M (fun tm M=>K .normal tm M)):=h0
   cases hp:ops.toList.any ZD2 with
   | true=>rw [hp] at h0; exact h0.elim
   | false=>rw [hp] at h0; exact h0
  cases draw with
  | false =>
   exact wp_region_list (Zfi hT (K:=fun tm M=>K .normal tm M) (fun tm M a W E hk hr hg=>hS _ _ _ _ _ _ hk hr hg) ops.toList tm M a W E h hr hg)
  | true =>
   obtain ⟨⟨hm,hB⟩,h⟩:=(h:(P.follows .mixedOrders=true∧okA T ops (Zim T ops ops.size (Array.replicate ops.size false)) false (Array.replicate ops.size false)=true)∧ZmL T ops (Zim T ops ops.size (Array.replicate ops.size false)) tm M (fun tm M=>K .normal tm M))
   have:=Zqw _ ops.size _ _ _ ((Zh9 (T:=T) (ops:=ops) _ _ tm M (ZDQ ops.size) h).1 hB) (Zs8 _ _)
   exact wp_region_any hm (ZoQ (T:=T) (X:=X) (W0:=W0) hT (fun tm M a W E hk hr hg=>hS _ _ _ _ _ _ hk hr hg) _ _ tm M a _ E hr.drew (hg.step (Zqy hr.mem) (Zta hr.mem)) this)
 | seq x y ihx ihy =>
  intro tm M a W E K Q hS h hr hg
  refine wp_seq (ihx tm M a W E _ _ (fun e tm M a W E hk hr hg=>?_) h hr hg)
  cases e with
  | normal=>exact ihy tm M a W E K Q hS hk hr hg
  | _=>exact hS _ _ _ _ _ _ hk hr hg
 | cond c x y ihx ihy =>
  intro tm M a W E K Q hS h hr hg
  unfold Zio at h
  cases c with
  | tmp t =>
   simp only at h
   split at h
   ·rename_i g hq
    have hl:=hr.lit hq
    have he:=ZaK hr.tmps (.tmp t)
    have he' : a.eval (.tmp t)=.bool g:=by
     have:evalA tm (.tmp t)=.w (.c (.bool g)):=hq
     rw [this] at he
     exact he
    cases g with
    | true=>exact wp_cond_true he' (ihx _ M a W E K Q hS h hl hg)
    | false=>exact wp_cond_false he' (ihy _ M a W E K Q hS h hl hg)
   ·exact h.elim
  | const v =>
   split at h
   ·rename_i t hq; cases hq
   ·rename_i g hq
    obtain rfl:v=.bool g:=by injection hq
    cases g with
    | true=>exact wp_cond_true rfl (ihx _ M a W E K Q hS h hr hg)
    | false=>exact wp_cond_false rfl (ihy _ M a W E K Q hS h hr hg)
   ·exact h.elim
  | global g=>exact h.elim
  | func f=>exact h.elim
 | block id x ih =>
  intro tm M a W E K Q hS h hr hg
  refine wp_block (ih tm M a W E _ _ (fun e tm M a W E hk hr hg=>?_) h hr hg)
  cases e with
  | exit id' =>
   show (if id'=id then Q .normal a W else Q (.exit id') a W)
   have hk:(bif Nat.beq id' id then K .normal tm M else K (.exit id') tm M):=hk
   by_cases hid:id'=id
   ·rw [if_pos hid]
    rw [hid,Nat.beq_refl] at hk
    exact hS _ _ _ _ _ _ hk hr hg
   ·rw [if_neg hid]
    have hb:Nat.beq id' id=false:=by
     cases hb:Nat.beq id' id with
     | false=>rfl
     | true=>exact absurd (Nat.eq_of_beq_eq_true hb) hid
    rw [hb] at hk
    exact hS _ _ _ _ _ _ hk hr hg
  | _=>exact hS _ _ _ _ _ _ hk hr hg
 | loop x ih =>
  intro tm M a W E K Q hS h hr hg
  unfold Zio at h
  obtain ⟨E1,g1,m1,r1⟩:=ZE2 (T.pro (ZeU x)) hr
  obtain ⟨tm1,htm1⟩:∃ z,z=(ZM9 tm M (T.pro (ZeU x))).1:=⟨_,rfl⟩
  obtain ⟨M1,hM1⟩:∃ z,z=(ZM9 tm M (T.pro (ZeU x))).2:=⟨_,rfl⟩
  rw [← htm1,← hM1] at r1
  rw [← hM1] at m1
  have hs1:=hg.step g1 m1
  obtain ⟨A,hA⟩:∃ A,A=L (ZeU x) (tm1.map (ZvJ M1)) (M1.map (Zhm M1)):=⟨_,rfl⟩
  have h:(∃ y,A.inv y∧leS T.n0 T.inp tm1 M1 (tm1.map (ZvJ M1)) (M1.map (Zhm M1)) (A.hd y)) ∧
   ∀ y,A.inv y→Zio T L x (A.hd y).1 (A.hd y).2 (fun e tm' M'=>match e with | .normal=>∃ y',A.inv y'∧A.μ y' < A.μ y∧(let p:=Zq2 (tm',Zq0 M' 0 (A.hd y).2) 0 (A.hd y).1; leS T.n0 T.inp p.1 p.2 (p.1.map (ZvJ p.2)) (p.2.map (Zhm p.2)) (A.hd y')) | e=>K e tm' M'):=by rw [hA,htm1,hM1]; exact h
  obtain ⟨⟨y0,hi0,hl0⟩,hround⟩:=h
  refine wp_loop_ghost (fun n a' w'=>∃ y E',A.inv y∧A.μ y=n∧ZfX X (A.hd y).1 (A.hd y).2 a' w' E'∧ZlM T W0 E0 w' E' (A.hd y).2) (A.μ y0) ⟨y0,_,hi0,rfl,(r1.back (ZMi hl0)).le hl0,hs1.head hT hl0⟩ ?_
  intro n a' w' hI
  obtain ⟨y,E',hiy,rfl,hry,hgy⟩:=hI
  refine ih _ _ a' w' E' _ _ (fun e tm' M' a' W' E' hk hr' hg'=>?_) (hround y hiy) hry hgy
  cases e with
  | normal =>
   obtain ⟨y',hi',hlt,hl'⟩:=hk
   obtain ⟨E2,g2,m2,r2⟩:=Znt 0 (A.hd y).2 hr'
   obtain ⟨E3,g3,m3,r3⟩:=Zgv (A.hd y).1 0 (q:=(tm',Zq0 M' 0 (A.hd y).2)) r2
   exact ⟨_,hlt,y',_,hi',rfl,(r3.back (ZMi hl')).le hl',((hg'.step g2 m2).step g3 m3).head hT hl'⟩
  | _=>exact hS _ _ _ _ _ _ hk hr' hg'
 | _=>intro tm M a W E K Q hS h hr hg; exact h.elim
theorem ZK6 {r:ResultVar} {x:AW} (hM:RepM X W E M) (ht:Zcv X W E M tm a.tmps.toList) (h:ZOL P tm M r=some x) :
 ∃ v,((match r with | .tmp t=>pure (a.tmps.getD t undef) | .cell p t=>do loadVar t (← asAddr (a.tmps.getD p undef)):Sem Value)).run P W=.ok v W∧Zk1 X W E M x v:=by
 unfold ZOL at h
 split at h
 ·rename_i t
  have he:=ZaK ht (.tmp t)
  have he:Zdt X W E M (tm.getD t .any) (a.tmps.getD t undef):=he
  split at h
  ·rename_i y hy
   obtain rfl:=Option.some.inj h
   rw [hy] at he
   exact ⟨_,rfl,he⟩
  ·cases h
 ·rename_i p t
  have he:=ZaK ht (.tmp p)
  have he:Zdt X W E M (tm.getD p .any) (a.tmps.getD p undef):=he
  split at h
  ·rename_i i q hy
   rw [hy] at he
   obtain ⟨e,hei,hv⟩:=(he:Zjo E i _ q)
   split at h
   ·rename_i l hb
    split at h
    ·rename_i z hz
     obtain rfl:=Option.some.inj h
     obtain ⟨_,cs,T,hgc,hl⟩:=hM.at_ i _ e hb hei
     obtain ⟨u,h1,h2⟩:=ZET (P:=P) hgc hl hz
     refine ⟨u,?_,h2⟩
     simp only [Sem.run_bind]
     rw [hv]
     simp only [asAddr,Sem.run_pure,Result.andThen_ok]
     exact h1
    ·cases h
   ·cases h
  ·cases h
theorem ZE4 (hM:RepM X W E M) (ht:Zcv X W E M tm a.tmps.toList):∀ {rs:List ResultVar} {l:List AW},ZMp P tm M rs=some l →
 ∃ vs,(rs.mapM (fun r=>(match r with | .tmp t=>pure (a.tmps.getD t undef) | .cell p t=>do loadVar t (← asAddr (a.tmps.getD p undef)):Sem Value))).run P W=.ok vs W∧Zd2 X W E M l vs
 | [],l,h=>by
  obtain rfl:=Option.some.inj h
  exact ⟨[],rfl,rfl⟩
 | r :: rs,l,h=>by
  unfold ZMp at h
  cases hx:ZOL P tm M r with
  | none=>rw [hx] at h; cases h
  | some x =>
   rw [hx] at h
   simp only at h
   cases hxs:ZMp P tm M rs with
   | none=>rw [hxs] at h; cases h
   | some xs =>
    rw [hxs] at h
    obtain rfl:=Option.some.inj h
    obtain ⟨v,h1,h2⟩:=ZK6 hM ht hx
    obtain ⟨vs,h3,h4⟩:=ZE4 hM ht hxs
    refine ⟨v :: vs,?_,v,vs,rfl,h2,h4⟩
    rw [List.mapM_cons]
    simp only [Sem.run_bind,h1,Result.andThen_ok,h3,Sem.run_pure]
theorem Zd2.len:∀ {l:List AW} {vs:List Value},Zd2 X W E M l vs→vs.length=l.length
 | [],_,h=>by rw [show _=_ from h]; rfl
 | _ :: _,_,⟨v,r,e,_,h2⟩=>by rw [e,List.length_cons,Zd2.len h2,List.length_cons]
theorem ZDT {fn:Func} {l:List AW} (hM:RepM X W E M) (ht:Zcv X W E M tm a.tmps.toList) (h:ZMp P tm M fn.results.toList=some l):∃ v,(results fn a.tmps).run P W=.ok v W∧Zdt X W E M (ZOM l) v:=by
 obtain ⟨vs,h1,h2⟩:=ZE4 hM ht h
 have hlen:=h2.len
 have hrun:(results fn a.tmps).run P W=.ok (if h:vs.toArray.size=1 then vs.toArray[0] else .tuple vs.toArray) W:=by
  unfold results
  rw [Array.mapM_eq_mapM_toList]
  simp only [Sem.run_bind,Sem.run_map]
  exact Eq.trans (congrArg (fun z:Result (List Value)=>(z.andThen (fun a w'=>Result.ok a.toArray w')).andThen (fun a w'=>Sem.run P (pure (if h:a.size=1 then a[0] else Value.tuple a)) w')) h1) rfl
 refine ⟨_,hrun,?_⟩
 cases l with
 | nil =>
  obtain rfl:vs=[]:=h2
  exact ⟨[],rfl,rfl⟩
 | cons x l =>
  cases l with
  | nil =>
   obtain ⟨v,r,rfl,q1,rfl⟩:=h2
   exact q1
  | cons y l =>
   have:¬ vs.toArray.size=1:=by simp at hlen ⊢; omega
   rw [dif_neg this]
   exact ⟨vs,rfl,h2⟩
theorem ZxV:∀ {args:List AW} {vs:List Value} (n:Nat),Zd2 X W E M args vs→Zcv X W E M (args.map .w ++ List.replicate n Zin) (vs ++ List.replicate n undef)
 | [],vs,n,h=>by
  obtain rfl:vs=[]:=h
  induction n with
  | zero=>rfl
  | succ n ih=>exact ⟨_,_,rfl,Zs6,ih⟩
 | _ :: _,_,n,⟨v,r,e,h1,h2⟩=>by rw [e]; exact ⟨v,_,rfl,h1,ZxV n h2⟩
theorem ZOC (hsz:∀ b ∈ X,b < W.heap.size):RepM X W [] []:=⟨rfl,List.nodup_nil,fun i b e h=>by simp at h,fun b hb=>by simp [foots] at hb,fun b _=>by simp [foots],hsz⟩
theorem ZlO {L:Nat→List AV→Mem→Zbj} {f:FuncId} {fn:Func} {args:List AW} {vs:List Value} {M0:Mem} {E0:Env} {Q:AV→Mem→Prop} (hf:P.funcs[f]?=some fn) (hT:ZvH X W E0 T) (h:ZGY T L fn args M0 Q) (hM0:RepM X W E0 M0) (hr:Zd2 X W E0 M0 args vs)
 (hinp:∀ i ∈ T.inp,∃ t xs v c,M0[i]?=some (.row t xs v c none)) :
 Calls P f vs.toArray W (fun e W'=>∃ v E' M' r,e=.returned v∧ZlM T W E0 W' E' M'∧RepM X W' E' M'∧Zdt X W' E' M' r v∧Q r M'):=by
 unfold ZGY at h
 cases hb:fn.body with
 | none=>rw [hb] at h; exact h.elim
 | some c =>
  rw [hb] at h
  simp only at h
  refine calls_of_wp hf hb (ZxU (T:=T) (L:=L) (X:=X) (W0:=W) hT c (ZNa fn.ntmps args) M0 _ W E0 _ _ (fun e tm M a W' E' hk hr' hg=>?_) h ⟨hM0,?_,rfl⟩ ⟨ZbW.refl _ _,fun i hi=>?_⟩)
  ·have fin:∀ (hk:match ZMp P tm M fn.results.toList with | some l=>Q (ZOM l) M | none=>False),a.defers=[]∧∃ v,(results fn a.tmps).run P W'=.ok v W'∧∃ v' E' M' r,Ending.returned v=.returned v'∧ZlM T W E0 W' E' M'∧RepM X W' E' M'∧Zdt X W' E' M' r v'∧Q r M':=fun hk=>by
    split at hk
    ·rename_i l hl
     obtain ⟨v,h1,h2⟩:=ZDT hr'.mem hr'.tmps hl
     exact ⟨hr'.dfr,v,h1,v,E',M,_,rfl,hg,hr'.mem,h2,hk⟩
    ·exact hk.elim
   cases e with
   | normal=>exact fin hk
   | ret=>exact fin hk
   | _=>exact hk.elim
  ·have:=ZxV (fn.ntmps - vs.length) hr
   have hl:=hr.len
   unfold ZNa
   rw [hl] at this
   have e1:(vs.toArray ++ Array.replicate (fn.ntmps - vs.toArray.size) undef).toList=vs ++ List.replicate (fn.ntmps - args.length) undef:=by simp [hl]
   show Zcv X W E0 M0 _ (vs.toArray ++ Array.replicate (fn.ntmps - vs.toArray.size) undef).toList
   rw [e1]
   exact this
  ·obtain ⟨t,xs,v,c,hi'⟩:=hinp i hi
   exact .inr ⟨t,xs,v,c,none,hi',fun _ e0 he0=>⟨e0,he0,rfl⟩⟩
end
def ZOD {α:Type} (p:α→Prop) (l:List α):Prop:=∀ x ∈ l,p x
def WfT:(t:Ty)→t.den→Prop
 | .int k,x=>(Lit.int k x).wf=true
 | .bool,_=>True
 | .str,s=>ByteArray.size s≤maxLen
 | .opq,_=>True
 | .prod a b,x=>WfT a x.1∧WfT b x.2
 | .list a,xs=>List.length (α:=a.den) xs≤maxLen∧ZOD (α:=a.den) (WfT a) xs
def WfC:AC→Prop
 | .int k x=>(Lit.int k x).wf=true
 | .str s=>s.size≤maxLen
 | .hs .no t xs=>xs.length≤maxLen∧ZOD (WfT t) xs
 | .ep .no t xs _ _=>ZOD (WfT t) xs
 | _=>True
def WfL:List AC→Prop
 | []=>True
 | c :: l=>WfC c∧WfL l
def WfW:AW→Prop
 | .c a=>WfC a
 | .ag l=>WfL l
def WfA:List AW→Prop
 | []=>True
 | x :: l=>WfW x∧WfA l
theorem ZJg {α:Type} [GoRep α] {W:World} {p:α→Prop} (hp:∀ x cs F,rep W x cs F→p x) {b:Nat}:∀ {xs:List α} {off:Nat} {G:List Nat},Zc0 W b off xs G→∀ x ∈ xs,p x
 | [],_,_,_,x,hx=>by simp at hx
 | y :: xs,_,_,⟨cs,G1,G2,h1,_,h3,_⟩,x,hx=>by
  rcases List.mem_cons.1 hx with rfl | hx
  ·exact hp _ _ _ h1
  ·exact ZJg hp h3 x hx
theorem Ztd {W:World}:∀ (t:Ty) {x:t.den} {cs:List Value} {F:List Nat},rep W x cs F→WfT t x
 | .int _,_,_,_,h=>h.2.1
 | .bool,_,_,_,_=>trivial
 | .str,_,_,_,h=>h.2.1
 | .opq,_,_,_,_=>trivial
 | .prod a b,_,_,_,⟨_,_,_,_,h1,h2,_,_⟩=>⟨Ztd a h1,Ztd b h2⟩
 | .list a,xs,_,_,⟨A,c,_,h1,h2,h3⟩=>by
  refine ⟨Nat.le_trans h1 h2,fun x hx=>?_⟩
  rcases h3 with ⟨rfl,_⟩ | ⟨_,b,off,G,_,_,hr⟩
  ·simp at hx
  ·exact ZJg (fun x cs F h=>Ztd a h) hr x hx
section
variable {P:Program} {X:List Nat} {W:World} {E:Env} {M:Mem}
theorem ZJh:∀ {c:AC} {v:Value},Zb7 X W E M c v→WfC c
 | .int _ _,_,h=>h.2
 | .bool _,_,_=>trivial
 | .str _,_,h=>h.2
 | .opq _,_,_=>trivial
 | .hs .no t xs,v,⟨_,F,h,_⟩=>Ztd (.list t) h
 | .hs (.at _ _ _) _ _,_,_=>trivial
 | .bp _ _,_,_=>trivial
 | .ep .no t xs k o,v,⟨_,F,⟨b,off,G,_,_,_,h⟩,_⟩=>fun x hx=>ZJg (fun x cs F h=>Ztd t h) h x hx
 | .ep (.at _ _ _) _ _ _ _,_,_=>trivial
 | .row _ _,_,_=>trivial
 | .rp _ _ _ _ _,_,_=>trivial
 | .sl _ _ _ _ _ _,_,_=>trivial
 | .sp _ _ _ _ _ _ _ _ _,_,_=>trivial
 | .tl _ _ _ _,_,_=>trivial
 | .mp _,_,_=>trivial
 | .junk,_,_=>trivial
 | .fn _ _,_,_=>trivial
 | .raw _,_,_=>trivial
theorem ZDU:∀ {l:List AC} {vs:List Value},ZcK X W E M l vs→WfL l
 | [],_,_=>trivial
 | _ :: _,_,⟨_,_,_,h1,h2⟩=>⟨ZJh h1,ZDU h2⟩
theorem Zms:∀ {l:List AW} {vs:List Value},Zd2 X W E M l vs→WfA l
 | [],_,_=>trivial
 | .c _ :: _,_,⟨_,_,_,h1,h2⟩=>⟨ZJh h1,Zms h2⟩
 | .ag _ :: _,_,⟨_,_,_,⟨_,_,h1⟩,h2⟩=>⟨ZDU h1,Zms h2⟩
theorem ZMY {W0:World} {res r:AV} {new:Mem} {v:Value} {T:Tab P} (hM:RepM X W E M) (hg:ZbW W0 [] W E) (hr:Zdt X W E M r v) (h:ZON res new r M):∃ E',ZbW W0 [] W E'∧RepM X W E' new∧Zdt X W E' new res v:=by
 obtain ⟨hn,hc⟩:=h
 obtain ⟨us,hus⟩:∃ us,us=(Zob M new [] r res).used:=⟨_,rfl⟩
 rw [← hus] at hc
 rw [Bool.and_eq_true] at hc
 have hlen:=Nat.eq_of_beq_eq_true hc.1
 obtain ⟨hu,hv⟩:=Zty (X':=X) (us:=us) (acc:=[]) hM (fun b hb=>.inl hb) (fun q u h=>by simp at h) hn hr (fun q u h=>by rw [hus]; simpa using h)
 rw [← hus] at hu
 have hu:Zdv X X W E M new us 0 us:=hu
 refine ⟨pickE E us,⟨hg.os,hg.tape,hg.output,hg.size,hg.keep,fun b hb=>hg.new b (Zey b hb),fun i e h=>by simp at h⟩,Zqk hM hu hlen hc.2 (fun b hb hf=>hM.xlt b hb (Zey b hf)) hM.xsz,hv⟩
theorem Zte:∀ {l:Mem} {k j:Nat} {c:List AC},l[j]?=some (.box c)→k + j ∈ Zx3 k l
 | [],_,_,_,h=>by simp at h
 | .box _ :: l,k,0,c,h=>List.mem_cons_self
 | b :: l,k,j + 1,c,h=>by
  have:=Zte (l:=l) (k:=k + 1) (j:=j) (c:=c) (by simpa using h)
  rw [show k + 1 + j=k + (j + 1) by omega] at this
  cases b <;> first | exact List.mem_cons_of_mem _ this | exact this
 | .row _ _ _ _ none :: l,k,0,c,h=>by cases h
 | .mp _ :: l,k,0,c,h=>by cases h
 | .dead :: l,k,0,c,h=>by cases h
theorem ZxW {us:List (Option Nat)} {l:List Nat} (h:ZN7 us l=true) {j:Nat} (hj:j ∈ l):us[j]?=some (some j):=by
 have h1:=List.all_eq_true.1 h j hj
 unfold ZJl at h1
 split at h1
 ·rename_i i hi
  rw [hi,Nat.eq_of_beq_eq_true h1]
 ·cases h1
theorem ZxX {X' : List Nat} {new:Mem} {us:List (Option Nat)} (hM:RepM X W E M) (hX:∀ b ∈ X',b ∈ X∨b ∈ foots E):∀ {ps:List (AW × AW)} {acc:List (Option Nat)},(∀ (q:Nat) (u:Option Nat),acc[q]?=some u→us[q]?=some u)→(ZlT M new acc ps).need →
 (∀ (q:Nat) (u:Option Nat),(ZlT M new acc ps).used[q]?=some u→us[acc.length + q]?=some u)→(∀ p ∈ ps,∃ v,Zk1 X W E M p.1 v)→Zdv X X' W E M new us acc.length (ZlT M new acc ps).used
 | [],_,_,_,_,_=>trivial
 | p :: ps,acc,hacc,⟨h1,h2⟩,hus,hv=>by
  have hus:∀ (q:Nat) (u:Option Nat),((Zeu M new acc p.1 p.2).used ++ (ZlT M new (acc ++ (Zeu M new acc p.1 p.2).used) ps).used)[q]?=some u→us[acc.length + q]?=some u:=hus
  have hu1:∀ (q:Nat) (u:Option Nat),(Zeu M new acc p.1 p.2).used[q]?=some u→us[acc.length + q]?=some u:=fun q u hq=>hus q u (by rw [List.getElem?_append_left (List.getElem?_eq_some_iff.1 hq).1]; exact hq)
  have hacc2:∀ (q:Nat) (u:Option Nat),(acc ++ (Zeu M new acc p.1 p.2).used)[q]?=some u→us[q]?=some u:=fun q u hq=>by
   exact Zkh
  obtain ⟨v,hv1⟩:=hv p List.mem_cons_self
  obtain ⟨q1,_⟩:=Ztz hM hX hacc h1 hv1 hu1
  have p1:=ZxX hM hX hacc2 h2 (fun q u hq=>by
   have:=hus ((Zeu M new acc p.1 p.2).used.length + q) u (by rw [List.getElem?_append_right (by omega),Nat.add_sub_cancel_left]; exact hq)
   rwa [List.length_append,Nat.add_assoc]) (fun p hp=>hv p (List.mem_cons_of_mem _ hp))
  rw [List.length_append] at p1
  exact q1.app p1
theorem pairs_name:∀ {ins:List MTy} {k:Nat} {p:AW × AW},p ∈ ZoB k ins→(∃ j,p.1=.c (.bp j 0)∧j < k + (ins.map MTy.nb).sum)∨(∃ j ∈ inpM k ins,p.1=.c (.row j 0))∨p.1=.c (.raw (.slice none 0 0))
 | [],_,_,h=>by simp [ZoB] at h
 | y :: l,k,p,h=>by
  have seq_lt:∀ (n k j:Nat),j ∈ seqN k n→j < k + n:=by
   intro n
   induction n with
   | zero=>intro k j h; simp [seqN] at h
   | succ n ih =>
    intro k j h
    rcases List.mem_cons.1 h with rfl | h
    ·omega
    ·have:=ih (k + 1) j h; omega
  have up:∀ {n:Nat} {inp:List Nat},n=y.nb→inpM k (y :: l)=inp ++ inpM (k + n) l→p ∈ ZoB (k + n) l→(∃ j,p.1=.c (.bp j 0)∧j < k + ((y :: l).map MTy.nb).sum)∨(∃ j ∈ inpM k (y :: l),p.1=.c (.row j 0))∨p.1=.c (.raw (.slice none 0 0)):=fun {n inp} hn hi hp=>by
   rcases pairs_name hp with ⟨j,h1,h2⟩ | ⟨j,h1,h2⟩ | h
   ·exact .inl ⟨j,h1,by rw [List.map_cons,List.sum_cons,← hn]; omega⟩
   ·exact .inr (.inl ⟨j,by rw [hi]; exact List.mem_append_right _ h1,h2⟩)
   ·exact .inr (.inr h)
  cases y with
  | a y=>exact up (n:=0) (inp:=[]) rfl rfl h
  | m t =>
   exact ZzC
  | e t =>
   rcases List.mem_cons.1 h with rfl | h
   ·exact .inr (.inl ⟨k,List.mem_cons_self,rfl⟩)
   ·exact up (inp:=[k]) rfl rfl h
  | q g t =>
   rcases List.mem_append.1 h with h | h
   ·obtain ⟨j,hj,rfl⟩:=List.mem_map.1 h
    exact .inr (.inl ⟨j,List.mem_append_left _ hj,rfl⟩)
   ·exact up (inp:=seqN k t.nl) rfl rfl h
  | g g t =>
   rcases List.mem_append.1 h with h | h
   ·obtain ⟨j,hj,rfl⟩:=List.mem_map.1 h
    exact .inr (.inr rfl)
   ·exact up (inp:=[]) rfl rfl h
  | b t =>
   exact ZzC
  | f g c =>
   rcases List.mem_append.1 h with h | h
   ·obtain ⟨j,hj,rfl⟩:=List.mem_map.1 h
    refine .inl ⟨j,rfl,?_⟩
    have:=seq_lt _ _ _ hj
    rw [List.map_cons,List.sum_cons]
    show j < k + (c.length + _)
    omega
   ·exact up (inp:=[]) rfl rfl h
theorem Zvt:∀ {l:List ZN4} {x:ZM3 l},(ZOE l x).length=l.length
 | [],_=>rfl
 | .b t :: l,x=>congrArg (· + 1) (Zvt (l:=l) (x:=x.2))
 | .ptr j :: l,x=>congrArg (· + 1) (Zvt (l:=l) (x:=(x:ZM3 l)))
theorem Zia:∀ {t:Ty} {x:t.den},(Zj6 t x).length=t.nl
 | .int _,_=>rfl
 | .bool,_=>rfl
 | .str,_=>rfl
 | .opq,_=>rfl
 | .prod a b,x=>(List.length_append).trans (congr (congrArg Nat.add (Zia (t:=a))) (Zia (t:=b)))
 | .list _,_=>rfl
theorem Zmt {k:Nat}:∀ {y:MTy} {x:y.D},(preM1 k y x).length=y.nb
 | .a _,_=>rfl
 | .m t,x=>congrArg (· + 1) (Zia (t:=t))
 | .e _,_=>rfl
 | .q _ t,x=>Zia (t:=t)
 | .g _ t,x=>Zia (t:=t)
 | .b _,_=>rfl
 | .f _ l,x=>Zvt (l:=l)
theorem ZE5:∀ {ins:List MTy} {k:Nat} {x:MD ins},(Zh2 k ins x).length=(ins.map MTy.nb).sum
 | [],_,_=>rfl
 | y :: l,k,x=>by
  show (preM1 k y x.1 ++ Zh2 (k + y.nb) l x.2).length=_
  rw [List.length_append,Zmt,ZE5,List.map_cons,List.sum_cons]
theorem Znu:∀ {t:Ty} {x:t.den} {b:Blk},b ∈ Zj6 t x→∃ (t' : Ty) (xs:List t'.den),b=.row t' xs 0 0 none
 | .int _,_,_,h=>by simp [Zj6] at h
 | .bool,_,_,h=>by simp [Zj6] at h
 | .str,_,_,h=>by simp [Zj6] at h
 | .opq,_,_,h=>by simp [Zj6] at h
 | .prod a b,x,_,h=>(List.mem_append.1 h).elim (Znu (t:=a)) (Znu (t:=b))
 | .list a,xs,_,h=>⟨a,xs,List.mem_singleton.1 h⟩
theorem ZE6:∀ {n k j:Nat},j ∈ seqN k n→k≤j∧j < k + n
 | 0,_,_,h=>by simp [seqN] at h
 | n + 1,k,j,h=>by
  rcases List.mem_cons.1 h with rfl | h
  ·omega
  ·have:=ZE6 h; omega
theorem Zvu:∀ {ins:List MTy} {k:Nat} {x:MD ins} {i:Nat},i ∈ inpM k ins→k≤i∧∃ (t:Ty) (xs:List t.den) (v c:Nat),(Zh2 k ins x)[i - k]?=some (.row t xs v c none)
 | [],_,_,_,h=>by simp [inpM] at h
 | y :: l,k,x,i,h=>by
  have up:i ∈ inpM (k + y.nb) l→k≤i∧∃ (t:Ty) (xs:List t.den) (v c:Nat),(Zh2 k (y :: l) x)[i - k]?=some (.row t xs v c none):=fun h=>by
   obtain ⟨h1,t,xs,v,c,h2⟩:=Zvu (x:=x.2) h
   refine ⟨by omega,t,xs,v,c,?_⟩
   show (preM1 k y x.1 ++ Zh2 (k + y.nb) l x.2)[i - k]?=_
   rw [List.getElem?_append_right (by rw [Zmt]; omega),Zmt,← h2]
   congr 1
   omega
  have here:i ∈ seqN k y.nb→(∀ b ∈ preM1 k y x.1,∃ (t' : Ty) (xs:List t'.den),b=.row t' xs 0 0 none)→k≤i∧∃ (t:Ty) (xs:List t.den) (v c:Nat),(Zh2 k (y :: l) x)[i - k]?=some (.row t xs v c none):=fun h hb=>by
   obtain ⟨h1,h2⟩:=ZE6 h
   refine ⟨h1,?_⟩
   have hl:i - k < (preM1 k y x.1).length:=by rw [Zmt]; omega
   obtain ⟨t,xs,e⟩:=hb _ (List.getElem_mem hl)
   refine ⟨t,xs,0,0,?_⟩
   show (preM1 k y x.1 ++ Zh2 (k + y.nb) l x.2)[i - k]?=_
   rw [List.getElem?_append_left hl,List.getElem?_eq_getElem hl,e]
  cases y with
  | e t =>
   rcases List.mem_cons.1 h with h | h
   ·exact here (by rw [h]; exact List.mem_cons_self) (fun b hb=>⟨t,_,List.mem_singleton.1 hb⟩)
   ·exact up h
  | q g t =>
   rcases List.mem_append.1 h with h | h
   ·exact here h (fun b hb=>Znu (t:=t) hb)
   ·exact up h
  | a _=>exact up h
  | m _=>exact up h
  | g _ _=>exact up h
  | b _=>exact up h
  | f _ _=>exact up h
def WfB:Blk→Prop
 | .row t xs _ _ none=>WfT (.list t) xs
 | .box l=>WfL l
 | _=>True
def WfM:Mem→Prop
 | []=>True
 | b :: l=>WfB b∧WfM l
theorem ZK7 {t:Ty} {xs:List t.den} {v:Value} {F:List Nat} (h:Zck W (Zbx W t) t.n xs v F):WfT (.list t) xs:=by
 obtain ⟨F',h1,_⟩:=Zbx.rep (.list t) (x:=xs) (cs:=[v]) ⟨v,rfl,h⟩
 exact Ztd (.list t) h1
theorem ZMZ {b:Blk} {e:EB} (h:ZNq X W E M b e):WfB b:=by
 cases b with
 | row t xs v c hh =>
  cases hh with
  | none=>exact ZK7 h
  | some _=>trivial
 | box l=>obtain ⟨_,cs,T,_,h⟩:=h; exact ZDU h
 | mp _=>trivial
 | dead=>trivial
theorem ZM0 (hM:RepM X W E M):WfM M:=by
 have:∀ b ∈ M,WfB b:=fun b hb=>by
  obtain ⟨i,hi⟩:=List.mem_iff_getElem?.1 hb
  have hl:i < E.length:=by rw [← hM.len]; exact (List.getElem?_eq_some_iff.1 hi).1
  exact ZMZ (hM.at_ i b _ hi (List.getElem?_eq_getElem hl))
 clear hM
 induction M with
 | nil=>trivial
 | cons b l ih=>exact ⟨this b List.mem_cons_self,ih (fun b hb=>this b (List.mem_cons_of_mem _ hb))⟩
theorem ZcY {T:Tab P} {L:Nat→List AV→Mem→Zbj} {f:FuncId} {fn:Func} {args:List AW} {res:AV} {new:Mem} (hf:P.funcs[f]?=some fn) (hC:(T.C=none∧T.n0=0)∧T.inp=[]) (h:WfA args→ZGY T L fn args [] (ZON res new)):Zam P f args res new:=fun X W vs hsz hgl hr =>
 (ZlO (E0:=[]) hf ⟨.inl hC.1.1,hC.1.2,(fun i hi=>by rw [hC.2] at hi; cases hi),hgl⟩ (h (Zms hr)) (ZOC hsz) hr (fun i hi=>by rw [hC.2] at hi; cases hi)).mono fun e W' hq=>by
  exact ZzM
theorem Zep {T:Tab P} {L:Nat→List AV→Mem→Zbj} {f:FuncId} {fn:Func} {args:List AW} {res:AV} {vs:List Value} (hf:P.funcs[f]?=some fn) (hn0:T.n0=0∧T.inp=[]) (hT:∀ c,T.C=some c→ZOG X W c) (hsz:∀ b ∈ X,b < W.heap.size) (hgl:Zjp W []) (hr:Zd2 X W [] [] args vs)
 (h:WfA args→ZGY T L fn args [] (ZON res [])) :
 Calls P f vs.toArray W (fun e W'=>∃ v E',e=.returned v∧ZbW W [] W' E'∧RepM X W' E' []∧Zdt X W' E' [] res v) :=
 (ZlO (E0:=[]) hf ⟨.inr ⟨rfl,hT⟩,hn0.1,(fun i hi=>by rw [hn0.2] at hi; cases hi),hgl⟩ (h (Zms hr)) (ZOC hsz) hr (fun i hi=>by rw [hn0.2] at hi; cases hi)).mono fun e W' hq=>by
  exact ZzM
theorem Zdy {T:Tab P} {L:Nat→List AV→Mem→Zbj} {f:FuncId} {fn:Func} {ins:List MTy} {x y:MD ins} {res:AV} {new:Mem} (hf:P.funcs[f]?=some fn) (hC:T.C=none) (hn0:T.n0=(Zh2 0 ins x).length) (hinp:T.inp=inpM 0 ins)
 (hsame:Zg2 (Zh2 0 ins x) (Zfm 0 ins y ++ new)=true)
 (h:WfA (Zea 0 ins x)→WfM (Zh2 0 ins x)→ZGY T L fn (Zea 0 ins x) (Zh2 0 ins x) (ZPU ins (Zfm 0 ins y ++ new) res)):Zet P f (Zea 0 ins x) (Zh2 0 ins x) (Zfm 0 ins y ++ new) (inpM 0 ins) res:=fun X W E0 vs hgl hM0 hr=>by
 have hrow:∀ i ∈ T.inp,∃ (t:Ty) (xs:List t.den) (v c:Nat),(Zh2 0 ins x)[i]?=some (.row t xs v c none):=fun i hi=>by
  rw [hinp] at hi
  obtain ⟨_,h⟩:=Zvu (x:=x) hi
  exact h
 have hl0:(Zh2 0 ins x).length=E0.length:=hM0.len
 refine (ZlO (T:=T) hf ⟨.inl hC,by rw [hn0,hl0],(fun i hi=>by
  obtain ⟨t,xs,v,c,h⟩:=hrow i hi
  rw [← hl0]
  exact (List.getElem?_eq_some_iff.1 h).1),hgl⟩ (h (Zms hr) (ZM0 hM0)) hM0 hr hrow).mono fun e W' hq=>?_
 obtain ⟨v,E',M',r,rfl,hs,m,hv,hn,hchk⟩:=hq
 obtain ⟨qm,hqm⟩:∃ qm,qm=Zfm 0 ins y ++ new:=⟨_,rfl⟩
 rw [← hqm] at hn hchk hsame ⊢
 obtain ⟨us1,hus1⟩:∃ us1,us1=(ZlT M' qm [] (ZoB 0 ins)).used:=⟨_,rfl⟩
 rw [← hus1] at hn hchk
 obtain ⟨us2,hus2⟩:∃ us2,us2=(Zob M' qm us1 r res).used:=⟨_,rfl⟩
 rw [← hus2] at hchk
 simp only [Bool.and_eq_true] at hchk
 obtain ⟨⟨c1,c2⟩,c3,c4⟩:=hchk
 have c1:=Nat.eq_of_beq_eq_true c1
 have hlE:∀ j,j < (Zh2 0 ins x).length→∃ ej e0,E'[j]?=some ej∧E0[j]?=some e0∧ej.blk=e0.blk:=fun j hj=>by
  have h0:E0[j]?=some (E0[j]'(by omega)):=List.getElem?_eq_getElem (by omega)
  obtain ⟨ej,q1,q2⟩:=hs.g.blk j _ h0
  exact ⟨ej,_,q1,h0,q2⟩
 have hu1:Zdv X X W' E' M' qm (us1 ++ us2) 0 us1:=by
  have:=ZxX (X':=X) (us:=us1 ++ us2) (acc:=[]) m (fun b hb=>.inl hb) (fun q u h=>by simp at h) hn.1 (fun q u h=>by rw [← hus1] at h; rw [List.length_nil,Nat.zero_add,List.getElem?_append_left (List.getElem?_eq_some_iff.1 h).1]; exact h) (fun p hp=>by
   rcases pairs_name hp with ⟨j,h1,h2⟩ | ⟨j,h1,h2⟩ | h1
   ·rw [h1]
    obtain ⟨ej,e0,q1,_⟩:=hlE j (by rw [ZE5]; omega)
    exact ⟨_,ej,q1,rfl⟩
   ·rw [h2]
    have hv0:=List.all_eq_true.1 c4 j h1
    rcases hs.kept j (by rw [hinp]; exact h1) with hd | ⟨t,xs,v',c,hh,k1,_⟩
    ·rw [hd] at hv0; cases hv0
    ·rw [k1] at hv0
     cases hh with
     | some _=>cases hv0
     | none =>
     obtain rfl:=Nat.eq_of_beq_eq_true (show Nat.beq v' 0=true from hv0)
     obtain ⟨_,t2,xs2,v2,c2,h3⟩:=Zvu (x:=x) h1
     obtain ⟨ej,e0,q1,_⟩:=hlE j (by have:=(List.getElem?_eq_some_iff.1 h3).1; omega)
     have hol:Zck W' (Zbx W' t) t.n xs ej.val ej.foot:=m.at_ j _ ej k1 q1
     obtain ⟨A,c',hsl⟩:=Zdp hol
     refine ⟨ej.val,by rw [hsl]; rfl,?_⟩
     unfold ZcA
     rw [k1]
     exact ⟨Nat.le_refl _,fun _=>⟨ej,q1,rfl⟩⟩
   ·rw [h1]
    exact ⟨.slice none 0 0,rfl,rfl⟩)
  rw [← hus1] at this
  exact this
 obtain ⟨hu2,hv2⟩:=Zty (X':=X) (us:=us1 ++ us2) (acc:=us1) m (fun b hb=>.inl hb) (fun q u h=>by rw [List.getElem?_append_left (List.getElem?_eq_some_iff.1 h).1]; exact h) hn.2 hv (fun q u h=>by rw [← hus2] at h; rw [List.getElem?_append_right (by omega),Nat.add_sub_cancel_left]; exact h)
 rw [← hus2] at hu2
 have hu:Zdv X X W' E' M' qm (us1 ++ us2) 0 (us1 ++ us2):=hu1.app (by rw [Nat.zero_add]; exact hu2)
 refine ⟨v,pickE E' (us1 ++ us2),rfl,⟨hs.g.os,hs.g.tape,hs.g.output,hs.g.size,hs.g.keep,fun b hb=>hs.g.new b (Zey b hb)⟩,fun i l e0 hb he0=>?_,fun i hi e0 he0=>?_,Zqk m hu c1 c2 (fun b hb hf=>m.xlt b hb (Zey b hf)) m.xsz,hv2⟩
 ·have hq:∃ l',qm[i]?=some (.box l'):=ZlJ hsame hb
  obtain ⟨l',hq⟩:=hq
  have hin:i ∈ Zx3 0 qm:=by have:=Zte (k:=0) hq; rwa [Nat.zero_add] at this
  have hus:=ZxW c3 (List.mem_append_left _ hin)
  obtain ⟨ej,e0',q1,q2,q3⟩:=hlE i (List.getElem?_eq_some_iff.1 hb).1
  rw [he0] at q2
  obtain rfl:=Option.some.inj q2
  exact ⟨ej,ZeF hus q1,q3⟩
 ·have hus:=ZxW c3 (List.mem_append_right _ hi)
  have hv0:=List.all_eq_true.1 c4 i hi
  rcases hs.kept i (by rw [hinp]; exact hi) with hd | ⟨t,xs,v',c,hh,k1,k2⟩
  ·rw [hd] at hv0; cases hv0
  ·rw [k1] at hv0
   cases hh with
   | some _=>cases hv0
   | none =>
   obtain rfl:=Nat.eq_of_beq_eq_true (show Nat.beq v' 0=true from hv0)
   obtain ⟨ej,q1,q2⟩:=k2 rfl e0 he0
   exact ⟨ej,ZeF hus q1,q2⟩
theorem RV.of_b {f:FuncId} {args:List AW} {c:AC} {w:World} {vs:List Value} {u:Value} (h:Zam P f args (.c c) []) (hgl:Zjp w []) (hr:Zd2 [] w [] [] args vs) (hc:∀ W' E' v,Zb7 [] W' E' [] c v→v=u):Calls P f vs.toArray w (RV u w) :=
 (h [] w vs (by simp) hgl hr).mono fun e W' hq=>by
  obtain ⟨v,E',rfl,g,m,hv⟩:=hq
  obtain rfl:=hc _ _ _ hv
  exact ⟨rfl,Zkk g.below⟩
theorem ZqA {w:World} (t:Ty) {x:t.den} {cs:List Value} (h:ZKm w x cs):Zk1 [] w [] [] (.ag (cellsOf t x)) (.agg cs.toArray):=by
 obtain ⟨F,h⟩:=h
 exact ⟨cs,rfl,ZdF (L:=.no) t h (fun b hb=>⟨by simp [foots],GoRep.lt h b hb⟩)⟩
end
theorem ZoR {b:Bool} {p q:Prop}:(bif b then p else q)↔((b=true→p)∧(b=false→q)):=by cases b <;> simp
section
variable {P:Program} {X X2:List Nat} {W W' : World} {E:Env} {M:Mem}
def Ty.quo:Ty→Ty
 | .int k=>.int k
 | .bool=>.bool
 | .str=>.str
 | .opq=>.opq
 | .prod a b=>.prod a.quo b.quo
 | .list _=>.opq
def ZAX (W:World):(t:Ty)→t.den→t.quo.den→List Nat→Prop
 | .int _,x,q,F=>@Eq Int x q∧F=[]
 | .bool,x,q,F=>@Eq Bool x q∧F=[]
 | .str,x,q,F=>@Eq ByteArray x q∧F=[]
 | .opq,x,q,F=>@Eq Value x q∧F=[]
 | .prod a b,x,q,F=>∃ F1 F2,ZAX W a x.1 q.1 F1∧ZAX W b x.2 q.2 F2∧F=F1 ++ F2
 | .list a,xs,q,F=>Zck W (Zbx W a) a.n xs q F
theorem ZK8:∀ t:Ty,t.quo.n=t.n
 | .int _=>rfl
 | .bool=>rfl
 | .str=>rfl
 | .opq=>rfl
 | .prod a b=>by
  show a.quo.n + b.quo.n=a.n + b.n
  rw [ZK8 a,ZK8 b]
 | .list _=>rfl
theorem Zvv:∀ t:Ty,t.quo.flat=true
 | .int _=>rfl
 | .bool=>rfl
 | .str=>rfl
 | .opq=>rfl
 | .prod a b=>by
  show (a.quo.flat && b.quo.flat)=true
  rw [Zvv a,Zvv b]
  rfl
 | .list _=>rfl
theorem Zvw:∀ (t:Ty) {x:t.den} {cs:List Value} {F:List Nat},Zbx W t x cs F→∃ q:t.quo.den,Zbx W t.quo q cs []∧ZAX W t x q F
 | .int _,x,_,_,h=>⟨x,⟨h.1,h.2.1,rfl⟩,rfl,h.2.2⟩
 | .bool,x,_,_,h=>⟨x,⟨h.1,rfl⟩,rfl,h.2⟩
 | .str,x,_,_,h=>⟨x,⟨h.1,h.2.1,rfl⟩,rfl,h.2.2⟩
 | .opq,x,_,_,h=>⟨x,⟨h.1,h.2.1,rfl⟩,rfl,h.2.2⟩
 | .prod a b,x,_,_,⟨c1,c2,F1,F2,h1,h2,e1,e2⟩=>by
  obtain ⟨q1,r1,k1⟩:=Zvw a h1
  obtain ⟨q2,r2,k2⟩:=Zvw b h2
  exact ⟨(q1,q2),⟨c1,c2,[],[],r1,r2,e1,rfl⟩,F1,F2,k1,k2,e2⟩
 | .list a,xs,_,_,⟨v,e,h⟩=>by
  obtain ⟨T,cells,G,h0,h1,h2⟩:=h
  exact ⟨v,⟨e,Zd6 h0,rfl⟩,T,cells,G,h0,h1,h2⟩
theorem ZqB:∀ (t:Ty) {x:t.den} {q:t.quo.den} {cs:List Value} {F:List Nat},Zbx W t.quo q cs []→ZAX W t x q F→Zbx W t x cs F
 | .int _,x,q,_,_,h,⟨k1,k2⟩=>by
  exact ZrM
 | .bool,x,q,_,_,h,⟨k1,k2⟩=>by
  have k1:x=q:=k1
  subst k1
  exact ⟨h.1,k2⟩
 | .str,x,q,_,_,h,⟨k1,k2⟩=>by
  exact ZrM
 | .opq,x,q,_,_,h,⟨k1,k2⟩=>by
  exact ZrM
 | .prod a b,x,q,_,_,⟨c1,c2,G1,G2,h1,h2,e1,e2⟩,⟨F1,F2,k1,k2,e3⟩=>by
  have e2:[]=G1 ++ G2:=e2
  obtain ⟨rfl,rfl⟩:=List.append_eq_nil_iff.1 e2.symm
  exact ⟨c1,c2,F1,F2,ZqB a h1 k1,ZqB b h2 k2,e1,e3⟩
 | .list a,xs,q,_,_,h,k=>⟨q,h.1,k⟩
theorem Zck.keep2 {t:Ty} {xs:List t.den} {v:Value} {F:List Nat} (h:Zck W (Zbx W t) t.n xs v F) (hk:∀ b ∈ F,W'.heap[b]?=W.heap[b]?):Zck W' (Zbx W' t) t.n xs v F:=Zck.keep h hk
theorem ZAX.keep:∀ (t:Ty) {x:t.den} {q:t.quo.den} {F:List Nat},ZAX W t x q F→(∀ b ∈ F,W'.heap[b]?=W.heap[b]?)→ZAX W' t x q F
 | .int _,_,_,_,h,_=>h
 | .bool,_,_,_,h,_=>h
 | .str,_,_,_,h,_=>h
 | .opq,_,_,_,h,_=>h
 | .prod a b,_,_,_,⟨F1,F2,h1,h2,e⟩,hk=>⟨F1,F2,ZAX.keep a h1 (fun p hp=>hk p (by rw [e]; simp [hp])),ZAX.keep b h2 (fun p hp=>hk p (by rw [e]; simp [hp])),e⟩
 | .list a,_,_,_,h,hk=>Zck.keep2 (t:=a) h hk
def Zdc (W:World) (t:Ty):List t.den→List t.quo.den→List Nat→Prop
 | [],[],G=>G=[]
 | x :: xs,q :: qs,G=>∃ G1 G2,ZAX W t x q G1∧Zdc W t xs qs G2∧G=G1 ++ G2
 | _,_,_=>False
theorem Zvx {t:Ty}:∀ {xs:List t.den} {cells:List Value} {G:List Nat},Zb2 (Zbx W t) xs cells G→∃ qs:List t.quo.den,Zb2 (Zbx W t.quo) qs cells []∧Zdc W t xs qs G
 | [],_,_,h=>⟨[],⟨h.1,rfl⟩,h.2⟩
 | _ :: _,_,_,⟨c1,c2,G1,G2,h1,h2,e1,e2⟩=>by
  obtain ⟨q,r1,k1⟩:=Zvw t h1
  obtain ⟨qs,r2,k2⟩:=Zvx h2
  exact ⟨q :: qs,⟨c1,c2,[],[],r1,r2,e1,rfl⟩,G1,G2,k1,k2,e2⟩
theorem ZqC {t:Ty}:∀ {xs:List t.den} {qs:List t.quo.den} {cells:List Value} {G:List Nat},Zb2 (Zbx W t.quo) qs cells []→Zdc W t xs qs G→Zb2 (Zbx W t) xs cells G
 | [],[],_,_,h,k=>⟨h.1,k⟩
 | [],_ :: _,_,_,_,k=>k.elim
 | _ :: _,[],_,_,_,k=>k.elim
 | _ :: _,_ :: _,_,_,⟨c1,c2,H1,H2,h1,h2,e1,e2⟩,⟨G1,G2,k1,k2,e3⟩=>by
  obtain ⟨rfl,rfl⟩:=List.append_eq_nil_iff.1 e2.symm
  exact ⟨c1,c2,G1,G2,ZqB t h1 k1,ZqC h2 k2,e1,e3⟩
theorem Zdc.app {t:Ty}:∀ {xs ys:List t.den} {qs rs:List t.quo.den} {G H:List Nat},Zdc W t xs qs G→Zdc W t ys rs H→Zdc W t (xs ++ ys) (qs ++ rs) (G ++ H)
 | [],_,[],_,_,_,h,k=>by
  obtain rfl:_=[]:=h
  exact k
 | [],_,_ :: _,_,_,_,h,_=>h.elim
 | _ :: _,_,[],_,_,_,h,_=>h.elim
 | _ :: _,_,_ :: _,_,_,_,⟨G1,G2,h1,h2,e⟩,k=>⟨G1,_,h1,Zdc.app h2 k,by rw [e,List.append_assoc]⟩
theorem Zdc.split {t:Ty}:∀ (k:Nat) {xs:List t.den} {qs:List t.quo.den} {G:List Nat},Zdc W t xs qs G→∃ G1 G2,G=G1 ++ G2∧Zdc W t (xs.take k) (qs.take k) G1∧Zdc W t (xs.drop k) (qs.drop k) G2
 | 0,_,_,G,h=>⟨[],G,rfl,rfl,h⟩
 | _ + 1,[],[],G,h=>⟨[],G,rfl,rfl,h⟩
 | _ + 1,[],_ :: _,_,h=>h.elim
 | _ + 1,_ :: _,[],_,h=>h.elim
 | k + 1,_ :: _,_ :: _,_,⟨G1,G2,h1,h2,e⟩=>by
  obtain ⟨A,B,e1,q1,q2⟩:=Zdc.split k h2
  exact ⟨G1 ++ A,B,by rw [e,e1,List.append_assoc],⟨G1,A,h1,q1,rfl⟩,q2⟩
theorem Zdc.out {t:Ty} (k:Nat) {xs:List t.den} {qs:List t.quo.den} {G:List Nat} (h:Zdc W t xs qs G):∃ G1 Gd G3,G=G1 ++ (Gd ++ G3)∧Zdc W t (xs.take k ++ xs.drop (k + 1)) (qs.take k ++ qs.drop (k + 1)) (G1 ++ G3):=by
 obtain ⟨G1,G2,e1,q1,q2⟩:=h.split k
 obtain ⟨Gd,G3,e2,q3,q4⟩:=q2.split 1
 rw [List.drop_drop,List.drop_drop] at q4
 exact ⟨G1,Gd,G3,by rw [e1,e2],q1.app q4⟩
theorem Zdc.len {t:Ty}:∀ {xs:List t.den} {qs:List t.quo.den} {G:List Nat},Zdc W t xs qs G→qs.length=xs.length
 | [],[],_,_=>rfl
 | [],_ :: _,_,h=>h.elim
 | _ :: _,[],_,h=>h.elim
 | _ :: _,_ :: _,_,⟨_,_,_,h,_⟩=>by rw [List.length_cons,List.length_cons,Zdc.len h]
theorem Zdc.keep {t:Ty}:∀ {xs:List t.den} {qs:List t.quo.den} {G:List Nat},Zdc W t xs qs G→(∀ b ∈ G,W'.heap[b]?=W.heap[b]?)→Zdc W' t xs qs G
 | [],[],_,h,_=>h
 | [],_ :: _,_,h,_=>h.elim
 | _ :: _,[],_,h,_=>h.elim
 | _ :: _,_ :: _,_,⟨G1,G2,h1,h2,e⟩,hk=>⟨G1,G2,ZAX.keep t h1 (fun p hp=>hk p (by rw [e]; simp [hp])),h2.keep (fun p hp=>hk p (by rw [e]; simp [hp])),e⟩
theorem Zdc.map {t:Ty} {β:Type} (f:t.den→β) (g:t.quo.den→β) (hfg:∀ x q F,ZAX W t x q F→g q=f x):∀ {xs:List t.den} {qs:List t.quo.den} {G:List Nat},Zdc W t xs qs G→qs.map g=xs.map f
 | [],[],_,_=>rfl
 | [],_ :: _,_,h=>h.elim
 | _ :: _,[],_,h=>h.elim
 | _ :: _,_ :: _,_,⟨_,_,h1,h2,_⟩=>by rw [List.map_cons,List.map_cons,hfg _ _ _ h1,Zdc.map f g hfg h2]
theorem ZqD {t:Ty} {xs:List t.den} {v:Value} {F:List Nat} (h:Zck W (Zbx W t) t.n xs v F):∃ (qs:List t.quo.den) (G:List Nat),F=v.ownBlock.toList ++ G∧Zck W (Zbx W t.quo) t.quo.n qs v v.ownBlock.toList∧Zdc W t xs qs G:=by
 obtain ⟨T,cells,G,h0,h1,h2⟩:=h
 obtain ⟨qs,r1,r2⟩:=Zvx h1
 exact ⟨qs,G,h2,⟨T,cells,[],by rw [ZK8,r2.len]; exact h0,r1,by simp⟩,r2⟩
theorem ZGS {t:Ty} {xs:List t.den} {qs:List t.quo.den} {v:Value} {F G:List Nat} (h:Zck W (Zbx W t.quo) t.quo.n qs v F) (k:Zdc W t xs qs G):Zck W (Zbx W t) t.n xs v (F ++ G)∧F=v.ownBlock.toList:=by
 obtain ⟨T,cells,G0,h0,h1,h2⟩:=h
 have e0:G0=[]:=by
  have hz:=h1.all (Q:=fun _=>False) (fun x cs F h b hb=>by rw [ZmR t.quo (Zvv t) h] at hb; cases hb)
  cases G0 with
  | nil=>rfl
  | cons b l=>exact (hz b (by simp)).elim
 subst e0
 rw [List.append_nil] at h2
 rw [ZK8,k.len] at h0
 exact ⟨⟨T,cells,G,h0,ZqC h1 k,by rw [h2]⟩,h2⟩
theorem RepM.row {i:Nat} {t:Ty} {xs:List t.den} {v c:Nat} {e:EB} (hM:RepM X W E M) (hi:M[i]?=some (.row t xs v c none)) (he:E[i]?=some e):Zck W (Zbx W t) t.n xs e.val e.foot:=hM.at_ i _ e hi he
theorem ZoS {t:Ty} {qs:List t.quo.den} {v:Value} (h:Zck W (Zbx W t.quo) t.quo.n qs v v.ownBlock.toList) (hx:∀ b ∈ v.ownBlock.toList,b ∉ X2):Zb7 X2 W [] [] (.hs .no t.quo qs) v:=by
 obtain ⟨F',⟨A,c,e1,hs⟩,hF⟩:=Zbx.rep (.list t.quo) (x:=qs) (cs:=[v]) (F:=v.ownBlock.toList) ⟨v,rfl,h⟩
 have hlt:=Zbx.lt (.list t.quo) (x:=qs) (cs:=[v]) (F:=v.ownBlock.toList) ⟨v,rfl,h⟩
 have e2:v=.slice A qs.length c:=by simpa using e1
 refine ⟨by rw [e2]; rfl,F',⟨A,c,by rw [e2],hs⟩,fun b hb=>⟨⟨by simp [foots],hx b (hF b hb)⟩,hlt b (hF b hb)⟩⟩
def ZKe (n:Nat):Env:=List.replicate n ⟨0, .slice none 0 0,[]⟩
theorem ZGT (n:Nat):foots (ZKe n)=[]:=by
 unfold foots ZKe
 rw [List.flatMap_replicate]
 simp
theorem ZJi {pm:Mem} {t:Ty} {ts:List Ty} {E' : Env} {v:Value} {rs:List t.quo.den} {ys:List t.den} {G:List Nat} (hM:RepM X W E pm) (hg:ZbW W [] W' E') (hm:RepM X2 W' E' [.row t.quo rs 0 0 none])
 (hv:Zb7 X2 W' E' [.row t.quo rs 0 0 none] (.row 0 0) v) (hX:∀ b ∈ X,b ∈ X2) (hq:Zdc W t ys rs G) (hn:G.Nodup) (hG:∀ b ∈ G,b ∈ foots E) :
 ∃ E2,ZM5 W E W' E2∧RepM X W' E2 (ts.map (fun a=>Blk.row a [] 0 0 none) ++ [.row t ys 0 0 none])∧Zb7 X W' E2 (ts.map (fun a=>Blk.row a [] 0 0 none) ++ [.row t ys 0 0 none]) (.row ts.length 0) v:=by
 have hl:E'.length=1:=by rw [← hm.len]; rfl
 obtain ⟨e1,rfl⟩:∃ e1,E'=[e1]:=by
  match E',hl with
  | [e],_=>exact ⟨e,rfl⟩
 have hrow:Zck W' (Zbx W' t.quo) t.quo.n rs e1.val e1.foot:=hm.row (i:=0) rfl rfl
 have hve:v=e1.val:=by
  have:=hv.2
  unfold ZcA at this
  obtain ⟨e,he,h⟩:=this.2 rfl
  obtain rfl:e1=e:=Option.some.inj he
  exact h
 have hGlt:∀ b ∈ G,b < W.heap.size:=fun b hb=>hM.lt b (hG b hb)
 have hq' : Zdc W' t ys rs G:=hq.keep (fun b hb=>hg.keep b (hGlt b hb) (by simp [foots]))
 obtain ⟨ho,hf⟩:=ZGS hrow hq'
 have hfe:∀ b ∈ e1.foot,W.heap.size≤b:=fun b hb=>(hg.new b (by simp [foots,hb])).resolve_left (by simp [foots])
 have hfoot:foots (ZKe ts.length ++ [⟨0,e1.val,e1.foot ++ G⟩])=e1.foot ++ G:=by rw [ZbM,ZGT]; simp [foots]
 have hlenE:(ZKe ts.length).length=ts.length:=by simp [ZKe]
 refine ⟨ZKe ts.length ++ [⟨0,e1.val,e1.foot ++ G⟩],⟨hg.os,hg.tape,hg.output,hg.size,fun b hb _=>hg.keep b hb (by simp [foots]),fun b hb=>?_⟩,⟨by simp [ZKe],?_,fun i b e hb he=>?_,fun b hb=>?_,fun b hb=>?_,fun b hb=>?_⟩,?_⟩
 ·rw [hfoot] at hb
  rcases List.mem_append.1 hb with hb | hb
  ·exact .inr (hfe b hb)
  ·exact .inl (hG b hb)
 ·rw [hfoot,List.nodup_append]
  refine ⟨?_,hn,fun a ha b hb e=>?_⟩
  ·have:=hm.nodup
   simpa [foots] using this
  ·subst e
   have:=hfe a ha
   have:=hGlt a hb
   omega
 ·by_cases hi:i < ts.length
  ·rw [List.getElem?_append_left (by simpa using hi),List.getElem?_map] at hb
   rw [List.getElem?_append_left (by rw [hlenE]; exact hi)] at he
   have he:e=⟨0, .slice none 0 0,[]⟩:=by
    unfold ZKe at he
    rw [List.getElem?_replicate,if_pos hi] at he
    exact (Option.some.inj he).symm
   subst he
   rw [List.getElem?_eq_getElem hi] at hb
   obtain rfl:=Option.some.inj hb
   exact ⟨0,[],[],World.ownsRow_nil W' 0 0 _,⟨rfl,rfl⟩,rfl⟩
  ·rw [List.getElem?_append_right (by simp; omega)] at hb
   rw [List.getElem?_append_right (by rw [hlenE]; omega),hlenE] at he
   simp only [List.length_map] at hb
   have h0:i - ts.length=0:=by
    exact ZrJ
   rw [h0] at hb he
   exact ZAp
 ·rw [hfoot] at hb
  rcases List.mem_append.1 hb with hb | hb
  ·exact hm.lt b (by simp [foots,hb])
  ·exact Nat.lt_of_lt_of_le (hGlt b hb) hg.size
 ·rw [hfoot]
  intro hb'
  rcases List.mem_append.1 hb' with hb' | hb'
  ·exact hm.xlt b (hX b hb) (by simp [foots,hb'])
  ·exact hM.xlt b hb (hG b hb')
 ·exact Nat.lt_of_lt_of_le (hM.xsz b hb) hg.size
 ·refine ⟨by rw [hve]; obtain ⟨T,cells,G0,h0,_⟩:=ho; exact Zd6 h0,?_⟩
  unfold ZcA
  rw [List.getElem?_append_right (by simp),List.getElem?_append_right (by simp [ZKe])]
  simp [hve,ZKe]
end
end Go.Proofs.YtkompmgleojmlaaGreat
