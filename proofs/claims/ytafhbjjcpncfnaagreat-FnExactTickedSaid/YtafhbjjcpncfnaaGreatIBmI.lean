import Derived.Test.YtafhbjjcpncfnaaGreatIBmZ
set_option linter.unusedSimpArgs false
set_option linter.unusedVariables false
namespace Go.Proofs.YtafhbjjcpncfnaaGreat
open Go.ChangeShapes Go.WideShapes Go.ChangeAt Go.RowKit Go.Joins Go.Deep
open GoRep (rep bulk)
section
variable {P:Program} {X:List Nat} {W:World} {E:Env} {M:Mem} {a:Act} {tm:List AV} {o:Oper}
theorem ZLN {n:Nat} (h:n≤maxLen):(Lit.int .i64 (n:Int)).wf=true:=by
 rw [Zqe]
 have hmm:IntKind.i64.min=-9223372036854775808∧IntKind.i64.max=9223372036854775807:=by decide
 unfold maxLen at h
 omega
set_option maxHeartbeats 1000000 in
theorem ZxK (hM:RepM X W E M) (ht:Zcu X W E M tm a.tmps.toList) (hn:(opA P tm M o).need):Ze2 X P o a W E M (opA P tm M o).val (opA P tm M o).mem:=by
 unfold opA at hn ⊢
 cases ho:o.op <;> simp only [ho] at hn ⊢
 case move x=>exact Ze2.stay hM (u:=a.eval x) (by unfold execOp; simp only [ho]; rfl) (ZaK ht x)
 case assign x=>exact Ze2.stay hM (u:=a.eval x) (by unfold execOp; simp only [ho]; rfl) (ZaK ht x)
 case pick c x y =>
  have hc:=ZaK ht c
  split at hn
  ·rename_i g hg
   rw [hg] at hc
   refine Ze2.stay hM (u:=if g then a.eval x else a.eval y) ?_ (ZIr (ZaK ht x) (ZaK ht y))
   unfold execOp
   simp only [ho,Zve hc]
   rfl
  ·exact hn.elim
 case alloc e =>
  split at hn
  ·rename_i z hz
   cases hq:P.info? e with
   | none=>rw [hq] at hz; cases hz
   | some i =>
    rw [hq] at hz
    cases hok:z.cells.toList.all ZjI with
    | false=>rw [hok] at hn; exact hn.elim
    | true=>simp only [cond_true]; exact ZGr hM ho hq hz hok
  ·exact hn.elim
 case box e x =>
  split at hn
  ·rename_i l hl; exact does_box hM ht ho hl
  ·exact hn.elim
 case load t x =>
  split at hn
  ·rename_i i q hx
   split at hn
   ·rename_i l hb
    split at hn
    ·rename_i v hv; exact does_load_box hM ht ho hx hb hv
    ·exact hn.elim
   ·exact hn.elim
  ·rename_i L t' xs k q hx
   cases hL:ZeK M L with
   | false=>rw [hL] at hn; exact hn.elim
   | true =>
    simp only [hL,cond_true] at hn ⊢
    split at hn
    ·rename_i v hv; exact does_load_ep hM ht ho hx hL hv
    ·exact hn.elim
  ·rename_i i v n k q hx
   split at hn
   ·rename_i r hr
    cases hb:Nat.beq n r.t.n with
    | false=>rw [hb] at hn; exact hn.elim
    | true =>
     simp only [hb,cond_true] at hn ⊢
     split at hn
     ·rename_i u hu; exact ZxG hM ht ho hx hr (Nat.eq_of_beq_eq_true hb) hu
     ·exact hn.elim
   ·exact hn.elim
  ·rename_i i v c n k o' m y q hx
   split at hn
   ·rename_i r hr
    cases hb:Nat.beq m r.t.n with
    | false=>rw [hb] at hn; exact hn.elim
    | true =>
     simp only [hb,cond_true] at hn ⊢
     split at hn
     ·rename_i u hu; exact ZxH hM ht ho hx hr (Nat.eq_of_beq_eq_true hb) hu
     ·exact hn.elim
   ·exact hn.elim
  ·exact hn.elim
 case store t x y =>
  split at hn
  ·rename_i i q l' hx hy
   split at hn
   ·rename_i l hb
    cases hc:(Nat.beq l'.length (Zcc P t)) && (Nat.ble (q + l'.length) l.length && Nat.blt 0 (Zcc P t)) with
    | false=>rw [hc] at hn; exact hn.elim
    | true =>
     rw [Bool.and_eq_true,Bool.and_eq_true] at hc
     have h1:=Nat.eq_of_beq_eq_true hc.1
     have h2:=Nat.le_of_ble_eq_true hc.2.1
     have h3:0 < Zcc P t:=Nat.le_of_ble_eq_true hc.2.2
     simp only [cond_true]
     exact Zsr hM ht ho hx hy hb h1 h3 h2
   ·exact hn.elim
  ·rename_i i v n k q l' hx hy
   cases hh:ZNs M i with
   | true=>rw [hh] at hn; exact ZDQ hM ht ho hx hy hn
   | false=>rw [hh] at hn; exact ZDO hM ht ho hx hy hn
  ·exact hn.elim
 case build t parts =>
  split at hn
  ·rename_i l hl; exact does_build hM ht ho hl
  ·exact hn.elim
 case buildSlice t len parts =>
  split at hn
  ·rename_i e hu
   split at hn
   ·rename_i tt htt
    split at hn
    ·rename_i ys js hp
     cases hc:(Zh7 P e tt.n && Nat.ble (len * tt.n) 16777216) && (Nat.beq len parts.size && ZbQ js) with
     | false=>rw [hc] at hn; exact hn.elim
     | true =>
      simp only [hc,cond_true]
      exact ZzH
    ·cases hfl:tt.flat with
     | true=>rw [hfl] at hn; exact hn.elim
     | false =>
      simp only [hfl,cond_false] at hn ⊢
      split at hn
      ·rename_i tq htq
       try simp only [htq]
       split at hn
       ·rename_i ys js hp
        try simp only [hp]
        cases hc:(Zh7 P e tq.n && Nat.ble (len * tq.n) 16777216) && (Nat.beq len parts.size && ZbQ js) with
        | false=>rw [hc] at hn; exact hn.elim
        | true =>
         simp only [cond_true]
         exact ZzH
       ·exact hn.elim
      ·exact hn.elim
   ·exact hn.elim
  ·exact hn.elim
 case makeSlice t l c =>
  split at hn
  ·rename_i e n m hu hl hc
   split at hn
   ·rename_i tt z htt hz
    cases hcnd:z.cells.toList.all ZjI && Zh7 P e tt.n with
    | false=>rw [hcnd] at hn; exact hn.elim
    | true =>
     simp only [hcnd,cond_true] at hn ⊢
     rw [Bool.and_eq_true] at hcnd
     split at hn
     ·rename_i d hd
      exact Zsx hM ht ho hu hl hc hz hcnd.1 hcnd.2 hd hn
     ·exact hn.elim
   ·exact hn.elim
  ·exact hn.elim
 case nilCheck x =>
  split at hn
  ·rename_i i q hx; exact does_nilCheck hM ht ho hx (.inl trivial)
  ·rename_i L t xs k q hx
   cases hL:ZeK M L with
   | false=>rw [hL] at hn; exact hn.elim
   | true=>simp only [cond_true]; exact does_nilCheck hM ht ho hx (.inl hL)
  ·rename_i i v n k q hx
   cases hL:(ZkO M i v).isSome with
   | false=>rw [hL] at hn; exact hn.elim
   | true=>simp only [cond_true]; exact does_nilCheck hM ht ho hx (.inl hL)
  ·rename_i i v c n k o' m y q hx
   cases hL:(Zc1 M i v c n k o').isSome with
   | false=>rw [hL] at hn; exact hn.elim
   | true=>simp only [cond_true]; exact does_nilCheck hM ht ho hx (.inl hL)
  ·rename_i f l hx; exact does_nilCheck hM ht ho hx (.inr ⟨f,l,rfl⟩)
  ·exact hn.elim
 case binOp op t x y yt=>exact ZKn hM ht ho hn
 case unOp op t x =>
  cases op <;> simp only at hn ⊢
  case not =>
   split at hn
   ·rename_i b hx; exact does_not hM ht ho hx
   ·exact hn.elim
  case neg =>
   split at hn
   ·rename_i k n hx; exact does_neg hM ht ho hx
   ·exact hn.elim
  all_goals exact hn.elim
 case convert s d x =>
  split at hn
  ·rename_i k k' n hd hx
   exact ZxI hM ht ho hd hn hx
  ·rename_i c hd hx
   split at hn
   ·rename_i e hs
    cases hu:ZMZ P e with
    | false=>rw [hu] at hn; exact hn.elim
    | true =>
     simp only [hu,cond_true] at hn ⊢
     split at hn
     ·rename_i xs hst
      simp only [hst]
      exact ZGO hM ht ho hd hs hu hx hst hn
     ·exact hn.elim
   ·exact hn.elim
  ·exact hn.elim
 case makeFunc fn first captured =>
  cases fn <;> simp only at hn ⊢
  case func f =>
   split at hn
   ·rename_i l hf hc; exact does_makeFunc hM ht ho hf hc
   ·exact hn.elim
  all_goals exact hn.elim
 case slice t x lo hi mx =>
  cases mx with
  | some _=>exact hn.elim
  | none =>
   simp only at hn ⊢
   split at hn
   ·rename_i hu
    split at hn
    ·rename_i s hx
     exact Zst (P:=P) (o:=o) hM ht ho hu hx hn
    ·exact hn.elim
   ·rename_i e hu
    split at hn
    ·rename_i cc hx
     split at hn
     ·rename_i L q hr
      exact ZGt (P:=P) (o:=o) hM ht ho hu hx hr hn.1 hn.2
     ·exact hn.elim
    ·exact hn.elim
   ·exact hn.elim
 case fieldAddr s x n =>
  unfold ZEw at hn ⊢
  cases hs:P.underlying s with
  | none=>rw [hs] at hn; exact hn.elim
  | some d =>
   rw [hs] at hn
   cases d <;> simp only at hn ⊢ <;> try exact hn.elim
   rename_i fs
   cases hf:fs[n]? with
   | none=>rw [hf] at hn; exact hn.elim
   | some f =>
    rw [hf] at hn
    simp only at hn ⊢
    cases hz:Nat.beq (Zcc P f.type) 0 with
    | true=>rw [hz] at hn; exact hn.elim
    | false =>
     rw [hz] at hn
     simp only [cond_false] at hn ⊢
     have hz' : Zcc P f.type ≠ 0:=fun e=>by rw [e] at hz; cases hz
     split at hn
     ·rename_i i q hx; exact Zft hM ht ho hs hf hz' hx trivial rfl
     ·rename_i L t xs k q hx
      cases hL:ZeK M L with
      | false=>rw [hL] at hn; exact hn.elim
      | true=>simp only [cond_true]; exact Zft hM ht ho hs hf hz' hx hL rfl
     ·rename_i i v n k q hx
      cases hL:(ZkO M i v).isSome with
      | false=>rw [hL] at hn; exact hn.elim
      | true=>simp only [cond_true]; exact Zft hM ht ho hs hf hz' hx hL rfl
     ·rename_i i v c n k o' m y q hx
      cases hL:(Zc1 M i v c n k o').isSome with
      | false=>rw [hL] at hn; exact hn.elim
      | true=>simp only [cond_true]; exact Zft hM ht ho hs hf hz' hx hL rfl
     ·exact hn.elim
 case indexAddr t x i =>
  split at hn
  ·rename_i e L t' xs k n hu hx hi
   cases hL:ZeK M L with
   | false=>rw [hL] at hn; exact hn.elim
   | true =>
    simp only [hL,cond_true] at hn ⊢
    exact Zss hM ht ho hu hx hi hL hn.1 hn.2.1 hn.2.2
  ·rename_i e i v k n hu hx hi
   split at hn
   ·rename_i r hr
    exact Zvg hM ht ho hu hx hi hr hn.1 hn.2.1 hn.2.2
   ·exact hn.elim
  ·rename_i e i v c n' k' o' k n hu hx hi
   split at hn
   ·rename_i r hr
    exact ZxJ hM ht ho hu hx hi hr hn.1 hn.2.1 hn.2.2
   ·exact hn.elim
  ·exact hn.elim
 case index t x i =>
  split at hn
  ·rename_i s k n hu hx hi; exact ZGs hM ht ho hu hx hi hn.1 hn.2
  ·exact hn.elim
 case extract x n =>
  split at hn
  ·rename_i l hx
   split at hn
   ·rename_i w hw; exact does_extract hM ht ho hx hw
   ·exact hn.elim
  ·exact hn.elim
 case call c =>
  obtain ⟨cal,xs,ts⟩:=c
  cases cal <;> simp only at hn ⊢ <;> try exact hn.elim
  rename_i b
  cases b <;> simp only at hn ⊢ <;> try exact hn.elim
  case len =>
   split at hn
   ·rename_i t x hts hxs
    have hx:=ZaK (M:=M) (W:=W) (E:=E) ht x
    split at hn
    ·rename_i s hu he
     rw [he] at hx
     obtain ⟨e1,e2⟩:=ZsO hx
     exact ZDr hM (u:=.int .i64 (s.size:Nat)) ⟨rfl,ZLN e2⟩ ho hts hxs e1 (run_len_string _ _ _ _ hu) rfl
    ·rename_i e hu he
     rw [he] at hx
     exact ZDr hM (u:=.int .i64 0) ⟨rfl,by decide⟩ ho hts hxs hx.1 (by simp [Builtin.len_,run_underlying hu,goInt]) rfl
    ·rename_i e cc hu he
     rw [he] at hx
     split at hn
     ·rename_i L q hr
      obtain ⟨A,c,F,e1,hs,_⟩:=ZiT (X:=X) hM hr hx
      exact ZDr hM (u:=.int .i64 (q.xs.length:Nat)) ⟨rfl,ZLN (Nat.le_trans hs.1 hs.2.1)⟩ ho hts hxs e1 (by simp [Builtin.len_,run_underlying hu,goInt]) rfl
     ·exact hn.elim
    ·exact hn.elim
   ·exact hn.elim
  case append =>
   split at hn
   ·rename_i t t2 x y hts hxs
    split at hn
    ·rename_i e hu
     cases hb:Nat.beq t t2 with
     | false =>
      simp only [hb,cond_false] at hn ⊢
      split at hn
      ·rename_i s hu2 hy
       exact Zyv hM ht ho hxs hts hu hu2 hy hn
      ·exact hn.elim
     | true =>
      obtain rfl:=Nat.eq_of_beq_eq_true hb
      simp only [hb,cond_true] at hn ⊢
      split at hn
      ·rename_i q hq
       try simp only [hq]
       exact ZGP hM ht ho hxs hts hu hq hn
      ·rename_i hq
       try simp only [hq]
       exact ZDM hM ht ho hxs hts hu hn
    ·exact hn.elim
   ·exact hn.elim
  case min =>
   split at hn
   ·rename_i k p k' q hxs; exact does_minmax hM ht ho hxs (.inl ⟨rfl,rfl⟩) hn
   ·rename_i k p k' q k'' r hxs; exact does_min3 hM ht ho hxs hn
   ·exact hn.elim
  case max =>
   split at hn
   ·rename_i k p k' q hxs; exact does_minmax hM ht ho hxs (.inr ⟨rfl,rfl⟩) hn
   ·exact hn.elim
 all_goals exact hn.elim
end
inductive ATy where
 | v (t:Ty)
 | s (t:Ty)
 | p (t:Ty)
 | q (t:Ty)
def ATy.ty:ATy→Ty
 | .q t=>t
 | .v t=>t
 | .s t=>t
 | .p t=>t
def AD:List ATy→Type
 | []=>Unit
 | a :: l=>a.ty.den × AD l
def enc1 (t:Ty) (x:t.den):AC:=(cellsOf t x).headD (.bool false)
def Zk0:(t:Ty)→t.den→List AC
 | .int k,x=>[.int k x]
 | .bool,b=>[.bool b]
 | .str,s=>[.str s]
 | .opq,v=>[.opq v]
 | .prod a b,x=>Zk0 a x.1 ++ Zk0 b x.2
 | .list _,_=>[.junk]
def Zow:(a:ATy)→a.ty.den→AW
 | .v t,x=>.c (enc1 t x)
 | .s t,x=>.ag (cellsOf t x)
 | .p t,x=>.c (.ep .no t [x] 0 0)
 | .q t,x=>.ag (Zk0 t x)
def ZM0:(l:List ATy)→AD l→List AW
 | [],_=>[]
 | a :: l,x=>Zow a x.1 :: ZM0 l x.2
def Zk1 (k:IntKind):List AC→Option (Int × List AC)
 | .int k' x :: l=>if k'=k then some (x,l) else none
 | _=>none
def ZhW:List AC→Option (Bool × List AC)
 | .bool b :: l=>some (b,l)
 | _=>none
def Zk2:List AC→Option (ByteArray × List AC)
 | .str b :: l=>some (b,l)
 | _=>none
def ZjM (M:Mem) (a:Ty):List AC→Option (List a.den × List AC)
 | .raw (.slice none 0 0) :: l=>some ([],l)
 | c :: l=>match ZgT M c with
  | some (_,q)=>if h:q.t=a then some (h ▸ q.xs,l) else none
  | none=>none
 | []=>none
def Zk3:List AC→Option (Value × List AC)
 | .opq v :: l=>some (v,l)
 | _=>none
def ZiU (M:Mem):(t:Ty)→List AC→Option (t.den × List AC)
 | .int k,l=>Zk1 k l
 | .bool,l=>ZhW l
 | .str,l=>Zk2 l
 | .opq,l=>Zk3 l
 | .prod a b,l=>match ZiU M a l with
  | some (x,l1)=>match ZiU M b l1 with
   | some (y,l2)=>some ((x,y),l2)
   | none=>none
  | none=>none
 | .list a,l=>ZjM M a l
def ZKr:(t:Ty)→List AC→Option (t.den × List AC)
 | .int k,l=>Zk1 k l
 | .bool,l=>ZhW l
 | .str,l=>Zk2 l
 | .opq,l=>Zk3 l
 | .prod a b,l=>match ZKr a l with
  | some (x,l1)=>match ZKr b l1 with
   | some (y,l2)=>some ((x,y),l2)
   | none=>none
  | none=>none
 | .list a,_ :: l=>some ((([]:List a.den):(Ty.list a).den),l)
 | .list _,[]=>none
def slC:AC→Bool
 | .sl _ _ _ _ _ _=>true
 | _=>false
def ZjN (M:Mem):(a:ATy)→AV→Option a.ty.den
 | .v t, .w (.c a)=>match ZiU M t [a] with
  | some (x,[])=>some x
  | _=>none
 | .s t, .w (.ag l)=>match ZiU M t l with
  | some (x,[])=>some x
  | _=>none
 | .p t, .w (.c (.bp i 0))=>match M[i]? with
  | some (.box l)=>match ZiU M t l with
   | some (x,[])=>some x
   | _=>none
  | _=>none
 | .p t, .w (.c (.ep L t' xs k 0))=>bif ZeK M L then (if h:t'=t then some (h ▸ nth t' xs k) else none) else none
 | .q t, .w (.ag l)=>bif l.any slC then (match ZKr t l with
  | some (x,[])=>some x
  | _=>none) else none
 | _,_=>none
def Zkn (M:Mem):(l:List ATy)→List AV→Option (AD l)
 | [],[]=>some ()
 | a :: l,x :: xs=>match ZjN M a x with
  | some y=>match Zkn M l xs with
   | some ys=>some (y,ys)
   | none=>none
  | none=>none
 | _,_=>none
def Zmj:Option Obj→Option (Array Value)
 | some (.cells cs _ _)=>some cs
 | _=>none
def ZOR (o:Option Obj):Prop:=∃ cs m,Zmj o=some cs∧cs[0]?=some (.int .i64 m)
def globs:List (Nat × (Option Obj→Prop)):=[(0,ZOR)]
def Zko (W:World) (E:Env):Prop:=∀ g ∈ globs,g.2 W.heap[g.1]?∧g.1 < W.heap.size∧g.1 ∉ foots E
theorem Zko.grow {W W' : World} {E E' : Env} (h:Zko W E) (k:ZbU W E W' E'):Zko W' E':=fun g hg=>by
 obtain ⟨h1,h2,h3⟩:=h g hg
 refine ⟨?_,Nat.lt_of_lt_of_le h2 k.size,fun hb=>(k.new g.1 hb).elim h3 (fun hge=>by omega)⟩
 rw [k.keep g.1 h2 h3]
 exact h1
theorem Zko.sub {W:World} {E E' : Env} (h:Zko W E) (hs:∀ b ∈ foots E',b ∈ foots E):Zko W E':=fun g hg=>⟨(h g hg).1,(h g hg).2.1,fun hb=>(h g hg).2.2 (hs g.1 hb)⟩
theorem ZKs {W:World} {g i:Nat} {cs:Array Value} (h:Zmj W.heap[g]?=some cs):W.cell? ⟨g,i,none⟩=cs[i]?:=by
 unfold Zmj at h
 split at h
 ·rename_i e
  simp only [Option.some.injEq] at h
  subst h
  simp [World.cell?,e]
 ·cases h
theorem Zko.int {W:World} {E:Env} {g:Nat} (h:Zko W E) (hg:(g,ZOR) ∈ globs):∃ m,W.cell? ⟨g,0,none⟩=some (.int .i64 m):=by
 obtain ⟨⟨cs,m,h1,h2⟩,_⟩:=h _ hg
 exact ⟨m,(ZKs h1).trans h2⟩
theorem Zko.nil {W:World} {E:Env} (h:Zko W E):Zko W []:=h.sub (fun b hb=>by simp [foots] at hb)
def Zao (P:Program) (f:FuncId) (args:List AW) (r:AV) (new:Mem):Prop :=
 ∀ (X:List Nat) (W:World) (vs:List Value),(∀ b ∈ X,b < W.heap.size)→Zko W []→Zd2 X W [] [] args vs →
   Calls P f vs.toArray W (fun e W'=>∃ v E',e=.returned v∧ZbU W [] W' E'∧RepM X W' E' new∧Zc5 X W' E' new r v)
structure ZaE (P:Program) where
 f:FuncId
 ins:List ATy
 pre:AD ins→Prop
 res:AD ins→AV
 new:AD ins→Mem
 ok:∀ x,pre x→Zao P f (ZM0 ins x) (res x) (new x)
 ent:∀ args w,(callFunc f args).run P w=.ok (.enter f args) w
def Zvj {P:Program} (f:FuncId):List (ZaE P)→Option (ZaE P)
 | []=>none
 | e :: l=>bif Nat.beq e.f f then some e else Zvj f l
def Ty.nl:Ty→Nat
 | .prod a b=>a.nl + b.nl
 | .list _=>1
 | _=>0
def Zmk:Nat→(t:Ty)→t.den→List AC
 | _, .int k,x=>[.int k x]
 | _, .bool,b=>[.bool b]
 | _, .str,s=>[.str s]
 | _, .opq,v=>[.opq v]
 | k, .prod a b,x=>Zmk k a x.1 ++ Zmk (k + a.nl) b x.2
 | k, .list _,_=>[.row k 0]
def ZjO:(t:Ty)→t.den→Mem
 | .prod a b,x=>ZjO a x.1 ++ ZjO b x.2
 | .list a,xs=>[.row a xs 0 0 none]
 | _,_=>[]
def ZDs:Ty→Mem
 | .prod a b=>ZDs a ++ ZDs b
 | .list a=>[.row a [] 0 0 none]
 | _=>[]
def seqN:Nat→Nat→List Nat
 | _,0=>[]
 | k,n + 1=>k :: seqN (k + 1) n
inductive ZNw where
 | b (t:Ty)
 | ptr (j:Nat)
inductive MTy where
 | a (y:ATy)
 | m (t:Ty)
 | e (t:Ty)
 | q (agg:Bool) (t:Ty)
 | g (agg:Bool) (t:Ty)
 | b (t:Ty)
 | f (g:FuncId) (l:List ZNw)
def ZMp:List ZNw→Type
 | []=>Unit
 | .b t :: l=>t.den × ZMp l
 | .ptr _ :: l=>ZMp l
def MTy.D:MTy→Type
 | .a y=>y.ty.den
 | .m t=>t.den
 | .e t=>List t.den × Nat
 | .q _ t=>t.den
 | .g _ t=>t.den
 | .b t=>t.den
 | .f _ l=>ZMp l
def MD:List MTy→Type
 | []=>Unit
 | y :: l=>y.D × MD l
def MTy.nb:MTy→Nat
 | .a _=>0
 | .m t=>t.nl + 1
 | .e _=>1
 | .q _ t=>t.nl
 | .g _ t=>t.nl
 | .b _=>1
 | .f _ l=>l.length
def ZN4:(l:List ZNw)→ZMp l→Mem
 | [],_=>[]
 | .b t :: l,x=>.box (cellsOf t x.1) :: ZN4 l x.2
 | .ptr j :: l,x=>.box [.bp j 0] :: ZN4 l x
def ZO5 (agg:Bool) (l:List AC):AW:=bif agg then .ag l else .c (l.headD .junk)
def ZMq (k:Nat):(y:MTy)→y.D→AW
 | .a y,x=>Zow y x
 | .m _,_=>.c (.bp k 0)
 | .e t,x=>.c (.rp k 0 t.n x.2 0)
 | .q g t,x=>ZO5 g (Zmk k t x)
 | .g g t,x=>ZO5 g (Zmk k t x)
 | .b _,_=>.c (.bp k 0)
 | .f g l,_=>.c (.fn g (seqN k l.length))
def preM1 (k:Nat):(y:MTy)→y.D→Mem
 | .a _,_=>[]
 | .m t,x=>.box (Zmk (k + 1) t x) :: ZjO t x
 | .e t,x=>[.row t x.1 0 0 none]
 | .q _ t,x=>ZjO t x
 | .g _ t,x=>ZjO t x
 | .b t,x=>[.box (cellsOf t x)]
 | .f _ l,x=>ZN4 l x
def ZNx (k:Nat):(y:MTy)→y.D→Mem
 | .g _ t,_=>ZDs t
 | y,x=>preM1 k y x
def Zd7:Nat→(l:List MTy)→MD l→List AW
 | _,[],_=>[]
 | k,y :: l,x=>ZMq k y x.1 :: Zd7 (k + y.nb) l x.2
def Zh3:Nat→(l:List MTy)→MD l→Mem
 | _,[],_=>[]
 | k,y :: l,x=>preM1 k y x.1 ++ Zh3 (k + y.nb) l x.2
def Zfj:Nat→(l:List MTy)→MD l→Mem
 | _,[],_=>[]
 | k,y :: l,x=>ZNx k y x.1 ++ Zfj (k + y.nb) l x.2
def inpM:Nat→List MTy→List Nat
 | _,[]=>[]
 | k, .e t :: l=>k :: inpM (k + 1) l
 | k, .q g t :: l=>seqN k t.nl ++ inpM (k + t.nl) l
 | k,y :: l=>inpM (k + y.nb) l
structure ZMr (W:World) (E:Env) (W' : World) (E' : Env):Prop where
 os:W'.os=W.os
 tape:W'.tape=W.tape
 output:W'.output=W.output
 size:W.heap.size≤W'.heap.size
 keep:∀ b,b < W.heap.size→b ∉ foots E→W'.heap[b]?=W.heap[b]?
 new:∀ b ∈ foots E',b ∈ foots E∨W.heap.size≤b
def Zep (P:Program) (f:FuncId) (args:List AW) (pm qm:Mem) (inp:List Nat) (res:AV):Prop :=
 ∀ (X:List Nat) (W:World) (E:Env) (vs:List Value),Zko W E→RepM X W E pm→Zd2 X W E pm args vs →
   Calls P f vs.toArray W (fun e W'=>∃ v E',e=.returned v∧ZMr W E W' E'∧(∀ (i:Nat) (l:List AC) (e0:EB),pm[i]?=some (.box l)→E[i]?=some e0→∃ e',E'[i]?=some e'∧e'.blk=e0.blk) ∧
    (∀ i ∈ inp,∀ e0,E[i]?=some e0→∃ e',E'[i]?=some e'∧e'.val=e0.val)∧RepM X W' E' qm∧Zc5 X W' E' qm res v)
structure Zdb (P:Program) where
 f:FuncId
 ins:List MTy
 pre:MD ins→Prop
 post:MD ins→MD ins
 res:MD ins→AV
 new:MD ins→Mem
 ok:∀ x,pre x→Zep P f (Zd7 0 ins x) (Zh3 0 ins x) (Zfj 0 ins (post x) ++ new x) (inpM 0 ins) (res x)
 ent:∀ args w,(callFunc f args).run P w=.ok (.enter f args) w
def findM {P:Program} (f:FuncId):List (Zdb P)→Option (Zdb P)
 | []=>none
 | e :: l=>bif Nat.beq e.f f then some e else findM f l
def ZDt (M:Mem):(l:List ZNw)→List Nat→Option (ZMp l)
 | [],[]=>some ()
 | .b t :: l,i :: is=>match M[i]? with
  | some (.box c)=>match ZiU M t c with
   | some (x,[])=>match ZDt M l is with
    | some r=>some (x,r)
    | none=>none
   | _=>none
  | _=>none
 | .ptr _ :: l,_ :: is=>ZDt M l is
 | _,_=>none
def ZMs (M:Mem):(y:MTy)→AV→Option y.D
 | .a y,x=>ZjN M y x
 | .m t, .w (.c (.bp i 0))=>match M[i]? with
  | some (.box l)=>(ZcC M t l).map (·.1)
  | _=>none
 | .e t, .w (.c (.rp i v n k 0))=>match Zdy M i v with
  | some r=>if h:r.t=t then some (h ▸ r.xs,k) else none
  | none=>none
 | .q _ t,x=>(ZLL M t x).map (·.1)
 | .g _ t,x=>(ZLL M t x).map (·.1)
 | .b t, .w (.c (.bp i 0))=>match M[i]? with
  | some (.box l)=>match ZiU M t l with
   | some (x,[])=>some x
   | _=>none
  | _=>none
 | .f _ l, .w (.c (.fn _ ids))=>ZDt M l ids
 | _,_=>none
def ZKt (M:Mem):(l:List MTy)→List AV→Option (MD l)
 | [],[]=>some ()
 | y :: l,x :: xs=>match ZMs M y x with
  | some d=>match ZKt M l xs with
   | some ds=>some (d,ds)
   | none=>none
  | none=>none
 | _,_=>none
def ZGu:AC→Bool
 | .bp _ _=>false
 | .row _ _=>false
 | .rp _ _ _ _ _=>false
 | .fn _ _=>false
 | .junk=>false
 | .sl _ _ _ _ _ _=>false
 | .sp _ _ _ _ _ _ _ _ _=>false
 | .tl _ _ _ _=>false
 | .mp _=>false
 | .hs L _ _=>decide (L=.no)
 | .ep L _ _ _ _=>decide (L=.no)
 | _=>true
def Zml:AC→Bool
 | .raw (.slice none 0 0)=>true
 | _=>false
def leC:AC→AC→Prop
 | .int k x, .int k' y=>k=k'∧x=y
 | .bool x, .bool y=>x=y
 | .str x, .str y=>x=y
 | .opq x, .opq y=>x=y
 | .hs L t xs, .hs L' t' ys=>L=L'∧∃ h:t=t',h ▸ xs=ys
 | x,y=>x=y
structure MR where
 need:Prop
 used:List (Option Nat)
def MR.no:MR:=⟨False,[]⟩
def Zmm (M new:Mem) (acc:List (Option Nat)) (j w:Nat) (a:AC):MR :=
 bif Nat.beq j acc.length && Nat.beq w 0 then (match new[j]? with
     | some (.row t ys v c none)=>bif Nat.beq v 0 && Nat.beq c 0 then (bif Zml a then ⟨ys=[],[none]⟩ else (match a with
      | .row i u=>match Zdy M i u with
       | some r=>if h:r.t=t then ⟨h ▸ r.xs=ys,[some i]⟩ else .no
       | none=>.no
      | _=>.no)) else .no
     | _=>.no) else .no
def ZIw (acc:List (Option Nat)) (j i:Nat):Bool:=match acc[j]? with
 | some (some i')=>Nat.beq i i'
 | _=>false
def ZjP (M new:Mem) (acc:List (Option Nat)) (a b:AC):MR:=match b with
 | .row j w=>Zmm M new acc j w a
 | .bp j o=>match a with
  | .bp i o'=>bif Nat.beq o o' && ZIw acc j i then ⟨True,[]⟩ else .no
  | _=>.no
 | b=>⟨ZGu a=true∧leC a b,[]⟩
def ZnS (M new:Mem):List (Option Nat)→List AC→List AC→MR
 | _,[],[]=>⟨True,[]⟩
 | acc,a :: as',b :: bs=>let m:=ZjP M new acc a b
  let r:=ZnS M new (acc ++ m.used) as' bs
  ⟨m.need∧r.need,m.used ++ r.used⟩
 | _,_,_=>.no
def ZjQ (M new:Mem) (acc:List (Option Nat)):AW→AW→MR
 | .c a, .c b=>ZjP M new acc a b
 | .ag l, .ag l'=>ZnS M new acc l l'
 | _,_=>.no
def Znk (M new:Mem):List (Option Nat)→List AW→List AW→MR
 | _,[],[]=>⟨True,[]⟩
 | acc,a :: as',b :: bs=>let m:=ZjQ M new acc a b
  let r:=Znk M new (acc ++ m.used) as' bs
  ⟨m.need∧r.need,m.used ++ r.used⟩
 | _,_,_=>.no
def ZnT (M new:Mem) (acc:List (Option Nat)):AV→AV→MR
 | .w a, .w b=>ZjQ M new acc a b
 | .tp l, .tp l'=>Znk M new acc l l'
 | _,_=>.no
def Zew (M new:Mem) (acc:List (Option Nat)) (i:Nat):MR:=match M[i]? with
 | some (.box l)=>match new[acc.length]? with
  | some (.box l')=>let m:=ZnS M new (acc ++ [some i]) l l'
   ⟨m.need,some i :: m.used⟩
  | _=>.no
 | _=>.no
def Zfk (M new:Mem):List (Option Nat)→List Nat→MR
 | _,[]=>⟨True,[]⟩
 | acc,i :: is=>let m:=Zew M new acc i
  let r:=Zfk M new (acc ++ m.used) is
  ⟨(m.need∧Nat.beq m.used.length 1=true)∧r.need,m.used ++ r.used⟩
def Zqf (M new:Mem) (acc:List (Option Nat)) (a:AC) (j w n q:Nat):MR:=match a with
 | .rp i v n' q' 0=>match Zdy M i v with
  | some r=>match new[j]? with
   | some (.row t ys u c none)=>bif (Nat.beq j acc.length && Nat.beq w 0) && ((Nat.beq u 0 && Nat.beq c 0) && Nat.beq n n') then (if h:r.t=t then ⟨h ▸ r.xs=ys∧q'=q,[some i]⟩ else .no) else .no
   | _=>.no
  | none=>.no
 | _=>.no
def Zd8 (M new:Mem) (acc:List (Option Nat)) (a b:AW):MR:=match b with
 | .c (.bp j 0)=>match a with
  | .c (.bp i 0)=>bif Nat.beq j acc.length then Zew M new acc i else .no
  | _=>.no
 | .c (.rp j w n q 0)=>match a with
  | .c a=>Zqf M new acc a j w n q
  | _=>.no
 | .c (.fn g ids')=>match a with
  | .c (.fn g' ids)=>bif Nat.beq g g' && decide (ids'=seqN acc.length ids.length) then Zfk M new acc ids else .no
  | _=>.no
 | b=>ZjQ M new acc a b
def ZgW (M new:Mem):List (Option Nat)→List MTy→List AV→List AW→MR
 | _,[],[],[]=>⟨True,[]⟩
 | acc, .a _ :: l,_ :: xs,_ :: ys=>ZgW M new acc l xs ys
 | acc,_ :: l, .w x :: xs,y :: ys=>let m:=Zd8 M new acc x y
  let r:=ZgW M new (acc ++ m.used) l xs ys
  ⟨m.need∧r.need,m.used ++ r.used⟩
 | _,_,_,_=>.no
def somes:List (Option Nat)→List Nat
 | []=>[]
 | some i :: l=>i :: somes l
 | none :: l=>somes l
def Zox:Nat→List MTy→List (AW × AW)
 | _,[]=>[]
 | k, .a _ :: l=>Zox k l
 | k, .m t :: l=>(.c (.bp k 0), .c (.bp k 0)) :: Zox (k + (t.nl + 1)) l
 | k, .e _ :: l=>(.c (.row k 0), .c (.row k 0)) :: Zox (k + 1) l
 | k, .q _ t :: l=>(seqN k t.nl).map (fun j=>(.c (.row j 0), .c (.row j 0))) ++ Zox (k + t.nl) l
 | k, .g _ t :: l=>(seqN k t.nl).map (fun j=>(.c (.raw (.slice none 0 0)), .c (.row j 0))) ++ Zox (k + t.nl) l
 | k, .b _ :: l=>(.c (.bp k 0), .c (.bp k 0)) :: Zox (k + 1) l
 | k, .f _ c :: l=>(seqN k c.length).map (fun j=>(.c (.bp j 0), .c (.bp j 0))) ++ Zox (k + c.length) l
def ZlI (M new:Mem):List (Option Nat)→List (AW × AW)→MR
 | _,[]=>⟨True,[]⟩
 | acc,p :: l=>let m:=Zd8 M new acc p.1 p.2
  let r:=ZlI M new (acc ++ m.used) l
  ⟨m.need∧r.need,m.used ++ r.used⟩
def ZNy (M:Mem) (inp:List Nat):Bool:=inp.all fun i=>match M[i]? with
 | some (.row _ _ v _ none)=>Nat.beq v 0
 | _=>false
def ZxL:Nat→Mem→List Nat
 | _,[]=>[]
 | k, .box _ :: l=>k :: ZxL (k + 1) l
 | k,_ :: l=>ZxL (k + 1) l
def ZNz (us:List (Option Nat)) (l:List Nat):Bool:=l.all fun j=>ZIw us j j
def ZPq (ins:List MTy) (qm:Mem) (res r:AV) (M:Mem):Prop :=
 let m:=ZlI M qm [] (Zox 0 ins)
 let n:=ZnT M qm m.used r res
 (m.need∧n.need)∧((Nat.beq (m.used ++ n.used).length qm.length && ZbQ (somes (m.used ++ n.used))) && (ZNz (m.used ++ n.used) (ZxL 0 qm ++ inpM 0 ins) && ZNy M (inpM 0 ins)))=true
def ZxM:Nat→List (Option Nat)→List Nat
 | _,[]=>[]
 | n,some i :: l=>i :: ZxM n l
 | n,none :: l=>n :: ZxM (n + 1) l
def ZeO:List (Option Nat)→Nat
 | []=>0
 | some _ :: l=>ZeO l
 | none :: l=>ZeO l + 1
def ZNA (M:Mem) (inp:List Nat):Nat→List Nat→List Nat
 | _,[]=>[]
 | j,i :: l=>(match M[i]? with | some (.row _ _ v _ none)=>bif inp.any (Nat.beq j) then v else v + 1 | _=>0) :: ZNA M inp (j + 1) l
def ZIx (M:Mem):List Nat→List Nat
 | []=>[]
 | i :: l=>(match M[i]? with | some (.row _ _ _ c none)=>c + 1 | _=>0) :: ZIx M l
def ZNB (ρ vs:List Nat):AC→AC
 | .row j _=>.row (ρ.getD j 0) (vs.getD j 0)
 | .bp j o=>.bp (ρ.getD j 0) o
 | c=>c
def ZN5 (ρ vs:List Nat):AW→AW
 | .c a=>.c (ZNB ρ vs a)
 | .ag l=>.ag (l.map (ZNB ρ vs))
def ZPr (ρ vs:List Nat):AV→AV
 | .w x=>.w (ZN5 ρ vs x)
 | .tp l=>.tp (l.map (ZN5 ρ vs))
 | .any=>.any
def ZO6 (ρ vs:List Nat) (v c:Nat):Blk→Blk
 | .row t xs _ _ none=>.row t xs v c none
 | .box l=>.box (l.map (ZNB ρ vs))
 | b=>b
def ZDu (pm:Mem) (j:Nat):Bool:=match pm[j]? with
 | some (.box _)=>true
 | _=>false
def ZxN (pm:Mem) (fo:Bool):AC→Bool
 | .int _ _=>true
 | .bool _=>true
 | .str _=>true
 | .opq _=>true
 | .row _ w=>Nat.beq w 0
 | .bp j _=>ZDu pm j
 | .raw _=>true
 | .hs .no _ _=>fo
 | _=>false
def ZEC (pm:Mem) (fo:Bool):AW→Bool
 | .c a=>ZxN pm fo a
 | .ag l=>l.all (ZxN pm fo)
def ZNC (pm:Mem) (fo:Bool):AV→Bool
 | .w x=>ZEC pm fo x
 | .tp l=>l.all (ZEC pm fo)
 | .any=>true
def ZND (pm:Mem) (fo:Bool):Blk→Bool
 | .box l=>l.all (ZxN pm fo)
 | .row _ _ v c none=>Nat.beq v 0 && Nat.beq c 0
 | _=>false
def ZgX:Mem→Mem→Bool
 | [],l=>l.all fun b=>match b with | .row _ _ _ _ none=>true | _=>false
 | .row t _ _ _ none :: l, .row t' _ _ _ none :: k=>decide (t=t') && ZgX l k
 | .box _ :: l, .box _ :: k=>ZgX l k
 | _,_=>false
def Zvk (i:Nat):List Nat→Option Nat
 | []=>none
 | j :: l=>bif Nat.beq j i then some 0 else (Zvk i l).map (· + 1)
def ZLO {α:Type} (g:Nat→Option α):Nat→List α→List α
 | _,[]=>[]
 | i,b :: l=>(match g i with | some b'=>b' | none=>b) :: ZLO g (i + 1) l
def ZNE (M:Mem) (n:Nat) (ρ vs cs:List Nat) (qm:Mem):Mem:=ZLO (fun i=>match Zvk i ρ with
 | some j=>(qm[j]?).map (ZO6 ρ vs (vs.getD j 0) (cs.getD j 0))
 | none=>none) 0 (M ++ List.replicate n .dead)
def namC:AC→List Nat
 | .row i _=>[i]
 | .rp i _ _ _ _=>[i]
 | .hs (.at i _ _) _ _=>[i]
 | .ep (.at i _ _) _ _ _ _=>[i]
 | .sl i _ _ _ _ _=>[i]
 | .sp i _ _ _ _ _ _ _ _=>[i]
 | .tl i _ _ _=>[i]
 | .mp i=>[i]
 | .bp i _=>[i]
 | _=>[]
def namV (M:Mem):AV→List Nat
 | .w (.c (.bp i o))=>i :: (match M[i]? with | some (.box l)=>l.flatMap namC | _=>[])
 | .w (.c a)=>namC a
 | .w (.ag l)=>l.flatMap namC
 | _=>[]
def namA (M:Mem):List MTy→List AV→List Nat
 | .a _ :: l,x :: xs=>namV M x ++ namA M l xs
 | _ :: l,_ :: xs=>namA M l xs
 | _,_=>[]
def ZIy (n:Nat):Lnd→Lnd
 | .no=>.no
 | .at i v c=>.at (i + n) v c
def ZsR (n:Nat):AC→AC
 | .bp i o=>.bp (i + n) o
 | .row i v=>.row (i + n) v
 | .rp i v m k o=>.rp (i + n) v m k o
 | .hs L t xs=>.hs (ZIy n L) t xs
 | .ep L t xs k o=>.ep (ZIy n L) t xs k o
 | .sl i v c m k o=>.sl (i + n) v c m k o
 | .sp i v c m k o z x q=>.sp (i + n) v c m k o z x q
 | .tl i v m k=>.tl (i + n) v m k
 | .mp i=>.mp (i + n)
 | .fn f l=>.fn f (l.map (· + n))
 | c=>c
def ZED (n:Nat):AW→AW
 | .c a=>.c (ZsR n a)
 | .ag l=>.ag (l.map (ZsR n))
def ZIz (n:Nat):AV→AV
 | .w x=>.w (ZED n x)
 | .tp l=>.tp (l.map (ZED n))
 | .any=>.any
def Zsu {P:Program} (Γ:List (ZaE P)) (M:Mem) (g:FuncId) (el:List AV) (ids:List Nat):Option (Prop × AV) :=
 match Zvj g Γ with
 | some e=>match Zkn M e.ins (el ++ ids.map (fun i=>.c (.bp i 0))) with
  | some y=>match e.new y with
   | []=>some (e.pre y,e.res y)
   | _=>none
  | none=>none
 | none=>none
def ZGv:AV→Bool
 | .w (.c (.bool b))=>b
 | _=>false
def Znl:AV→Prop
 | .w (.c (.bool _))=>True
 | _=>False
def Zd9 (agg:Bool) (t:Ty) (x:t.den):AV:=bif agg then .ag (cellsOf t x) else .c (enc1 t x)
structure CV where
 t:Ty
 x:t.den
def CV.arg (c:CV):AW:=.c (.ep .no c.t [c.x] 0 0)
def ZIA (X:List Nat) (W:World):List CV→List Value→Prop
 | [],vs=>vs=[]
 | c :: cs,vs=>∃ v r,vs=v :: r∧Zb3 X W [] [] (.ep .no c.t [c.x] 0 0) v∧ZIA X W cs r
def elW (agg:Bool) (t:Ty) (x:t.den):AW:=match Zd9 agg t x with | .w y=>y | _=>.ag []
def Zk4 (X:List Nat) (W:World) (P:Program) (u:Value) (agg:Bool) (t:Ty) (p:t.den→Bool):Prop :=
 ∃ (g:FuncId) (caps:List Value),u=.func (.func g) #[] caps.toArray∧(∀ args w,(callFunc g args).run P w=.ok (.enter g args) w) ∧
   ∀ (W' : World) (E' : Env) (x:t.den) (v:Value),ZbU W [] W' E'→ZkN X W' [] [] (elW agg t x) v →
     Calls P g (v :: caps).toArray W' (fun e W''=>∃ r E'',e=.returned r∧ZbU W' [] W'' E''∧RepM X W'' E'' []∧Zc5 X W'' E'' [] (.c (.bool (p x))) r)
def Zvl (X:List Nat) (W:World) (P:Program) (u:Value) (agg:Bool) (t:Ty) (p:t.den→t.den→Bool):Prop :=
 ∃ (g:FuncId) (caps:List Value),u=.func (.func g) #[] caps.toArray∧(∀ args w,(callFunc g args).run P w=.ok (.enter g args) w) ∧
   ∀ (W' : World) (E' : Env) (x y:t.den) (v v2:Value),ZbU W [] W' E'→ZkN X W' [] [] (elW agg t x) v→ZkN X W' [] [] (elW agg t y) v2 →
     Calls P g (v :: v2 :: caps).toArray W' (fun e W''=>∃ r E'',e=.returned r∧ZbU W' [] W'' E''∧RepM X W'' E'' []∧Zc5 X W'' E'' [] (.c (.bool (p x y))) r)
structure Zhy (P:Program) where
 f:FuncId
 t:Ty
 agg:Bool
 res:(t.den→Bool)→List t.den→AC
 ok:∀ (p:t.den→Bool) (xs:List t.den) (u:Value) (X:List Nat) (W:World) (v:Value),(∀ b ∈ X,b < W.heap.size)→Zko W []→Zb3 X W [] [] (.hs .no t xs) v→Zk4 X W P u agg t p →
  Calls P f #[v,u] W (fun e W'=>∃ v E',e=.returned v∧ZbU W [] W' E'∧RepM X W' E' []∧Zc5 X W' E' [] (.c (res p xs)) v)
 ent:∀ args w,(callFunc f args).run P w=.ok (.enter f args) w
def ZGw {P:Program} (f:FuncId):List (Zhy P)→Option (Zhy P)
 | []=>none
 | e :: l=>bif Nat.beq e.f f then some e else ZGw f l
structure ZjR (P:Program) where
 f:FuncId
 t:Ty
 agg:Bool
 res:(t.den→t.den→Bool)→List t.den→List t.den→AC
 ok:∀ (p:t.den→t.den→Bool) (xs ys:List t.den) (u:Value) (X:List Nat) (W:World) (v v2:Value),(∀ b ∈ X,b < W.heap.size)→Zko W []→Zb3 X W [] [] (.hs .no t xs) v→Zb3 X W [] [] (.hs .no t ys) v2→Zvl X W P u agg t p →
  Calls P f #[v,v2,u] W (fun e W'=>∃ v E',e=.returned v∧ZbU W [] W' E'∧RepM X W' E' []∧Zc5 X W' E' [] (.c (res p xs ys)) v)
 ent:∀ args w,(callFunc f args).run P w=.ok (.enter f args) w
def ZsS {P:Program} (f:FuncId):List (ZjR P)→Option (ZjR P)
 | []=>none
 | e :: l=>bif Nat.beq e.f f then some e else ZsS f l
structure CE (P:Program) where
 u:Value
 g:FuncId
 caps:List Value
 hu:u=.func (.func g) #[] caps.toArray
 ins:List ATy
 res:AD ins→AV
 ent:∀ args w,(callFunc g args).run P w=.ok (.enter g args) w
def ZN6 (X:List Nat) (W:World) {P:Program} (c:CE P):Prop :=
 ∀ (W' : World) (E' : Env) (x:AD c.ins) (vs:List Value),ZbU W [] W' E'→Zd2 X W' [] [] (ZM0 c.ins x) vs →
   Calls P c.g (vs ++ c.caps).toArray W' (fun e W''=>∃ v E'',e=.returned v∧ZbU W' [] W'' E''∧RepM X W'' E'' []∧Zc5 X W'' E'' [] (c.res x) v)
structure Pro where
 b:Option Nat
 i:Nat
 t:Ty
structure Tab (P:Program) where
 Γ:List (ZaE P)
 H:List (Zhy P)
 H2:List (ZjR P)
 G:List (Zdb P)
 C:Option (CE P)
 pro:Nat→List Pro
 n0:Nat
 inp:List Nat
 cut:List Nat
def Zvm (X:List Nat) (W:World) (E0:Env) {P:Program} (T:Tab P):Prop:=(T.C=none∨(E0=[]∧∀ c,T.C=some c→ZN6 X W c))∧T.n0=E0.length∧(∀ i ∈ T.inp,i < E0.length)∧Zko W E0
def ZLP:List ATy→Bool
 | []=>false
 | .p _ :: _=>true
 | _ :: l=>ZLP l
def Zsv:AC→Bool
 | .int _ _=>true
 | .bool _=>true
 | .str _=>true
 | .opq _=>true
 | _=>false
def ZKu:AW→Bool
 | .c a=>Zsv a
 | .ag l=>l.all Zsv
def ZNF:AV→Bool
 | .w x=>ZKu x
 | .tp l=>l.all ZKu
 | .any=>true
def ZLQ:AC→Bool
 | .row _ _=>true
 | .rp _ _ _ _ _=>true
 | .hs (.at _ _ _) _ _=>true
 | .ep (.at _ _ _) _ _ _ _=>true
 | .sl _ _ _ _ _ _=>true
 | .sp _ _ _ _ _ _ _ _ _=>true
 | .tl _ _ _ _=>true
 | .mp _=>true
 | _=>false
def ZIB:AV→Bool
 | .w (.c a)=>ZLQ a
 | .w (.ag l)=>l.any ZLQ
 | _=>false
def ZM1:AC→Bool
 | .int _ _=>true
 | .bool _=>true
 | .str _=>true
 | .opq _=>true
 | .row _ _=>true
 | _=>false
def ZN7:AW→Bool
 | .c a=>ZM1 a
 | .ag l=>l.all ZM1
def ZO7:AV→Bool
 | .w x=>ZN7 x
 | .tp l=>l.all ZN7
 | .any=>true
def ZO8:Blk→Bool
 | .row _ _ _ _ none=>true
 | _=>false
def ZN8:AC→Bool
 | .hs .no _ _=>true
 | c=>Zsv c
def ZO9:Blk→Bool
 | .row _ _ _ _ none=>true
 | .box l=>l.all ZN8
 | _=>false
def ZDv {P:Program} (e:Zdb P) (M:Mem) (args:List AV):OR :=
 match ZKt M e.ins args with
 | some x =>
  let m:=ZgW M (Zh3 0 e.ins x) [] e.ins args (Zd7 0 e.ins x)
  let qm:=Zfj 0 e.ins (e.post x) ++ e.new x
  let us:=m.used ++ List.replicate (e.new x).length none
  let ρ:=ZxM M.length us
  let vs:=ZNA M (inpM 0 e.ins) 0 ρ
  let nam:=namA M e.ins args
  ⟨(e.pre x∧m.need)∧(((ZbQ (somes m.used) && Nat.beq m.used.length (Zh3 0 e.ins x).length) && (Nat.beq qm.length us.length && nam.all (fun i=>(somes m.used).all (fun j=>!Nat.beq i j)))) && ((ZNC (Zh3 0 e.ins x) nam.isEmpty (e.res x) && qm.all (ZND (Zh3 0 e.ins x) nam.isEmpty)) && ZgX (Zh3 0 e.ins x) qm))=true,
    ZPr ρ vs (e.res x),ZNE M (ZeO us) ρ vs (ZIx M ρ) qm⟩
 | none=>.no
def Zsw {P:Program} (T:Tab P) (M:Mem) (f:FuncId) (args:List AV):OR :=
 match ZGw f T.H with
 | some h=>match args with
  | [.w (.c a), .w (.c (.fn g ids))]=>match ZiU M (.list h.t) [a] with
   | some (xs,[])=>⟨(∀ x,match Zsu T.Γ M g [Zd9 h.agg h.t x] ids with | some (q,r)=>q∧Znl r | none=>False)∧∀ p ys,Zsv (h.res p ys)=true,
    .c (h.res (fun x=>match Zsu T.Γ M g [Zd9 h.agg h.t x] ids with | some (_,r)=>ZGv r | none=>false) xs),M⟩
   | _=>.no
  | [.w (.c a), .w (.c (.raw u))]=>match T.C,ZiU M (.list h.t) [a] with
   | some ce,some (xs,[])=>⟨u=ce.u∧(∀ x,match Zkn M ce.ins [Zd9 h.agg h.t x] with | some y=>Znl (ce.res y) | none=>False)∧∀ p ys,Zsv (h.res p ys)=true,
    .c (h.res (fun x=>match Zkn M ce.ins [Zd9 h.agg h.t x] with | some y=>ZGv (ce.res y) | none=>false) xs),M⟩
   | _,_=>.no
  | _=>.no
 | none=>match ZsS f T.H2 with
 | some h=>match args with
  | [.w (.c a), .w (.c b), .w (.c (.fn g ids))]=>match ZiU M (.list h.t) [a],ZiU M (.list h.t) [b] with
   | some (xs,[]),some (ys,[])=>⟨(∀ x y,match Zsu T.Γ M g [Zd9 h.agg h.t x,Zd9 h.agg h.t y] ids with | some (q,r)=>q∧Znl r | none=>False)∧∀ p ys zs,Zsv (h.res p ys zs)=true,
    .c (h.res (fun x y=>match Zsu T.Γ M g [Zd9 h.agg h.t x,Zd9 h.agg h.t y] ids with | some (_,r)=>ZGv r | none=>false) xs ys),M⟩
   | _,_=>.no
  | _=>.no
 | none=>match Zvj f T.Γ with
  | some e=>match Zkn M e.ins args with
   | some x=>bif ZLP e.ins || args.any ZIB then ⟨e.pre x∧ZO7 (e.res x)=true∧(e.new x).all ZO8=true,ZIz M.length (e.res x),M ++ e.new x⟩ else ⟨e.pre x∧(e.new x).all ZO9=true,ZIz M.length (e.res x),M ++ e.new x⟩
   | none=>.no
  | none=>.no
def ZN9:List MTy→List AV→Bool
 | .f g _ :: l, .w (.c (.fn g' _)) :: xs=>Nat.beq g g' && ZN9 l xs
 | _ :: l,_ :: xs=>ZN9 l xs
 | _,_=>true
def Zqg {P:Program} (f:FuncId) (args:List AV):List (Zdb P)→Option (Zdb P)
 | []=>none
 | e :: l=>bif Nat.beq e.f f && ZN9 e.ins args then some e else Zqg f args l
def ZxO {P:Program} (T:Tab P) (M:Mem) (f:FuncId) (args:List AV):OR :=
 match Zqg f args T.G with
 | some e=>ZDv e M args
 | none=>Zsw T M f args
def Zbw:List MTy→List Operand→List AV→Mem→List AV × Mem
 | .q _ _ :: l, .tmp t :: xs,tm,M=>let p:=ZjK tm M t; Zbw l xs p.1 p.2
 | .g _ _ :: l, .tmp t :: xs,tm,M=>let p:=ZjK tm M t; Zbw l xs p.1 p.2
 | _ :: l,_ :: xs,tm,M=>Zbw l xs tm M
 | _,_,tm,M=>(tm,M)
def ZIC {P:Program} (T:Tab P) (tm:List AV) (M:Mem) (o:Oper):List AV × Mem :=
 match o.op with
 | .store _ (.tmp p) _=>ZjK tm M p
 | .call c=>match c.callee with
  | .builtin .append=>match c.args.toList with
   | .tmp t :: _=>ZjK tm M t
   | _=>(tm,M)
  | .value (.func f)=>match findM f T.G with
   | some e=>Zbw e.ins c.args.toList tm M
   | none=>(tm,M)
  | _=>(tm,M)
 | _=>(tm,M)
def ZlJ {P:Program} (T:Tab P) (tm:List AV) (M:Mem) (o:Oper):OR :=
 match o.op with
 | .call c=>match c.callee with
  | .value fn=>match evalA tm fn with
   | .w (.c (.fn f ids))=>ZxO T M f (c.args.toList.map (evalA tm) ++ ids.map (fun i=>.c (.bp i 0)))
   | .w (.c (.raw u))=>match T.C with
    | some ce=>match Zkn M ce.ins (c.args.toList.map (evalA tm)) with
     | some x=>⟨u=ce.u∧ZNF (ce.res x)=true,ce.res x,M⟩
     | none=>.no
    | none=>.no
   | _=>.no
  | _=>opA P tm M o
 | _=>opA P tm M o
def ZxP (P:Program) (t:TypeId):Bool:=match P.underlying t with
 | some (.slice e)=>match ZNq P 8 e with
  | some tt=>tt.flat
  | none=>false
 | _=>false
def isCut {P:Program} (T:Tab P) (o:Oper):Bool:=match o.op with
 | .slice _ _ _ _ none=>(match o.dst with | some d=>T.cut.any (Nat.beq d) | none=>false)
 | .call c=>(match c.callee with | .builtin .clear=>true | _=>false)
 | .makeMap _ none=>true
 | .lookup _ _ _ false=>true
 | .mapUpdate _ _ _ _=>true
 | _=>false
def ZNG (P:Program) (M:Mem) (t:TypeId) (x:AV) (lo hi:Option AV):OR :=
 match P.underlying t,x with
 | some (.slice e), .w (.c (.row i v))=>match Zdy M i v with
  | some r=>bif Nat.beq (Zcc P e) r.t.n then (match lo,hi with
   | none,some (.w (.c (.int .i64 h)))=>⟨0≤h∧h≤(r.xs.length:Int), .c (.row M.length 0),Zda M [i] ++ [.row r.t (r.xs.take h.toNat) 0 0 none]⟩
   | some (.w (.c (.int .i64 l))),none=>⟨0≤l∧l≤(r.xs.length:Int), .c (.tl i v r.t.n l.toNat),M⟩
   | _,_=>.no) else .no
  | none=>.no
 | _,_=>.no
def ZxQ (P:Program) (M:Mem) (t:TypeId) (x:AV):OR :=
 match P.underlying t,x with
 | some (.slice e), .w (.c (.tl i v n k))=>match Zdy M i v,(P.info? e).bind (·.zero) with
  | some r,some z=>bif (z.cells.toList.all ZjI && Zh7 P e r.t.n) && Nat.beq n r.t.n then (match ZcC M r.t (z.cells.toList.map ZIk) with
   | some (d,[])=>⟨True, .any,M.set i (.row r.t (r.xs.take k ++ List.replicate (r.xs.length - k) d) v (r.c + 1) none)⟩
   | _=>.no) else .no
  | _,_=>.no
 | _,_=>.no
def ZGx (P:Program) (t:TypeId):Bool:=match P.underlying t with
 | some (.int .i64)=>true
 | _=>false
def Zvn (P:Program) (t:TypeId):Bool:=match (P.info? t).bind (·.zero) with
 | some (.bool false)=>true
 | _=>false
def ZEE (n:Int) (xs:List Int):Bool:=xs.any (fun y=>decide (y=n))
def ZKv (n:Int) (xs:List Int):List Int:=bif ZEE n xs then xs else xs ++ [n]
def ZDw (P:Program) (M:Mem) (t:TypeId) (x k:AV):OR :=
 match P.underlying t,x,k with
 | some (.map kt et), .w (.c (.mp i)), .w (.c (.int .i64 n))=>match M[i]? with
  | some (.mp xs)=>bif ZGx P kt && Zvn P et then ⟨True, .c (.bool (ZEE n xs)),M⟩ else .no
  | _=>.no
 | _,_,_=>.no
def ZMt (P:Program) (M:Mem) (t:TypeId) (x k v:AV):OR :=
 match P.underlying t,x,k,v with
 | some (.map kt _), .w (.c (.mp i)), .w (.c (.int .i64 n)), .w (.c (.bool true))=>match M[i]? with
  | some (.mp xs)=>bif ZGx P kt then ⟨True, .any,M.set i (.mp (ZKv n xs))⟩ else .no
  | _=>.no
 | _,_,_,_=>.no
def ZLR {P:Program} (tm:List AV) (M:Mem) (o:Oper):OR:=match o.op with
 | .slice t x lo hi none=>ZNG P M t (evalA tm x) (lo.map (evalA tm)) (hi.map (evalA tm))
 | .call c=>(match c.callee with
  | .builtin .clear=>(match c.argTypes.toList,c.args.toList with
   | [t],[x]=>ZxQ P M t (evalA tm x)
   | _,_=>.no)
  | _=>.no)
 | .makeMap _ none=>⟨True, .c (.mp M.length),M ++ [.mp []]⟩
 | .lookup t m k false=>ZDw P M t (evalA tm m) (evalA tm k)
 | .mapUpdate t m k v=>ZMt P M t (evalA tm m) (evalA tm k) (evalA tm v)
 | _=>.no
def ZM2 {P:Program} (T:Tab P) (o:Oper):Nat :=
 match o.op with
 | .alloc _=>1
 | .box _ _=>1
 | .store _ _ _=>2
 | .buildSlice t _ _=>bif ZxP P t then 1 else 2
 | .makeSlice _ _ _=>1
 | .call c=>match c.callee with
  | .value (.func f)=>(match findM f T.G with | some _=>2 | none=>1)
  | .value _=>2
  | .builtin .len=>0
  | .builtin .min=>0
  | .builtin .max=>0
  | _=>2
 | _=>0
def clsO {P:Program} (T:Tab P) (o:Oper):Nat:=bif isCut T o then 2 else ZM2 T o
def ZHm (ops:Array Oper):Nat→Nat→Nat→Bool
 | 0,_,_=>false
 | n + 1,i,j=>match ops[j]? with
  | some o=>o.after.any fun e=>Region.binds .any e && (Nat.beq e.on i || (Nat.blt i e.on && ZHm ops n i e.on))
  | none=>false
def ZxR (o:Oper):Bool:=match o.op with
 | .move _=>true
 | _=>false
def ZKw {P:Program} (T:Tab P) (ops:Array Oper) (listed:Array Bool) (i:Nat):Bool :=
 match ops[i]? with
 | some oi=>(List.range ops.size).all fun j=>Nat.beq j i || (listed.getD j true || ((match ops[j]? with
  | some oj=>Nat.beq (clsO T oi) 0 && (oi.apart ops oj && (Nat.ble (clsO T oj) 1 || ZxR oi))
  | none=>true) || ZHm ops ops.size i j))
 | none=>false
def ZdD {P:Program} (T:Tab P) (tm:List AV) (M:Mem) (o:Oper):OR :=
 bif Nat.beq (clsO T o) 2 then (bif isCut T o then ZLR (P:=P) tm M o else (let g:=ZIC T tm M o
  let r:=ZlJ T g.1 g.2 o
  ⟨r.need,r.val,ZoJ r.mem⟩)) else ZlJ T tm M o
inductive Tr where
 | nil
 | one (i:Nat) (t:Tr)
 | alt (t u:Tr)
def Tr.heads:Tr→List Nat
 | .nil=>[]
 | .one i _=>[i]
 | .alt t u=>t.heads ++ u.heads
def Tr.len:Tr→Nat
 | .nil=>0
 | .one _ t=>t.len + 1
 | .alt t u=>max t.len u.len
def okA {P:Program} (T:Tab P) (ops:Array Oper):Tr→Bool→Array Bool→Bool
 | .nil,b,listed=>!b && (Region.ready .any ops listed).isEmpty
 | .one i t,b,listed=>((Region.ready .any ops listed).any (Nat.beq · i)) && ((b || ZKw T ops listed i) && okA T ops t false (listed.setIfInBounds i true))
 | .alt t u,b,listed=>(b || (Region.ready .any ops listed).all fun i=>(t.heads ++ u.heads).any (Nat.beq · i)) && (okA T ops t true listed && okA T ops u true listed)
def ZNH {P:Program} (T:Tab P) (ops:Array Oper) (i:Nat):Bool:=match ops[i]? with
 | some o=>Nat.beq (clsO T o) 0
 | none=>false
def ZOa:List Tr→Tr
 | []=>.nil
 | [t]=>t
 | t :: ts=>.alt t (ZOa ts)
def Zh8 {P:Program} (T:Tab P) (ops:Array Oper):Nat→Array Bool→Tr
 | 0,_=>.nil
 | n + 1,listed=>match (Region.ready .any ops listed).find? (fun i=>ZNH T ops i && ZKw T ops listed i) with
  | some i=>.one i (Zh8 T ops n (listed.setIfInBounds i true))
  | none=>ZOa ((Region.ready .any ops listed).map fun i=>.one i (Zh8 T ops n (listed.setIfInBounds i true)))
def ZkP (tm:List AV) (dst:Option Tmp) (v:AV):List AV :=
 match dst with
 | some d=>tm.set d v
 | none=>tm
def Zh9:AV:=.tp []
def Zqh (M:Mem):List Nat→Mem→(Mem→Prop)→Prop
 | [],M',K=>K M'
 | i :: l,M',K=>match M[i]?,M'[i]? with
  | some (.row _ _ _ c none),some (.row t xs v c' none)=>bif Nat.beq c c' then Zqh M l M' K else ∀ ys:List t.den,ys=xs→Zqh M l (M'.set i (.row t ys v c' none)) K
  | _,_=>Zqh M l M' K
def ZKx (o:Oper) (M M' : Mem) (K:Mem→Prop):Prop :=
 match o.op with
 | .store _ _ _=>Zqh M (List.range M.length) M' K
 | .call c=>match c.callee with
  | .value _=>Zqh M (List.range M.length) M' K
  | _=>K M'
 | _=>K M'
theorem ZgY {M:Mem} {K:Mem→Prop}:∀ {l:List Nat} {M' : Mem},Zqh M l M' K→K M'
 | [],_,h=>h
 | i :: l,M',h=>by
  unfold Zqh at h
  split at h
  ·rename_i t xs v c' h1 h2
   cases hc:Nat.beq _ c' with
   | true=>rw [hc] at h; exact ZgY h
   | false =>
    rw [hc] at h
    have h3:=ZgY (h _ rfl)
    have hs:M'.set i (.row t xs v c' none)=M':=by
     obtain ⟨hi,e⟩:=List.getElem?_eq_some_iff.1 h2
     rw [← e]
     exact List.set_getElem_self hi
    rwa [hs] at h3
  ·exact ZgY h
theorem Zmn {o:Oper} {M M' : Mem} {K:Mem→Prop} (h:ZKx o M M' K):K M':=by
 unfold ZKx at h
 split at h
 ·exact ZgY h
 ·split at h
  ·exact ZgY h
  ·exact h
 ·exact h
def ZOS (P:Program) (tm:List AV) (M:Mem) (o:Oper):Option (Bool→Prop) :=
 match o.op with
 | .binOp op t x (.const (.slice none 0 0)) _=>match P.underlying t,evalA tm x with
  | some (.slice _), .w (.c c)=>match ZgT M c with
   | some (_,q)=>match op with
    | .eql=>some fun b=>b=true→q.xs.length=0
    | .neq=>some fun b=>b=false→q.xs.length=0
    | _=>none
   | none=>none
  | _,_=>none
 | _=>none
def ZKy (r:OR) (K:Prop):Prop:=match r.val with
 | .tp [.ag []]=>False
 | _=>r.need∧K
theorem ZgZ {r:OR} {K:Prop} (h:ZKy r K):r.need∧K:=by
 unfold ZKy at h
 split at h
 ·exact h.elim
 ·exact h
def Znm {P:Program} (T:Tab P) (all:List Oper):List Oper→List AV→Mem→(List AV→Mem→Prop)→Prop
 | [],tm,M,K=>K tm M
 | o :: os,tm,M,K =>
  match o.guard with
  | none=>match ZOS P tm M o with
   | some q=>∀ b:Bool,q b→Znm T all os (ZkP tm o.dst (.c (.bool b))) M K
   | none=>let r:=ZdD T tm M o; ZKy r (ZKx o M r.mem (fun M'=>Znm T all os (ZkP tm o.dst r.val) M' K))
  | some (j,want)=>match (all[j]?).bind (·.dst) with
   | some d=>match tm.getD d .any with
    | .w (.c (.bool g))=>match want with
     | true=>bif g then (let tm:=tm.set d (.c (.bool true)); let r:=ZdD T tm M o; ZKy r (ZKx o M r.mem (fun M'=>Znm T all os (ZkP tm o.dst r.val) M' K)))
      else Znm T all os (ZkP (tm.set d (.c (.bool false))) o.dst Zh9) M K
     | false=>bif g then Znm T all os (ZkP (tm.set d (.c (.bool true))) o.dst Zh9) M K
      else (let tm:=tm.set d (.c (.bool false)); let r:=ZdD T tm M o; ZKy r (ZKx o M r.mem (fun M'=>Znm T all os (ZkP tm o.dst r.val) M' K)))
    | .tp _=>Znm T all os (ZkP tm o.dst Zh9) M K
    | _=>False
   | none=>False
def ZMu {P:Program} (T:Tab P) (ops:Array Oper) (i:Nat) (tm:List AV) (M:Mem) (K:List AV→Mem→Prop):Prop :=
 match ops[i]? with
 | none=>False
 | some o=>match o.guard with
  | none=>let r:=ZdD T tm M o; ZKy r (ZKx o M r.mem (fun M'=>K (ZkP tm o.dst r.val) M'))
  | some (j,want)=>match (ops[j]?).bind (·.dst) with
   | some d=>match tm.getD d .any with
    | .w (.c (.bool g))=>match want with
     | true=>bif g then (let tm:=tm.set d (.c (.bool true)); let r:=ZdD T tm M o; ZKy r (ZKx o M r.mem (fun M'=>K (ZkP tm o.dst r.val) M')))
      else K (ZkP (tm.set d (.c (.bool false))) o.dst Zh9) M
     | false=>bif g then K (ZkP (tm.set d (.c (.bool true))) o.dst Zh9) M
      else (let tm:=tm.set d (.c (.bool false)); let r:=ZdD T tm M o; ZKy r (ZKx o M r.mem (fun M'=>K (ZkP tm o.dst r.val) M')))
    | .tp _=>K (ZkP tm o.dst Zh9) M
    | _=>False
   | none=>False
def Zmo {P:Program} (T:Tab P) (ops:Array Oper):Tr→List AV→Mem→(List AV→Mem→Prop)→Prop
 | .nil,tm,M,K=>K tm M
 | .one i t,tm,M,K=>ZMu T ops i tm M (fun tm M=>Zmo T ops t tm M K)
 | .alt t u,tm,M,K=>Zmo T ops t tm M K∧Zmo T ops u tm M K
structure Zbd where
 α:Type
 hd:α→List AV × Mem
 inv:α→Prop
 μ:α→Nat
def leL:List AC→List AC→Prop
 | [],[]=>True
 | x :: xs,y :: ys=>leC x y∧leL xs ys
 | _,_=>False
def leV:AV→AV→Prop
 | _, .any=>True
 | .w (.c x), .w (.c y)=>leC x y
 | .w (.ag x), .w (.ag y)=>leL x y
 | x,y=>x=y
def leT:List AV→List AV→Prop
 | [],[]=>True
 | x :: xs,y :: ys=>leV x y∧leT xs ys
 | _,_=>False
def leB:Blk→Blk→Prop
 | .box l, .box k=>leL l k
 | .row t xs v c none, .row t' ys v' c' none=>(v=v'∧c=c')∧∃ h:t=t',h ▸ xs=ys
 | x,y=>x=y
def leM:Mem→Mem→Prop
 | _,[]=>True
 | x :: xs,y :: ys=>leB x y∧leM xs ys
 | _,_=>False
def okC (n:Nat):AC→Bool
 | .bp i _=>Nat.blt i n
 | .row i _=>Nat.blt i n
 | .rp i _ _ _ _=>Nat.blt i n
 | .hs (.at i _ _) _ _=>Nat.blt i n
 | .ep (.at i _ _) _ _ _ _=>Nat.blt i n
 | .sl i _ _ _ _ _=>Nat.blt i n
 | .sp i _ _ _ _ _ _ _ _=>Nat.blt i n
 | .tl i _ _ _=>Nat.blt i n
 | .mp i=>Nat.blt i n
 | .fn _ l=>l.all (Nat.blt · n)
 | _=>true
def okW (n:Nat):AW→Bool
 | .c a=>okC n a
 | .ag l=>l.all (okC n)
def okV (n:Nat):AV→Bool
 | .w x=>okW n x
 | .tp l=>l.all (okW n)
 | .any=>true
def okB (n:Nat):Blk→Bool
 | .box l=>l.all (okC n)
 | .row _ _ _ _ (some _)=>false
 | _=>true
def ZDx (M:Mem):Bool:=M.all fun b=>match b with
 | .row _ _ _ _ (some _)=>false
 | _=>true
def leS (n0:Nat) (inp:List Nat) (tm:List AV) (M:Mem) (tm' : List AV) (M' : Mem) (h:List AV × Mem):Prop:=leT tm' h.1∧leM M' h.2∧((h.1.all (okV h.2.length) && h.2.all (okB h.2.length)) && (Nat.ble n0 h.2.length && (ZNy M inp && ZDx M)))=true
def ZOb (tm:List AV) (M:Mem) (p:Pro):List AV × Mem :=
 match p.b with
 | none=>bif Zmf (tm.getD p.i .any) then (tm.set p.i (.c (.row M.length 0)),M ++ [.row p.t [] 0 0 none]) else (tm,M)
 | some b=>match M[b]? with
  | some (.box l)=>bif Zml (l.getD p.i .junk) then (tm,M.set b (.box (l.set p.i (.row M.length 0))) ++ [.row p.t [] 0 0 none]) else (tm,M)
  | _=>(tm,M)
def ZMv (tm:List AV) (M:Mem):List Pro→List AV × Mem
 | []=>(tm,M)
 | p :: l=>let q:=ZOb tm M p; ZMv q.1 q.2 l
def ZEF (M:Mem) (b c k:Nat):Mem:=match M[b]? with
 | some (.box l)=>match l[c]? with
  | some (.row j v)=>bif Nat.beq j k then M else (match M[j]?,M[k]? with
   | some (.row t ys vj _ none),some (.row t' _ vk ck none)=>bif Nat.beq v vj then (if t'=t then ((Zda M [j]).set k (.row t ys (vk + 1) (ck + 1) none)).set b (.box (l.set c (.row k (vk + 1)))) else M) else M
   | _,_=>M)
  | _=>M
 | _=>M
def ZxS (M:Mem) (b:Nat):Nat→List AC→Mem
 | _,[]=>M
 | c, .row k _ :: l=>ZxS (ZEF M b c k) b (c + 1) l
 | c,_ :: l=>ZxS M b (c + 1) l
def Zqi (M:Mem):Nat→Mem→Mem
 | _,[]=>M
 | b, .box l :: h=>Zqi (ZxS M b 0 l) (b + 1) h
 | b,_ :: h=>Zqi M (b + 1) h
def Zqj (q:List AV × Mem) (i k:Nat):List AV × Mem:=match q.1[i]? with
 | some (.w (.c (.row j v)))=>bif Nat.beq j k then q else (match q.2[j]?,q.2[k]? with
  | some (.row t ys vj _ none),some (.row t' _ vk ck none)=>bif Nat.beq v vj then (if t'=t then (q.1.set i (.c (.row k (vk + 1))),(Zda q.2 [j]).set k (.row t ys (vk + 1) (ck + 1) none)) else q) else q
  | _,_=>q)
 | _=>q
def Zqk (q:List AV × Mem):Nat→List AV→List AV × Mem
 | _,[]=>q
 | i, .w (.c (.row k _)) :: h=>Zqk (Zqj q i k) (i + 1) h
 | i,_ :: h=>Zqk q (i + 1) h
def ZLS (M:Mem) (L:Lnd) (x:AC) (y:Lnd→AC):AC:=match L with
 | .no=>x
 | .at i v c=>bif Zeo M i v c then y (.at i 0 0) else .junk
def ZID (M:Mem):AC→AC
 | .row i v=>bif (Zdy M i v).isSome then .row i 0 else .junk
 | .rp i v n k o=>bif (Zdy M i v).isSome then .rp i 0 n k o else .junk
 | .hs L t xs=>ZLS M L (.hs L t xs) (fun L=>.hs L t xs)
 | .ep L t xs k o=>ZLS M L (.ep L t xs k o) (fun L=>.ep L t xs k o)
 | .sl i v c n k o=>bif Zeo M i v c then .sl i 0 0 n k o else .junk
 | .sp i v c n k o m x q=>bif Zeo M i v c then .sp i 0 0 n k o m x q else .junk
 | .tl _ _ _ _=>.junk
 | c=>c
def ZKz (M:Mem):AW→AW
 | .c a=>.c (ZID M a)
 | .ag l=>.ag (l.map (ZID M))
def Zvo (M:Mem):AV→AV
 | .w x=>.w (ZKz M x)
 | .tp l=>.tp (l.map (ZKz M))
 | .any=>.any
def Zhq (M:Mem):Blk→Blk
 | .box l=>.box (l.map (ZID M))
 | .row t xs _ _ none=>.row t xs 0 0 none
 | b=>b
def Zct (tm:List AV):List (Nat × AV)→List AV
 | []=>tm
 | p :: l=>Zct (tm.set p.1 p.2) l
def ZeP:Code→Nat
 | .region id _ _=>id
 | .seq a _=>ZeP a
 | .cond _ a _=>ZeP a
 | .block _ a=>ZeP a
 | .loop a=>ZeP a
 | .scope a=>ZeP a
 | _=>0
def ZDy (o:Oper):Bool:=match o.op with | .panic _=>true | _=>false
def Zia {P:Program} (T:Tab P) (L:Nat→List AV→Mem→Zbd):Code→List AV→Mem→(Exit→List AV→Mem→Prop)→Prop
 | .skip,tm,M,K=>K .normal tm M
 | .region _ ops draw,tm,M,K=>bif ops.toList.any ZDy then False else bif draw then (P.follows .mixedOrders=true∧okA T ops (Zh8 T ops ops.size (Array.replicate ops.size false)) false (Array.replicate ops.size false)=true)∧Zmo T ops (Zh8 T ops ops.size (Array.replicate ops.size false)) tm M (fun tm M=>K .normal tm M)
  else Znm T ops.toList ops.toList tm M (fun tm M=>K .normal tm M)
 | .seq x y,tm,M,K=>Zia T L x tm M (fun e tm M=>match e with | .normal=>Zia T L y tm M K | e=>K e tm M)
 | .cond c x y,tm,M,K=>match c with
  | .tmp t=>match tm.getD t .any with
   | .w (.c (.bool g))=>bif g then Zia T L x (tm.set t (.c (.bool true))) M K else Zia T L y (tm.set t (.c (.bool false))) M K
   | _=>False
  | .const (.bool g)=>bif g then Zia T L x tm M K else Zia T L y tm M K
  | _=>False
 | .block id x,tm,M,K=>Zia T L x tm M (fun e tm M=>match e with | .exit id'=>(bif Nat.beq id' id then K .normal tm M else K (.exit id') tm M) | e=>K e tm M)
 | .loop x,tm,M,K=>let p:=ZMv tm M (T.pro (ZeP x))
  let A:=L (ZeP x) (p.1.map (Zvo p.2)) (p.2.map (Zhq p.2))
  (∃ y,A.inv y∧leS T.n0 T.inp p.1 p.2 (p.1.map (Zvo p.2)) (p.2.map (Zhq p.2)) (A.hd y)) ∧
  ∀ y,A.inv y→Zia T L x (A.hd y).1 (A.hd y).2 (fun e tm' M'=>match e with | .normal=>∃ y',A.inv y'∧A.μ y' < A.μ y∧(let p:=Zqk (tm',Zqi M' 0 (A.hd y).2) 0 (A.hd y).1; leS T.n0 T.inp p.1 p.2 (p.1.map (Zvo p.2)) (p.2.map (Zhq p.2)) (A.hd y')) | e=>K e tm' M')
 | .exit id,tm,M,K=>K (.exit id) tm M
 | .label _,tm,M,K=>K .normal tm M
 | .ret,tm,M,K=>K .ret tm M
 | _,_,_,_=>False
def ZOc (P:Program) (tm:List AV) (M:Mem):ResultVar→Option AW
 | .tmp t=>match tm.getD t .any with
  | .w x=>some x
  | _=>none
 | .cell a t=>match tm.getD a .any with
  | .w (.c (.bp i o))=>match M[i]? with
   | some (.box l)=>match ZjJ P t l o with
    | some (.w x)=>some x
    | _=>none
   | _=>none
  | _=>none
def ZLT (P:Program) (tm:List AV) (M:Mem):List ResultVar→Option (List AW)
 | []=>some []
 | r :: l=>match ZOc P tm M r with
  | some x=>match ZLT P tm M l with
   | some xs=>some (x :: xs)
   | none=>none
  | none=>none
def ZOd:List AW→AV
 | [x]=>.w x
 | l=>.tp l
def ZMw (n:Nat) (args:List AW):List AV:=args.map .w ++ List.replicate (n - args.length) Zh9
def ZGy {P:Program} (T:Tab P) (L:Nat→List AV→Mem→Zbd) (fn:Func) (args:List AW) (M0:Mem) (Q:AV→Mem→Prop):Prop :=
 match fn.body with
 | some c=>Zia T L c (ZMw fn.ntmps args) M0 (fun e tm M=>match e with
  | .normal=>(match ZLT P tm M fn.results.toList with | some l=>Q (ZOd l) M | none=>False)
  | .ret=>(match ZLT P tm M fn.results.toList with | some l=>Q (ZOd l) M | none=>False)
  | _=>False)
 | none=>False
def ZnU (M new:Mem):AV→AV→MR
 | .w a, .w b=>Zd8 M new [] a b
 | r,res=>ZnT M new [] r res
def ZOe (res:AV) (new:Mem) (r:AV) (M:Mem):Prop:=let m:=ZnU M new r res
 m.need∧(Nat.beq m.used.length new.length && ZbQ (somes m.used))=true
section
variable {P:Program} {X:List Nat} {W:World} {E:Env} {M:Mem} {a:Act} {tm:List AV} {o:Oper}
theorem ZKA {c:AC} {L:Lnd} {q:Zhx} (h:ZgT M c=some (L,q)) (ho:ZLQ c=false):L=.no:=by
 cases c with
 | hs L' t xs =>
  cases L' with
  | no=>obtain ⟨rfl,_⟩:=Prod.mk.inj (Option.some.inj (show some (Lnd.no,(⟨t,xs,0⟩:Zhx))=some (L,q) from h)); rfl
  | «at» i v c=>cases ho
 | row i v=>cases ho
 | sl i v c n k o=>cases ho
 | _=>cases h
theorem Zvp (hM:RepM X W E M):∀ (t:Ty) {l:List AC} {x:t.den} {rest:List AC} {vs:List Value},ZiU M t l=some (x,rest)→Zcp X W E M l vs →
 ∃ cs us F,vs=cs ++ us∧rep W x cs F∧Zcp X W E M rest us∧(∀ b ∈ F,(b ∉ X∧b < W.heap.size)∧(l.any ZLQ=false→b ∉ foots E))∧(l.any ZLQ=false→rest.any ZLQ=false)
 | .int k,l,x,rest,vs,h,hr=>by
  have h:Zk1 k l=some (x,rest):=h
  unfold Zk1 at h
  split at h
  ·split at h
   ·rename_i hk
    subst hk
    exact Zzo
   ·cases h
  ·cases h
 | .bool,l,x,rest,vs,h,hr=>by
  have h:ZhW l=some (x,rest):=h
  unfold ZhW at h
  split at h
  ·obtain ⟨rfl,rfl⟩:=Prod.mk.inj (Option.some.inj h)
   obtain ⟨v,r,rfl,h1,h2⟩:=hr
   exact ⟨[v],r,[],rfl,⟨by rw [show v=_ from h1],rfl⟩,h2,by simp,fun h=>by rw [List.any_cons,Bool.or_eq_false_iff] at h; exact h.2⟩
  ·cases h
 | .opq,l,x,rest,vs,h,hr=>by
  have h:Zk3 l=some (x,rest):=h
  unfold Zk3 at h
  split at h
  ·obtain ⟨rfl,rfl⟩:=Prod.mk.inj (Option.some.inj h)
   obtain ⟨v,r,rfl,h1,h2⟩:=hr
   exact ⟨[v],r,[],rfl,⟨congrArg (fun z=>[z]) h1.1,h1.2,rfl⟩,h2,by simp,fun h=>by rw [List.any_cons,Bool.or_eq_false_iff] at h; exact h.2⟩
  ·cases h
 | .str,l,x,rest,vs,h,hr=>by
  have h:Zk2 l=some (x,rest):=h
  unfold Zk2 at h
  split at h
  ·exact Zzo
  ·cases h
 | .prod a b,l,x,rest,vs,h,hr=>by
  unfold ZiU at h
  cases ha:ZiU M a l with
  | none=>rw [ha] at h; cases h
  | some q =>
   obtain ⟨y,l1⟩:=q
   rw [ha] at h
   simp only at h
   cases hb:ZiU M b l1 with
   | none=>rw [hb] at h; cases h
   | some q =>
    obtain ⟨z,r2⟩:=q
    rw [hb] at h
    obtain ⟨rfl,rfl⟩:=Prod.mk.inj (Option.some.inj h)
    obtain ⟨c1,u1,F1,rfl,p1,p2,p3,p4⟩:=Zvp hM a ha hr
    obtain ⟨c2,u2,F2,rfl,q1,q2,q3,q4⟩:=Zvp hM b hb p2
    refine ⟨c1 ++ c2,u2,F1 ++ F2,by simp,⟨c1,c2,F1,F2,p1,q1,rfl,rfl⟩,q2,fun b hb=>?_,fun h=>q4 (p4 h)⟩
    rcases List.mem_append.1 hb with hb | hb
    ·exact p3 b hb
    ·exact ⟨(q3 b hb).1,fun h=>(q3 b hb).2 (p4 h)⟩
 | .list a,l,x,rest,vs,h,hr=>by
  have h:ZjM M a l=some (x,rest):=h
  unfold ZjM at h
  split at h
  ·obtain ⟨rfl,rfl⟩:=Prod.mk.inj (Option.some.inj h)
   obtain ⟨v,r,rfl,h1,h2⟩:=hr
   refine ⟨[v],r,[],rfl,?_,h2,by simp,fun h=>by rw [List.any_cons,Bool.or_eq_false_iff] at h; exact h.2⟩
   exact ZAt
  ·rename_i c l' _ _
   obtain ⟨v,r,rfl,h1,h2⟩:=hr
   cases hq:ZgT M c with
   | none=>rw [hq] at h; cases h
   | some q =>
    obtain ⟨L,q⟩:=q
    rw [hq] at h
    simp only at h
    split at h
    ·rename_i ht
     obtain ⟨rfl,rfl⟩:=Prod.mk.inj (Option.some.inj h)
     obtain ⟨A,cap,F,e1,e2,e3⟩:=ZiT hM hq h1
     obtain ⟨qt,qxs,qc⟩:=q
     simp only at ht e1 e2
     subst ht
     refine ⟨[v],r,F,rfl,⟨A,cap,by rw [e1],e2⟩,h2,fun b hb=>⟨e3.av hM b hb,fun ho=>?_⟩,fun h=>by rw [List.any_cons,Bool.or_eq_false_iff] at h; exact h.2⟩
     rw [List.any_cons,Bool.or_eq_false_iff] at ho
     have hno:L=.no:=ZKA hq ho.1
     subst hno
     exact (e3 b hb).1.1
    ·cases h
  ·cases h
theorem ZEG {t:Ty} {l:List AC} {x:t.den} {vs:List Value} (hM:RepM X W E M) (h:ZiU M t l=some (x,[])) (hr:Zcp X W E M l vs) :
 ∃ F,rep W x vs F∧∀ b ∈ F,(b ∉ X∧b < W.heap.size)∧(l.any ZLQ=false→b ∉ foots E):=by
 obtain ⟨cs,us,F,rfl,h1,h2,h3,_⟩:=Zvp hM t h hr
 obtain rfl:us=[]:=h2
 rw [List.append_nil]
 exact ⟨F,h1,h3⟩
theorem Zkp {X' : List Nat} {t:Ty} {l:List AC} {x:t.den} {vs:List Value} (hM:RepM X W E M) (hX:∀ b,b ∈ X'→b ∈ X∨(b ∈ foots E∧l.any ZLQ=false)) (h:ZiU M t l=some (x,[])) (hr:Zcp X W E M l vs):Zcp X' W [] [] (cellsOf t x) vs:=by
 obtain ⟨F,h1,h2⟩:=ZEG hM h hr
 exact ZdB (L:=.no) t h1 (fun b hb=>⟨⟨by simp [foots],fun hx=>(hX b hx).elim (h2 b hb).1.1 (fun k=>(h2 b hb).2 k.2 k.1)⟩,(h2 b hb).1.2⟩)
theorem Zkq {t:Ty} {b o:Nat} {x:t.den} {cs:List Value} {F:List Nat} (h1:rep W x cs F) (h2:ZdX W b o cs):ZcV W b o [x] F:=⟨cs,F,[],h1,h2,rfl,by simp⟩
theorem Zql {b:Nat} {cs:Array Value} {T:TypeId} (hg:W.heap[b]?=some (.cells cs T (0,0))):ZdX W b 0 cs.toList:=fun j u hj=>by
 rw [Nat.zero_add,cell_of_row W b j cs T (0,0) hg,frozen_of_row W b j cs T hg]
 exact ⟨by simpa using hj,rfl⟩
theorem Zvq {X' : List Nat}:∀ (t:Ty) {l:List AC} {x:t.den} {rest:List AC} {vs:List Value},ZKr t l=some (x,rest)→Zcp X W E M l vs →
 ∃ cs us,vs=cs ++ us∧Zcp X' W [] [] (Zk0 t x) cs∧Zcp X W E M rest us
 | .int k,l,x,rest,vs,h,hr=>by
  have h:Zk1 k l=some (x,rest):=h
  unfold Zk1 at h
  split at h
  ·split at h
   ·rename_i e
    subst e
    exact Zza
   ·cases h
  ·cases h
 | .bool,l,x,rest,vs,h,hr=>by
  have h:ZhW l=some (x,rest):=h
  unfold ZhW at h
  exact ZrE
 | .opq,l,x,rest,vs,h,hr=>by
  have h:Zk3 l=some (x,rest):=h
  unfold Zk3 at h
  exact ZrE
 | .str,l,x,rest,vs,h,hr=>by
  have h:Zk2 l=some (x,rest):=h
  unfold Zk2 at h
  exact ZrE
 | .prod a b,l,x,rest,vs,h,hr=>by
  unfold ZKr at h
  cases ha:ZKr a l with
  | none=>rw [ha] at h; cases h
  | some q =>
   obtain ⟨y,l1⟩:=q
   rw [ha] at h
   simp only at h
   cases hb:ZKr b l1 with
   | none=>rw [hb] at h; cases h
   | some q =>
    obtain ⟨z,r2⟩:=q
    rw [hb] at h
    obtain ⟨rfl,rfl⟩:=Prod.mk.inj (Option.some.inj h)
    obtain ⟨c1,u1,rfl,p1,p2⟩:=Zvq (X':=X') a ha hr
    obtain ⟨c2,u2,rfl,q1,q2⟩:=Zvq (X':=X') b hb p2
    exact ⟨c1 ++ c2,u2,by simp,Zcp.append p1 q1,q2⟩
 | .list a,[],_,_,_,h,_=>by cases h
 | .list a,c :: l,x,rest,vs,h,hr=>by
  obtain ⟨rfl,rfl⟩:=Prod.mk.inj (Option.some.inj h)
  obtain ⟨v,r,rfl,h1,h2⟩:=hr
  exact ⟨[v],r,rfl,⟨v,[],rfl,Zb3.one h1,rfl⟩,h2⟩
theorem ZEH {X' : List Nat} {t:Ty} {l:List AC} {d:t.den} {v:Value} (h:(bif l.any slC then (match ZKr t l with | some (x,[])=>some x | _=>none) else none)=some d) (hr:Zc5 X W E M (.w (.ag l)) v) :
 ZkN X' W [] [] (.ag (Zk0 t d)) v:=by
 cases hs:l.any slC with
 | false=>rw [hs] at h; cases h
 | true =>
  rw [hs] at h
  simp only [cond_true] at h
  split at h
  ·rename_i z hz
   obtain rfl:z=d:=Option.some.inj h
   obtain ⟨cs,e,h2⟩:=(hr:∃ cs,v=.agg cs.toArray∧Zcp X W E M l cs)
   obtain ⟨c1,us,rfl,h3,h4⟩:=Zvq (X':=X') t hz h2
   obtain rfl:us=[]:=h4
   rw [List.append_nil] at e
   exact ⟨c1,e,h3⟩
  ·cases h
theorem ZxT {X' : List Nat} {y:ATy} {x:AV} {d:y.ty.den} {v:Value} (hM:RepM X W E M) (hX:∀ b,b ∈ X'→b ∈ X∨(b ∈ foots E∧(match y with | .p _=>False | _=>True)∧ZIB x=false)) (h:ZjN M y x=some d) (hr:Zc5 X W E M x v) :
 ZkN X' W [] [] (Zow y d) v:=by
 unfold ZjN at h
 split at h
 ·rename_i t c
  split at h
  ·rename_i z hz
   obtain rfl:z=d:=Option.some.inj h
   have h1:=Zkp (X':=X') hM (fun b hb=>(hX b hb).imp id (fun k=>⟨k.1,by rw [List.any_cons,List.any_nil,Bool.or_false]; exact k.2.2⟩)) hz (⟨v,[],rfl,hr,rfl⟩:Zcp X W E M [c] [v])
   show Zb3 X' W [] [] (enc1 t z) v
   unfold enc1
   have hl:=h1.len
   cases hc:cellsOf t z with
   | nil=>rw [hc] at hl; simp at hl
   | cons q qs =>
    rw [hc] at h1
    obtain ⟨v',r,e,q1,_⟩:=h1
    simp at e
    rw [e.1]
    exact q1
  ·cases h
 ·rename_i t l
  split at h
  ·rename_i z hz
   obtain rfl:z=d:=Option.some.inj h
   obtain ⟨cs,e,h2⟩:=(hr:∃ cs,v=.agg cs.toArray∧Zcp X W E M l cs)
   exact ⟨cs,e,Zkp hM (fun b hb=>(hX b hb).imp id (fun k=>⟨k.1,k.2.2⟩)) hz h2⟩
  ·cases h
 ·rename_i t i
  split at h
  ·rename_i l hb
   split at h
   ·rename_i z hz
    obtain rfl:z=d:=Option.some.inj h
    obtain ⟨e,he,hv⟩:=(hr:Zjo E i v 0)
    obtain ⟨hf,cs,T,hg,hl⟩:=hM.at_ i _ e hb he
    obtain ⟨F,h1,h2⟩:=ZEG hM hz hl
    have hX' : ∀ b ∈ X',b ∈ X:=fun b hb=>(hX b hb).elim id (fun h=>h.2.1.elim)
    have hblk:e.blk ∈ foots E:=Zbb.2 ⟨e,List.mem_of_getElem? he,by simp [hf]⟩
    refine ⟨by rw [hv]; rfl,e.blk :: F,⟨e.blk,0,F,rfl,by rw [hv]; simp,by simp,Zkq h1 (Zql hg)⟩,fun g hg'=>⟨⟨by simp [foots],fun hx=>?_⟩,?_⟩⟩
    ·rcases List.mem_cons.1 hg' with rfl | hg'
     ·exact hM.xlt _ (hX' _ hx) hblk
     ·exact (h2 g hg').1.1 (hX' g hx)
    ·rcases List.mem_cons.1 hg' with rfl | hg'
     ·exact hM.lt _ hblk
     ·exact (h2 g hg').1.2
   ·cases h
  ·cases h
 ·rename_i t L t' xs k
  cases hL:ZeK M L with
  | false=>rw [hL] at h; cases h
  | true =>
   rw [hL] at h
   simp only [cond_true] at h
   split at h
   ·rename_i ht
    subst ht
    obtain rfl:nth t' xs k=d:=Option.some.inj h
    obtain ⟨b,off,cs,Gk,e,h1,h2,h3⟩:=ZMo hL hr
    obtain ⟨F,⟨b',off',G',rfl,e',hk,hr'⟩,hF⟩:=Zh6 hL (hr:Zb3 X W E M (.ep L t' xs k 0) v).2
    have hX' : ∀ b ∈ X',b ∈ X:=fun b hb=>(hX b hb).elim id (fun h=>h.2.1.elim)
    have hav:=hF.av hM
    have hav2:=h2.av hM
    have hbb:b=b'∧off + k * t'.n=off' + k * t'.n:=by
     exact ZzL
    refine ⟨Zb3.one (show Zb3 X W E M (.ep L t' xs k 0) v from hr),b :: Gk,⟨b,off + k * t'.n,Gk,rfl,by rw [e]; simp,by simp,Zkq h1 h3⟩,fun g hg=>?_⟩
    rcases List.mem_cons.1 hg with rfl | hg
    ·have:=hav b' (by simp)
     rw [← hbb.1] at this
     exact ⟨⟨by simp [foots],fun hx=>this.1 (hX' _ hx)⟩,this.2⟩
    ·exact ⟨⟨by simp [foots],fun hx=>(hav2 g hg).1 (hX' g hx)⟩,(hav2 g hg).2⟩
   ·cases h
 ·exact ZEH h hr
 ·cases h
theorem Zmp {X' : List Nat} (hM:RepM X W E M):∀ {l:List ATy} {xs:List AV} {d:AD l} {vs:List Value},(∀ b,b ∈ X'→b ∈ X∨(b ∈ foots E∧ZLP l=false∧xs.any ZIB=false))→Zkn M l xs=some d→Zcu X W E M xs vs→Zd2 X' W [] [] (ZM0 l d) vs
 | [],[],_,_,_,_,hr=>hr
 | [],_ :: _,_,_,_,h,_=>by simp [Zkn] at h
 | _ :: _,[],_,_,_,h,_=>by simp [Zkn] at h
 | y :: l,x :: xs,d,vs,hX,h,⟨v,r,e,h1,h2⟩=>by
  unfold Zkn at h
  cases hq:ZjN M y x with
  | none=>rw [hq] at h; cases h
  | some z =>
   rw [hq] at h
   simp only at h
   cases hz:Zkn M l xs with
   | none=>rw [hz] at h; cases h
   | some ys =>
    rw [hz] at h
    obtain rfl:(z,ys)=d:=Option.some.inj h
    refine ⟨v,r,e,ZxT hM (fun b hb=>(hX b hb).imp id (fun h=>⟨h.1,?_,?_⟩)) hq h1,Zmp hM (fun b hb=>(hX b hb).imp id (fun h=>⟨h.1,?_,?_⟩)) hz h2⟩
    ·cases y <;> first | trivial | (simp [ZLP] at h)
    ·have:=h.2.2; rw [List.any_cons,Bool.or_eq_false_iff] at this; exact this.1
    ·cases y <;> first | (simpa [ZLP] using h.2.1) | (simp [ZLP] at h)
    ·have:=h.2.2; rw [List.any_cons,Bool.or_eq_false_iff] at this; exact this.2
theorem ZxU {X' : List Nat} {W' : World} {E' : Env} {M' : Mem} {c:AC} {v:Value} (h:Zsv c=true) (hr:Zb3 X W E M c v):Zb3 X' W' E' M' c v:=by
 cases c <;> first | exact hr | cases h
theorem ZxV {X' : List Nat} {W' : World} {E' : Env} {M' : Mem}:∀ {l:List AC} {vs:List Value},l.all Zsv=true→Zcp X W E M l vs→Zcp X' W' E' M' l vs
 | [],_,_,h=>h
 | _ :: _,_,h,⟨v,r,e,h1,h2⟩=>by
  rw [List.all_cons,Bool.and_eq_true] at h
  exact ⟨v,r,e,ZxU h.1 h1,ZxV h.2 h2⟩
theorem ZxW {X' : List Nat} {W' : World} {E' : Env} {M' : Mem} {x:AW} {v:Value} (h:ZKu x=true) (hr:ZkN X W E M x v):ZkN X' W' E' M' x v:=by
 cases x with
 | c a=>exact ZxU h hr
 | ag l=>obtain ⟨cs,e,h2⟩:=hr; exact ⟨cs,e,ZxV h h2⟩
theorem ZsT {X' : List Nat} {W' : World} {E' : Env} {M' : Mem}:∀ {l:List AW} {vs:List Value},l.all ZKu=true→Zd2 X W E M l vs→Zd2 X' W' E' M' l vs
 | [],_,_,h=>h
 | _ :: _,_,h,⟨v,r,e,h1,h2⟩=>by
  rw [List.all_cons,Bool.and_eq_true] at h
  exact ⟨v,r,e,ZxW h.1 h1,ZsT h.2 h2⟩
theorem Zqm {X' : List Nat} {W' : World} {E' : Env} {M' : Mem} {x:AV} {v:Value} (h:ZNF x=true) (hr:Zc5 X W E M x v):Zc5 X' W' E' M' x v:=by
 cases x with
 | w x=>exact ZxW h hr
 | tp l=>obtain ⟨vs,e,h2⟩:=hr; exact ⟨vs,e,ZsT h h2⟩
 | any=>trivial
end
section
variable {X:List Nat} {W W' : World} {E E' : Env} {M N:Mem}
theorem Zqn (hl:M.length=E.length) {i q:Nat} {v:Value} (h:Zjo E' i v q):Zjo (E ++ E') (i + M.length) v q:=by
 obtain ⟨e,h1,h2⟩:=h
 exact ⟨e,by rw [hl,Nat.add_comm,List.getElem?_append_right (by omega),Nat.add_sub_cancel_left]; exact h1,h2⟩
theorem ZnV (hl:M.length=E.length):∀ {is:List Nat} {vs:List Value},Zem E' is vs→Zem (E ++ E') (is.map (· + M.length)) vs
 | [],_,h=>h
 | _ :: _,_,⟨v,r,e,h1,h2⟩=>⟨v,r,e,Zqn hl h1,ZnV hl h2⟩
theorem Zg0 (hl:M.length=E.length) (i:Nat):(M ++ N)[i + M.length]?=N[i]?∧(E ++ E')[i + M.length]?=E'[i]? :=
 ⟨by rw [Nat.add_comm,List.getElem?_append_right (by omega),Nat.add_sub_cancel_left],by rw [hl,Nat.add_comm,List.getElem?_append_right (by omega),Nat.add_sub_cancel_left]⟩
theorem Zqo {X' : List Nat} {Q:List Nat→Prop} (hl:M.length=E.length) (hX:∀ b ∈ X,b ∈ X') (hc:∀ b ∈ foots E,b ∈ X'):∀ {L:Lnd},Zmd X' W' E' N L Q→Zmd X W' (E ++ E') (M ++ N) (ZIy M.length L) Q
 | .no,⟨F,h1,h2⟩=>⟨F,h1,fun b hb=>by
  have:=h2 b hb
  rw [ZbL,List.mem_append]
  exact ⟨⟨fun h=>h.elim (fun h=>this.1.2 (hc b h)) this.1.1,fun h=>this.1.2 (hX b h)⟩,this.2⟩⟩
 | .at i v c,h=>by
  have h:Zen E' N i v c Q:=h
  show Zen (E ++ E') (M ++ N) (i + M.length) v c Q
  unfold Zen at h ⊢
  rw [(Zg0 (E':=E') hl i).1,(Zg0 (N:=N) hl i).2]
  exact h
theorem Zqp (hl:M.length=E.length) {i ver c n k o:Nat} {u:Value} (h:Zng W' E' N i ver c n k o u):Zng W' (E ++ E') (M ++ N) (i + M.length) ver c n k o u:=by
 obtain ⟨b,h1,h2⟩:=h
 refine ⟨b,?_,?_⟩
 ·unfold Zcz at h1 ⊢
  rw [(Zg0 (E':=E') hl i).1,(Zg0 (N:=N) hl i).2]
  exact h1
 ·unfold Zen at h2 ⊢
  exact ZAH
theorem ZsU {X' : List Nat} (hl:M.length=E.length) (hX:∀ b ∈ X,b ∈ X'):∀ {c:AC} {v:Value},(ZM1 c=true∨∀ b ∈ foots E,b ∈ X')→Zb3 X' W' E' N c v→Zb3 X W' (E ++ E') (M ++ N) (ZsR M.length c) v
 | .int _ _,_,_,h=>h
 | .bool _,_,_,h=>h
 | .str _,_,_,h=>h
 | .opq _,_,_,h=>h
 | .hs L t xs,v,hc,h=>⟨h.1,Zqo hl hX (hc.resolve_left (by simp [ZM1])) h.2⟩
 | .bp _ _,_,_,h=>Zqn hl h
 | .ep L t xs k o,v,hc,h=>⟨h.1,Zqo hl hX (hc.resolve_left (by simp [ZM1])) h.2⟩
 | .row i ver,v,_,h=>by
  exact Zrr
 | .rp i ver n k o,v,_,h=>by
  exact Zrr
 | .sl i ver c n k o,v,_,h=>⟨h.1,Zqp hl h.2⟩
 | .sp i ver c n k o m x q,v,_,⟨h0,b,l,cap,h1,h2⟩=>⟨h0,b,l,cap,Zqp hl h1,h2⟩
 | .tl i ver n k,v,_,h=>by
  exact Zrr
 | .mp i,v,_,⟨e,h1,h2⟩=>⟨e,by rw [(Zg0 (N:=N) hl i).2]; exact h1,h2⟩
 | .fn f caps,v,_,⟨vs,e,h⟩=>⟨vs,e,ZnV hl h⟩
 | .raw _,_,_,h=>h
 | .junk,_,_,h=>h
theorem Znn {X' : List Nat} (hl:M.length=E.length) (hX:∀ b ∈ X,b ∈ X'):∀ {l:List AC} {vs:List Value},(l.all ZM1=true∨∀ b ∈ foots E,b ∈ X')→Zcp X' W' E' N l vs→Zcp X W' (E ++ E') (M ++ N) (l.map (ZsR M.length)) vs
 | [],_,_,h=>h
 | _ :: _,_,hc,⟨v,r,e,h1,h2⟩=>⟨v,r,e,ZsU hl hX (hc.imp (fun h=>by rw [List.all_cons,Bool.and_eq_true] at h; exact h.1) id) h1,Znn hl hX (hc.imp (fun h=>by rw [List.all_cons,Bool.and_eq_true] at h; exact h.2) id) h2⟩
theorem ZsV {X' : List Nat} (hl:M.length=E.length) (hX:∀ b ∈ X,b ∈ X'):∀ {x:AW} {v:Value},(ZN7 x=true∨∀ b ∈ foots E,b ∈ X')→ZkN X' W' E' N x v→ZkN X W' (E ++ E') (M ++ N) (ZED M.length x) v
 | .c _,_,hc,h=>ZsU hl hX hc h
 | .ag _,_,hc,⟨cs,e,h⟩=>⟨cs,e,Znn hl hX hc h⟩
theorem Zqq {X' : List Nat} (hl:M.length=E.length) (hX:∀ b ∈ X,b ∈ X'):∀ {l:List AW} {vs:List Value},(l.all ZN7=true∨∀ b ∈ foots E,b ∈ X')→Zd2 X' W' E' N l vs→Zd2 X W' (E ++ E') (M ++ N) (l.map (ZED M.length)) vs
 | [],_,_,h=>h
 | _ :: _,_,hc,⟨v,r,e,h1,h2⟩=>⟨v,r,e,ZsV hl hX (hc.imp (fun h=>by rw [List.all_cons,Bool.and_eq_true] at h; exact h.1) id) h1,Zqq hl hX (hc.imp (fun h=>by rw [List.all_cons,Bool.and_eq_true] at h; exact h.2) id) h2⟩
theorem ZsW {X' : List Nat} (hl:M.length=E.length) (hX:∀ b ∈ X,b ∈ X') {x:AV} {v:Value} (hc:ZO7 x=true∨∀ b ∈ foots E,b ∈ X') (h:Zc5 X' W' E' N x v):Zc5 X W' (E ++ E') (M ++ N) (ZIz M.length x) v:=by
 cases x with
 | w x=>exact ZsV hl hX hc h
 | tp l=>obtain ⟨vs,e,h⟩:=h; exact ⟨vs,e,Zqq hl hX hc h⟩
 | any=>trivial
theorem Zqr (g:ZbU W [] W' E') (hM:RepM X W E M):ZbU W E W' (E ++ E') where
 os:=g.os
 tape:=g.tape
 output:=g.output
 size:=g.size
 keep b hb _:=g.keep b hb (by simp [foots])
 new b hb:=by
  rw [ZbL,List.mem_append] at hb
  exact hb.elim .inl (fun h=>.inr ((g.new b h).elim (fun h=>by simp [foots] at h) id))
 blk i e he:=⟨e,by rw [List.getElem?_append_left (List.getElem?_eq_some_iff.1 he).1]; exact he,rfl⟩
theorem ZsX {n:Nat}:∀ {l:List AC},l.all ZN8=true→l.map (ZsR n)=l
 | [],_=>rfl
 | c :: l,h=>by
  rw [List.all_cons,Bool.and_eq_true] at h
  rw [List.map_cons,ZsX h.2]
  have:ZsR n c=c:=by
   cases c <;> first | rfl | skip
   case hs L t xs=>cases L <;> first | rfl | exact absurd h.1 (by simp [ZN8,Zsv])
   all_goals exact absurd h.1 (by simp [ZN8,Zsv])
  rw [this]
theorem ZxX {X' : List Nat} (g:ZbU W [] W' E') (hX:∀ b ∈ X,b ∈ X') (hM:RepM X W E M) (hN:RepM X' W' E' N) (hrow:N.all ZO8=true∨N.all ZO9=true∧∀ b ∈ foots E,b ∈ X'):Zbq W E M W' (E ++ E') (M ++ N)∧RepM X W' (E ++ E') (M ++ N):=by
 have hg:=Zqr g hM
 have hkeep:∀ b ∈ foots E,W'.heap[b]?=W.heap[b]?:=fun b hb=>g.keep b (hM.lt b hb) (by simp [foots])
 have hm:Zbq W E M W' (E ++ E') (M ++ N):=ZfH (W:=W) (W':=W') ⟨g.os,g.tape,g.output,g.size,fun b hb _=>g.keep b hb (by simp [foots]),fun b hb=>.inl hb,fun _ e h=>⟨e,h,rfl⟩⟩ hM hkeep N E'
 refine ⟨hm,⟨by simp [hM.len,hN.len],ZgV hM.nodup hN.nodup hM.lt (fun b hb=>(g.new b hb).elim (fun h=>by simp [foots] at h) id),fun i b e hb he=>?_,fun b hb=>?_,fun b hb hf=>?_,fun b hb=>Nat.lt_of_lt_of_le (hM.xsz b hb) g.size⟩⟩
 ·by_cases hi:i < M.length
  ·rw [List.getElem?_append_left hi] at hb
   rw [List.getElem?_append_left (by rw [← hM.len]; exact hi)] at he
   exact (hM.at_ i b e hb he).keep hg hm hM.len (fun q hq=>hkeep q (Zbb.2 ⟨e,List.mem_of_getElem? he,hq⟩))
  ·rw [List.getElem?_append_right (by omega)] at hb
   rw [List.getElem?_append_right (by rw [← hM.len]; omega),← hM.len] at he
   have h1:=hN.at_ _ b e hb he
   rcases hrow with hrow | ⟨hrow,hE⟩
   ·have hr:=List.all_eq_true.1 hrow b (List.mem_of_getElem? hb)
    cases b with
    | row t xs v c hh =>
     cases hh with
     | none=>exact h1
     | some _=>cases hr
    | box l=>cases hr
    | mp _=>cases hr
    | dead=>cases hr
   ·have hr:=List.all_eq_true.1 hrow b (List.mem_of_getElem? hb)
    cases b with
    | row t xs v c hh =>
     cases hh with
     | none=>exact h1
     | some _=>cases hr
    | box l =>
     obtain ⟨hf,cs,T,hw,hl⟩:=h1
     refine ⟨hf,cs,T,hw,?_⟩
     have:=Znn (M:=M) (E:=E) hM.len hX (.inr hE) hl
     rwa [ZsX hr] at this
    | mp _=>cases hr
    | dead=>cases hr
 ·rw [ZbL,List.mem_append] at hb
  exact hb.elim (fun h=>Nat.lt_of_lt_of_le (hM.lt b h) g.size) (hN.lt b)
 ·rw [ZbL,List.mem_append] at hf
  exact hf.elim (hM.xlt b hb) (hN.xlt b (hX b hb))
end
section
variable {P:Program} {X:List Nat} {W:World} {E:Env} {M:Mem} {a:Act} {tm:List AV} {o:Oper} {T:Tab P}
def ZKB (X:List Nat) (P:Program) (o:Oper) (a:Act) (W:World) (E:Env) (M:Mem) (v:AV) (M' : Mem):Prop :=
 ∀ (next:Act→World→Prop) (Q:Exit→Act→World→Prop),(∀ u W' E',ZbU W E W' E'→Zbq W E M W' E' M'→RepM X W' E' M'→Zc5 X W' E' M' v u→next (a.put o.dst u) W')→o.wp P a W next Q
theorem Ze2.toW {v:AV} {M' : Mem} (h:Ze2 X P o a W E M v M'):ZKB X P o a W E M v M':=fun next Q hK=>by
 obtain ⟨u,W',E',h1,g,m,r,hv⟩:=h
 unfold Oper.wp
 rcases h1 with h1 | ⟨h1,rfl⟩
 ·rw [h1]; exact hK _ _ _ g m r hv
 ·rw [h1]; exact hK _ _ _ g m r hv
theorem ZIE {fn:Operand} {args:Array Operand} {ts:Array TypeId} {f:FuncId} {caps:Array Value} (ho:o.op=.call ⟨.value fn,args,ts⟩) (hf:a.eval fn=.func (.func f) #[] caps)
 (hent:∀ args w,(callFunc f args).run P w=.ok (.enter f args) w):(execOp a.eval o).run P W=.ok (.enter f (args.map a.eval ++ caps)) W:=by
 unfold execOp
 simp only [ho,resolve,hf,Deferred.ofValue,Sem.run_bind,Sem.run_pure,Result.andThen_ok,invoke,Array.empty_append,hent]
theorem ZsY {fn:Operand} {args:Array Operand} {ts:Array TypeId} {f:FuncId} {caps:List Value} {v:AV} {M' : Mem} (ho:o.op=.call ⟨.value fn,args,ts⟩) (hf:a.eval fn=.func (.func f) #[] caps.toArray)
 (hent:∀ args w,(callFunc f args).run P w=.ok (.enter f args) w)
 (hc:Calls P f (args.toList.map a.eval ++ caps).toArray W (fun e W'=>∃ u E',e=.returned u∧ZbU W E W' E'∧Zbq W E M W' E' M'∧RepM X W' E' M'∧Zc5 X W' E' M' v u)):ZKB X P o a W E M v M':=fun next Q hK=>by
 unfold Oper.wp
 rw [ZIE ho hf hent,Oper.upon_enter]
 have e1:args.map a.eval ++ caps.toArray=(args.toList.map a.eval ++ caps).toArray:=by
  rw [← List.append_toArray,← Array.toList_map]
 rw [e1]
 refine hc.mono fun e W' h=>?_
 obtain ⟨u,E',rfl,g,m,r,hv⟩:=h
 exact hK u W' E' g m r hv
theorem ZoL {f:FuncId}:∀ {l:List (ZaE P)} {e:ZaE P},Zvj f l=some e→e.f=f
 | [],_,h=>by cases h
 | d :: l,e,h=>by
  unfold Zvj at h
  cases hb:Nat.beq d.f f with
  | true=>rw [hb] at h; obtain rfl:=Option.some.inj h; exact Nat.eq_of_beq_eq_true hb
  | false=>rw [hb] at h; exact ZoL h
theorem Zvr {f:FuncId}:∀ {l:List (Zhy P)} {e:Zhy P},ZGw f l=some e→e.f=f
 | [],_,h=>by cases h
 | d :: l,e,h=>by
  unfold ZGw at h
  cases hb:Nat.beq d.f f with
  | true=>rw [hb] at h; obtain rfl:=Option.some.inj h; exact Nat.eq_of_beq_eq_true hb
  | false=>rw [hb] at h; exact Zvr h
theorem ZxY {f:FuncId}:∀ {l:List (ZjR P)} {e:ZjR P},ZsS f l=some e→e.f=f
 | [],_,h=>by cases h
 | d :: l,e,h=>by
  unfold ZsS at h
  cases hb:Nat.beq d.f f with
  | true=>rw [hb] at h; obtain rfl:=Option.some.inj h; exact Nat.eq_of_beq_eq_true hb
  | false=>rw [hb] at h; exact ZxY h
theorem ZIF:∀ {ids:List Nat} {vs:List Value},Zem E ids vs→Zcu X W E M (ids.map (fun i=>.c (.bp i 0))) vs
 | [],_,h=>h
 | _ :: _,_,⟨v,r,e,h1,h2⟩=>⟨v,r,e,h1,ZIF h2⟩
theorem Zcu.append:∀ {l k:List AV} {vs us:List Value},Zcu X W E M l vs→Zcu X W E M k us→Zcu X W E M (l ++ k) (vs ++ us)
 | [],_,_,_,h,h2=>by rw [show _=_ from h]; exact h2
 | _ :: _,_,_,_,⟨v,r,e,h1,h3⟩,h2=>by rw [e]; exact ⟨v,_,rfl,h1,Zcu.append h3 h2⟩
def ZNI:AC→Bool
 | .raw _=>true
 | .bp _ _=>true
 | .ep _ _ _ _ _=>true
 | .row _ _=>true
 | .rp _ _ _ _ _=>true
 | .sl _ _ _ _ _ _=>true
 | .sp _ _ _ _ _ _ _ _ _=>true
 | .tl _ _ _ _=>true
 | .mp _=>true
 | .junk=>true
 | .hs (.at _ _ _) _ _=>true
 | .fn _ _=>true
 | _=>false
theorem Zg1:∀ (t:Ty) (x:t.den),∀ c ∈ cellsOf t x,ZNI c=false
 | .int _,_,c,h=>by obtain rfl:=List.mem_singleton.1 h; rfl
 | .bool,_,c,h=>by obtain rfl:=List.mem_singleton.1 h; rfl
 | .str,_,c,h=>by obtain rfl:=List.mem_singleton.1 h; rfl
 | .opq,_,c,h=>by obtain rfl:=List.mem_singleton.1 h; rfl
 | .prod a b,x,c,h=>(List.mem_append.1 h).elim (Zg1 a _ c) (Zg1 b _ c)
 | .list _,_,c,h=>by obtain rfl:=List.mem_singleton.1 h; rfl
theorem Zqs:∀ (t:Ty) {l:List AC} {x:t.den} {rest:List AC},(∀ c ∈ l,ZNI c=false)→ZiU M t l=some (x,rest)→l=cellsOf t x ++ rest
 | .int k,l,x,rest,hl,h=>by
  have h:Zk1 k l=some (x,rest):=h
  unfold Zk1 at h
  split at h
  ·split at h
   ·rename_i hk
    subst hk
    exact Zrv
   ·cases h
  ·cases h
 | .bool,l,x,rest,hl,h=>by
  have h:ZhW l=some (x,rest):=h
  unfold ZhW at h
  exact ZrF
 | .opq,l,x,rest,hl,h=>by
  have h:Zk3 l=some (x,rest):=h
  unfold Zk3 at h
  exact ZrF
 | .str,l,x,rest,hl,h=>by
  have h:Zk2 l=some (x,rest):=h
  unfold Zk2 at h
  exact ZrF
 | .prod a b,l,x,rest,hl,h=>by
  unfold ZiU at h
  cases ha:ZiU M a l with
  | none=>rw [ha] at h; cases h
  | some q =>
   obtain ⟨y,l1⟩:=q
   rw [ha] at h
   simp only at h
   cases hb:ZiU M b l1 with
   | none=>rw [hb] at h; cases h
   | some q =>
    obtain ⟨z,r2⟩:=q
    rw [hb] at h
    obtain ⟨rfl,rfl⟩:=Prod.mk.inj (Option.some.inj h)
    have h1:=Zqs a hl ha
    have h2:=Zqs b (fun c hc=>hl c (by rw [h1]; simp [hc])) hb
    rw [h1,h2]
    show _=(cellsOf a y ++ cellsOf b z) ++ r2
    rw [List.append_assoc]
 | .list a,l,x,rest,hl,h=>by
  have h:ZjM M a l=some (x,rest):=h
  cases l with
  | nil=>cases h
  | cons c l =>
   have hc:=hl c List.mem_cons_self
   cases c with
   | hs L t xs =>
    cases L with
    | no =>
     have h:(if h:t=a then some (h ▸ xs,l) else none)=some (x,rest):=h
     split at h
     ·rename_i hk
      subst hk
      exact Zrv
     ·cases h
    | «at» i v c=>cases hc
   | int k x=>cases h
   | bool b=>cases h
   | str s=>cases h
   | opq s=>cases h
   | bp i o=>cases h
   | fn f l=>cases hc
   | raw v=>cases hc
   | _=>cases hc
theorem Zvs {t:Ty} {x:t.den}:ZNI (enc1 t x)=false:=by
 unfold enc1
 have h:=Zg1 t x
 cases hc:cellsOf t x with
 | nil=>rfl
 | cons c l=>rw [hc] at h; exact h c List.mem_cons_self
theorem Zno:∀ (t:Ty) (x:t.den),(cellsOf t x).any slC=false
 | .int _,_=>rfl
 | .bool,_=>rfl
 | .str,_=>rfl
 | .opq,_=>rfl
 | .prod a b,x=>by
  show (cellsOf a x.1 ++ cellsOf b x.2).any slC=false
  rw [List.any_append,Zno a,Zno b]
  rfl
 | .list _,_=>rfl
theorem ZoM {agg:Bool} {t:Ty} {x:t.den} {y:ATy} {d:y.ty.den} (h:ZjN M y (Zd9 agg t x)=some d):Zd9 agg t x=.w (Zow y d):=by
 cases agg with
 | true =>
  have he:Zd9 true t x=.w (.ag (cellsOf t x)):=rfl
  rw [he] at h ⊢
  cases y with
  | v t'=>cases h
  | p t'=>cases h
  | q t' =>
   exact ZzA
  | s t' =>
   have h:(match ZiU M t' (cellsOf t x) with | some (x,[])=>some x | _=>none)=some d:=h
   split at h
   ·rename_i z hz
    obtain rfl:=Option.some.inj h
    have:=Zqs t' (Zg1 t x) hz
    rw [List.append_nil] at this
    rw [this]
    rfl
   ·cases h
 | false =>
  have he:Zd9 false t x=.w (.c (enc1 t x)):=rfl
  have hr:=Zvs (t:=t) (x:=x)
  rw [he] at h ⊢
  cases y with
  | s t'=>cases h
  | q t'=>cases h
  | p t' =>
   revert h hr
   generalize enc1 t x=c
   intro hr h
   cases c <;> first | (simp [ZNI] at hr; done) | (simp [ZjN] at h; done)
  | v t' =>
   have h:(match ZiU M t' [enc1 t x] with | some (x,[])=>some x | _=>none)=some d:=h
   split at h
   ·rename_i z hz
    obtain rfl:=Option.some.inj h
    have:=Zqs t' (fun c hc=>by obtain rfl:=List.mem_singleton.1 hc; exact hr) hz
    rw [List.append_nil] at this
    show _=AV.w (.c (enc1 t' z))
    unfold enc1 at this ⊢
    rw [← this]
    rfl
   ·cases h
theorem ZIG {i:Nat}:∀ t:Ty,ZiU M t [.bp i 0]=none
 | .int _=>rfl
 | .bool=>rfl
 | .str=>rfl
 | .opq=>rfl
 | .prod a b=>by unfold ZiU; rw [ZIG a]
 | .list _=>rfl
def ZGz:(l:List ATy)→AD l→List CV
 | [],_=>[]
 | a :: l,d=>⟨a.ty,d.1⟩ :: ZGz l d.2
theorem Zqt (hM:RepM X W E M):∀ {l:List ATy} {ids:List Nat} {d:AD l} {vs:List Value},Zkn M l (ids.map (fun i=>.c (.bp i 0)))=some d→Zem E ids vs →
 ZM0 l d=(ZGz l d).map CV.arg∧ZIA X W (ZGz l d) vs
 | [],[],_,_,_,h=>⟨rfl,h⟩
 | [],_ :: _,_,_,h,_=>by simp [Zkn] at h
 | _ :: _,[],_,_,h,_=>by simp [Zkn] at h
 | y :: l,i :: ids,d,vs,h,⟨v,r,e,h1,h2⟩=>by
  rw [List.map_cons] at h
  unfold Zkn at h
  cases hq:ZjN M y (.c (.bp i 0)) with
  | none=>rw [hq] at h; cases h
  | some z =>
   rw [hq] at h
   simp only at h
   cases hz:Zkn M l (ids.map (fun i=>.c (.bp i 0))) with
   | none=>rw [hz] at h; cases h
   | some ys =>
    rw [hz] at h
    obtain rfl:(z,ys)=d:=Option.some.inj h
    obtain ⟨k1,k2⟩:=Zqt hM hz h2
    have hrep:=ZxT (X':=X) (W:=W) hM (fun b hb=>.inl hb) hq (show Zc5 X W E M (.c (.bp i 0)) v from h1)
    have hshape:Zow y z=CV.arg ⟨y.ty,z⟩:=by
     cases y with
     | v t =>
      exfalso
      have hq:(match ZiU M t [.bp i 0] with | some (x,[])=>some x | _=>none)=some z:=hq
      rw [ZIG] at hq
      cases hq
     | s t=>cases hq
     | q t=>cases hq
     | p t=>rfl
    refine ⟨?_,v,r,e,?_,k2⟩
    ·show Zow y z :: ZM0 l ys=CV.arg ⟨y.ty,z⟩ :: (ZGz l ys).map CV.arg
     rw [hshape,k1]
    ·rw [hshape] at hrep
     exact hrep
end
end Go.Proofs.YtafhbjjcpncfnaaGreat
