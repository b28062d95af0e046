import Derived.Test.YtkeglpnnedflnaaGreatDoorPBmZ
import Derived.Lib.ItoaNum
set_option linter.unusedSimpArgs false
set_option linter.unusedVariables false
namespace Go.Proofs.YtkeglpnnedflnaaGreatDoor
open Go.ChangeShapes Go.WideShapes Go.ChangeAt Go.RowKit Go.Joins Go.Deep
open GoRep (rep bulk)
section
variable {P:Program} {X:List Nat} {W:World} {E:Env} {M:Mem} {a:Act} {tm:List AV} {o:Oper}
theorem ZHJ {n:Nat} (h:n≤maxLen):(Lit.int .i64 (n:Int)).wf=true:=by
 rw [Zl0]
 have hmm:IntKind.i64.min=-9223372036854775808∧IntKind.i64.max=9223372036854775807:=by decide
 unfold maxLen at h
 omega
set_option maxHeartbeats 1000000 in
theorem ZtC (hM:RepM X W E M) (ht:Zbv X W E M tm a.tmps.toList) (hn:(opA P tm M o).need):Zdv X P o a W E M (opA P tm M o).val (opA P tm M o).mem:=by
 unfold opA at hn ⊢
 cases ho:o.op <;> simp only [ho] at hn ⊢
 case move x=>exact Zdv.stay hM (u:=a.eval x) (by unfold execOp; simp only [ho]; rfl) (Zam ht x)
 case assign x=>exact Zdv.stay hM (u:=a.eval x) (by unfold execOp; simp only [ho]; rfl) (Zam ht x)
 case pick c x y =>
  have hc:=Zam ht c
  split at hn
  ·rename_i g hg
   rw [hg] at hc
   refine Zdv.stay hM (u:=if g then a.eval x else a.eval y) ?_ (ZDr (Zam ht x) (Zam ht y))
   unfold execOp
   simp only [ho,Zsc hc]
   rfl
  ·exact hn.elim
 case alloc e =>
  split at hn
  ·rename_i z hz
   cases hq:P.info? e with
   | none=>rw [hq] at hz; cases hz
   | some i =>
    rw [hq] at hz
    cases hok:z.cells.toList.all Zhw with
    | false=>rw [hok] at hn; exact hn.elim
    | true=>simp only [cond_true]; exact ZBl hM ho hq hz hok
  ·exact hn.elim
 case box e x =>
  split at hn
  ·rename_i l hl; exact does_box hM ht ho hl
  ·exact hn.elim
 case load t x =>
  split at hn
  ·rename_i i q hx
   split at hn
   ·rename_i l hb
    split at hn
    ·rename_i v hv; exact does_load_box hM ht ho hx hb hv
    ·exact hn.elim
   ·exact hn.elim
  ·rename_i L t' xs k q hx
   cases hL:Zdu M L with
   | false=>rw [hL] at hn; exact hn.elim
   | true =>
    simp only [hL,cond_true] at hn ⊢
    split at hn
    ·rename_i v hv; exact does_load_ep hM ht ho hx hL hv
    ·exact hn.elim
  ·rename_i i v n k q hx
   split at hn
   ·rename_i r hr
    cases hb:Nat.beq n r.t.n with
    | false=>rw [hb] at hn; exact hn.elim
    | true =>
     simp only [hb,cond_true] at hn ⊢
     split at hn
     ·rename_i u hu; exact Ztw hM ht ho hx hr (Nat.eq_of_beq_eq_true hb) hu
     ·exact hn.elim
   ·exact hn.elim
  ·rename_i i v c n k o' m y q hx
   split at hn
   ·rename_i r hr
    cases hb:Nat.beq m r.t.n with
    | false=>rw [hb] at hn; exact hn.elim
    | true =>
     simp only [hb,cond_true] at hn ⊢
     split at hn
     ·rename_i u hu; exact Ztx hM ht ho hx hr (Nat.eq_of_beq_eq_true hb) hu
     ·exact hn.elim
   ·exact hn.elim
  ·exact hn.elim
 case store t x y =>
  split at hn
  ·rename_i i q l' hx hy
   split at hn
   ·rename_i l hb
    cases hc:(Nat.beq l'.length (Zbg P t)) && (Nat.ble (q + l'.length) l.length && Nat.blt 0 (Zbg P t)) with
    | false=>rw [hc] at hn; exact hn.elim
    | true =>
     rw [Bool.and_eq_true,Bool.and_eq_true] at hc
     have h1:=Nat.eq_of_beq_eq_true hc.1
     have h2:=Nat.le_of_ble_eq_true hc.2.1
     have h3:0 < Zbg P t:=Nat.le_of_ble_eq_true hc.2.2
     simp only [cond_true]
     exact ZpV hM ht ho hx hy hb h1 h3 h2
   ·exact hn.elim
  ·rename_i i v n k q l' hx hy
   cases hh:ZLD M i with
   | true=>rw [hh] at hn; exact ZyM hM ht ho hx hy hn
   | false=>rw [hh] at hn; exact ZyK hM ht ho hx hy hn
  ·exact hn.elim
 case build t parts =>
  split at hn
  ·rename_i l hl; exact does_build hM ht ho hl
  ·exact hn.elim
 case buildSlice t len parts =>
  split at hn
  ·rename_i e hu
   split at hn
   ·rename_i tt htt
    split at hn
    ·rename_i ys js hp
     cases hc:(Zfz P e tt.n && Nat.ble (len * tt.n) 16777216) && (Nat.beq len parts.size && ZaW js) with
     | false=>rw [hc] at hn; exact hn.elim
     | true =>
      simp only [hc,cond_true]
      exact Zvj
    ·cases hfl:tt.flat with
     | true=>rw [hfl] at hn; exact hn.elim
     | false =>
      simp only [hfl,cond_false] at hn ⊢
      split at hn
      ·rename_i tq htq
       try simp only [htq]
       split at hn
       ·rename_i ys js hp
        try simp only [hp]
        cases hc:(Zfz P e tq.n && Nat.ble (len * tq.n) 16777216) && (Nat.beq len parts.size && ZaW js) with
        | false=>rw [hc] at hn; exact hn.elim
        | true =>
         simp only [cond_true]
         exact Zvj
       ·exact hn.elim
      ·exact hn.elim
   ·exact hn.elim
  ·exact hn.elim
 case makeSlice t l c =>
  split at hn
  ·rename_i e n m hu hl hc
   split at hn
   ·rename_i tt z htt hz
    cases hcnd:z.cells.toList.all Zhw && Zfz P e tt.n with
    | false=>rw [hcnd] at hn; exact hn.elim
    | true =>
     simp only [hcnd,cond_true] at hn ⊢
     rw [Bool.and_eq_true] at hcnd
     split at hn
     ·rename_i d hd
      exact Zp3 hM ht ho hu hl hc hz hcnd.1 hcnd.2 hd hn
     ·exact hn.elim
   ·exact hn.elim
  ·exact hn.elim
 case nilCheck x =>
  split at hn
  ·rename_i i q hx; exact does_nilCheck hM ht ho hx (.inl trivial)
  ·rename_i L t xs k q hx
   cases hL:Zdu M L with
   | false=>rw [hL] at hn; exact hn.elim
   | true=>simp only [cond_true]; exact does_nilCheck hM ht ho hx (.inl hL)
  ·rename_i i v n k q hx
   cases hL:(ZiC M i v).isSome with
   | false=>rw [hL] at hn; exact hn.elim
   | true=>simp only [cond_true]; exact does_nilCheck hM ht ho hx (.inl hL)
  ·rename_i i v c n k o' m y q hx
   cases hL:(Zb7 M i v c n k o').isSome with
   | false=>rw [hL] at hn; exact hn.elim
   | true=>simp only [cond_true]; exact does_nilCheck hM ht ho hx (.inl hL)
  ·rename_i f l hx; exact does_nilCheck hM ht ho hx (.inr ⟨f,l,rfl⟩)
  ·exact hn.elim
 case binOp op t x y yt=>exact ZFY hM ht ho hn
 case unOp op t x =>
  cases op <;> simp only at hn ⊢
  case not =>
   split at hn
   ·rename_i b hx; exact does_not hM ht ho hx
   ·exact hn.elim
  case neg =>
   split at hn
   ·rename_i k n hx; exact does_neg hM ht ho hx
   ·exact hn.elim
  all_goals exact hn.elim
 case convert s d x =>
  split at hn
  ·rename_i k k' n hd hx
   exact Zty hM ht ho hd hn hx
  ·rename_i c hd hx
   split at hn
   ·rename_i e hs
    cases hu:ZJW P e with
    | false=>rw [hu] at hn; exact hn.elim
    | true =>
     simp only [hu,cond_true] at hn ⊢
     split at hn
     ·rename_i xs hst
      simp only [hst]
      exact ZBS hM ht ho hd hs hu hx hst hn
     ·exact hn.elim
   ·exact hn.elim
  ·exact hn.elim
 case makeFunc fn first captured =>
  cases fn <;> simp only at hn ⊢
  case func f =>
   split at hn
   ·rename_i l hf hc; exact does_makeFunc hM ht ho hf hc
   ·exact hn.elim
  all_goals exact hn.elim
 case slice t x lo hi mx =>
  cases mx with
  | some _=>exact hn.elim
  | none =>
   simp only at hn ⊢
   split at hn
   ·rename_i hu
    split at hn
    ·rename_i s hx
     exact ZpX (P:=P) (o:=o) hM ht ho hu hx hn
    ·exact hn.elim
   ·rename_i e hu
    split at hn
    ·rename_i cc hx
     split at hn
     ·rename_i L q hr
      exact ZBn (P:=P) (o:=o) hM ht ho hu hx hr hn.1 hn.2
     ·exact hn.elim
    ·exact hn.elim
   ·exact hn.elim
 case fieldAddr s x n =>
  unfold Zj1 at hn ⊢
  cases hs:P.underlying s with
  | none=>rw [hs] at hn; exact hn.elim
  | some d =>
   rw [hs] at hn
   cases d <;> simp only at hn ⊢ <;> try exact hn.elim
   rename_i fs
   cases hf:fs[n]? with
   | none=>rw [hf] at hn; exact hn.elim
   | some f =>
    rw [hf] at hn
    simp only at hn ⊢
    cases hz:Nat.beq (Zbg P f.type) 0 with
    | true=>rw [hz] at hn; exact hn.elim
    | false =>
     rw [hz] at hn
     simp only [cond_false] at hn ⊢
     have hz' : Zbg P f.type ≠ 0:=fun e=>by rw [e] at hz; cases hz
     split at hn
     ·rename_i i q hx; exact Zej hM ht ho hs hf hz' hx trivial rfl
     ·rename_i L t xs k q hx
      cases hL:Zdu M L with
      | false=>rw [hL] at hn; exact hn.elim
      | true=>simp only [cond_true]; exact Zej hM ht ho hs hf hz' hx hL rfl
     ·rename_i i v n k q hx
      cases hL:(ZiC M i v).isSome with
      | false=>rw [hL] at hn; exact hn.elim
      | true=>simp only [cond_true]; exact Zej hM ht ho hs hf hz' hx hL rfl
     ·rename_i i v c n k o' m y q hx
      cases hL:(Zb7 M i v c n k o').isSome with
      | false=>rw [hL] at hn; exact hn.elim
      | true=>simp only [cond_true]; exact Zej hM ht ho hs hf hz' hx hL rfl
     ·exact hn.elim
 case indexAddr t x i =>
  split at hn
  ·rename_i e L t' xs k n hu hx hi
   cases hL:Zdu M L with
   | false=>rw [hL] at hn; exact hn.elim
   | true =>
    simp only [hL,cond_true] at hn ⊢
    exact ZpW hM ht ho hu hx hi hL hn.1 hn.2.1 hn.2.2
  ·rename_i e i v k n hu hx hi
   split at hn
   ·rename_i r hr
    exact Zse hM ht ho hu hx hi hr hn.1 hn.2.1 hn.2.2
   ·exact hn.elim
  ·rename_i e i v c n' k' o' k n hu hx hi
   split at hn
   ·rename_i r hr
    exact Ztz hM ht ho hu hx hi hr hn.1 hn.2.1 hn.2.2
   ·exact hn.elim
  ·exact hn.elim
 case index t x i =>
  split at hn
  ·rename_i s k n hu hx hi; exact ZBm hM ht ho hu hx hi hn.1 hn.2
  ·exact hn.elim
 case field s x f =>
  split at hn
  ·rename_i fd hf
   split at hn
   ·rename_i l hx
    split at hn
    ·rename_i u hu; exact does_field hM ht ho hf hx hu
    ·exact hn.elim
   ·exact hn.elim
  ·exact hn.elim
 case extract x n =>
  split at hn
  ·rename_i l hx
   split at hn
   ·rename_i w hw; exact does_extract hM ht ho hx hw
   ·exact hn.elim
  ·exact hn.elim
 case call c =>
  obtain ⟨cal,xs,ts⟩:=c
  cases cal <;> simp only at hn ⊢ <;> try exact hn.elim
  rename_i b
  cases b <;> simp only at hn ⊢ <;> try exact hn.elim
  case len =>
   split at hn
   ·rename_i t x hts hxs
    have hx:=Zam (M:=M) (W:=W) (E:=E) ht x
    split at hn
    ·rename_i s hu he
     rw [he] at hx
     obtain ⟨e1,e2⟩:=Zqv hx
     exact Zyn hM (u:=.int .i64 (s.size:Nat)) ⟨rfl,ZHJ e2⟩ ho hts hxs e1 (run_len_string _ _ _ _ hu) rfl
    ·rename_i e hu he
     rw [he] at hx
     exact Zyn hM (u:=.int .i64 0) ⟨rfl,by decide⟩ ho hts hxs hx.1 (by simp [Builtin.len_,run_underlying hu,goInt]) rfl
    ·rename_i e cc hu he
     rw [he] at hx
     split at hn
     ·rename_i L q hr
      obtain ⟨A,c,F,e1,hs,_⟩:=ZgJ (X:=X) hM hr hx
      exact Zyn hM (u:=.int .i64 (q.xs.length:Nat)) ⟨rfl,ZHJ (Nat.le_trans hs.1 hs.2.1)⟩ ho hts hxs e1 (by simp [Builtin.len_,run_underlying hu,goInt]) rfl
     ·exact hn.elim
    ·exact hn.elim
   ·exact hn.elim
  case append =>
   split at hn
   ·rename_i t t2 x y hts hxs
    split at hn
    ·rename_i e hu
     cases hb:Nat.beq t t2 with
     | false =>
      simp only [hb,cond_false] at hn ⊢
      split at hn
      ·rename_i s hu2 hy
       exact Zuz hM ht ho hxs hts hu hu2 hy hn
      ·exact hn.elim
     | true =>
      obtain rfl:=Nat.eq_of_beq_eq_true hb
      simp only [hb,cond_true] at hn ⊢
      split at hn
      ·rename_i q hq
       try simp only [hq]
       exact ZBT hM ht ho hxs hts hu hq hn
      ·rename_i hq
       try simp only [hq]
       exact ZyI hM ht ho hxs hts hu hn
    ·exact hn.elim
   ·exact hn.elim
  case min =>
   split at hn
   ·rename_i k p k' q hxs; exact does_minmax hM ht ho hxs (.inl ⟨rfl,rfl⟩) hn
   ·rename_i k p k' q k'' r hxs; exact does_min3 hM ht ho hxs hn
   ·exact hn.elim
  case max =>
   split at hn
   ·rename_i k p k' q hxs; exact does_minmax hM ht ho hxs (.inr ⟨rfl,rfl⟩) hn
   ·exact hn.elim
 all_goals exact hn.elim
end
inductive ATy where
 | v (t:Ty)
 | s (t:Ty)
 | p (t:Ty)
 | q (t:Ty)
 | z
def ATy.ty:ATy→Ty
 | .z=>.bool
 | .q t=>t
 | .v t=>t
 | .s t=>t
 | .p t=>t
def AD:List ATy→Type
 | []=>Unit
 | a :: l=>a.ty.den × AD l
def enc1 (t:Ty) (x:t.den):AC:=(cellsOf t x).headD (.bool false)
def Zj8:(t:Ty)→t.den→List AC
 | .int k,x=>[.int k x]
 | .bool,b=>[.bool b]
 | .str,s=>[.str s]
 | .opq,v=>[.opq v]
 | .prod a b,x=>Zj8 a x.1 ++ Zj8 b x.2
 | .list _,_=>[.junk]
def ZmC:(a:ATy)→a.ty.den→AW
 | .v t,x=>.c (enc1 t x)
 | .s t,x=>.ag (cellsOf t x)
 | .p t,x=>.c (.ep .no t [x] 0 0)
 | .q t,x=>.ag (Zj8 t x)
 | .z,_=>.c (.raw (.slice none 0 0))
def ZJX:(l:List ATy)→AD l→List AW
 | [],_=>[]
 | a :: l,x=>ZmC a x.1 :: ZJX l x.2
def ZiN (k:IntKind):List AC→Option (Int × List AC)
 | .int k' x :: l=>if k'=k then some (x,l) else none
 | _=>none
def Zf1:List AC→Option (Bool × List AC)
 | .bool b :: l=>some (b,l)
 | _=>none
def ZiO:List AC→Option (ByteArray × List AC)
 | .str b :: l=>some (b,l)
 | _=>none
def Zhy (M:Mem) (a:Ty):List AC→Option (List a.den × List AC)
 | .raw (.slice none 0 0) :: l=>some ([],l)
 | c :: l=>match Zfa M c with
  | some (_,q)=>if h:q.t=a then some (h ▸ q.xs,l) else none
  | none=>none
 | []=>none
def ZiP:List AC→Option (Value × List AC)
 | .opq v :: l=>some (v,l)
 | _=>none
def ZgB (M:Mem):(t:Ty)→List AC→Option (t.den × List AC)
 | .int k,l=>ZiN k l
 | .bool,l=>Zf1 l
 | .str,l=>ZiO l
 | .opq,l=>ZiP l
 | .prod a b,l=>match ZgB M a l with
  | some (x,l1)=>match ZgB M b l1 with
   | some (y,l2)=>some ((x,y),l2)
   | none=>none
  | none=>none
 | .list a,l=>Zhy M a l
def ZF3:(t:Ty)→List AC→Option (t.den × List AC)
 | .int k,l=>ZiN k l
 | .bool,l=>Zf1 l
 | .str,l=>ZiO l
 | .opq,l=>ZiP l
 | .prod a b,l=>match ZF3 a l with
  | some (x,l1)=>match ZF3 b l1 with
   | some (y,l2)=>some ((x,y),l2)
   | none=>none
  | none=>none
 | .list a,_ :: l=>some ((([]:List a.den):(Ty.list a).den),l)
 | .list _,[]=>none
def slC:AC→Bool
 | .sl _ _ _ _ _ _=>true
 | _=>false
def Zhz (M:Mem):(a:ATy)→AV→Option a.ty.den
 | .v t, .w (.c a)=>match ZgB M t [a] with
  | some (x,[])=>some x
  | _=>none
 | .s t, .w (.ag l)=>match ZgB M t l with
  | some (x,[])=>some x
  | _=>none
 | .p t, .w (.c (.bp i 0))=>match M[i]? with
  | some (.box l)=>match ZgB M t l with
   | some (x,[])=>some x
   | _=>none
  | _=>none
 | .p t, .w (.c (.ep L t' xs k 0))=>bif Zdu M L then (if h:t'=t then some (h ▸ nth t' xs k) else none) else none
 | .q t, .w (.ag l)=>bif l.any slC then (match ZF3 t l with
  | some (x,[])=>some x
  | _=>none) else none
 | .z, .w (.c (.raw (.slice none 0 0)))=>some false
 | _,_=>none
def Zij (M:Mem):(l:List ATy)→List AV→Option (AD l)
 | [],[]=>some ()
 | a :: l,x :: xs=>match Zhz M a x with
  | some y=>match Zij M l xs with
   | some ys=>some (y,ys)
   | none=>none
  | none=>none
 | _,_=>none
def Zek:Option Obj→Option (Array Value)
 | some (.cells cs _ _)=>some cs
 | _=>none
def ZPO (o:Option Obj):Prop:=∃ cs m,Zek o=some cs∧cs[0]?=some (.int .i64 m)
def ZMu (o:Option Obj):Prop:=∃ tp p,Zek o=some #[.iface tp p]
def ZPP (k:IntKind) (zs:List Int) (o:Option Obj):Prop:=Zek o=some (zs.map fun z=>Value.int k z).toArray
def globs:List (Nat × (Option Obj→Prop)):=[(0,ZPO),(1,ZMu),(2,ZMu),(3,ZPP .u64 Lib.pow10Tab)]
def ZiD (W:World) (E:Env):Prop:=∀ g ∈ globs,g.2 W.heap[g.1]?∧g.1 < W.heap.size∧g.1 ∉ foots E
theorem ZiD.grow {W W' : World} {E E' : Env} (h:ZiD W E) (k:Zbb W E W' E'):ZiD W' E':=fun g hg=>by
 obtain ⟨h1,h2,h3⟩:=h g hg
 refine ⟨?_,Nat.lt_of_lt_of_le h2 k.size,fun hb=>(k.new g.1 hb).elim h3 (fun hge=>by omega)⟩
 rw [k.keep g.1 h2 h3]
 exact h1
theorem ZiD.sub {W:World} {E E' : Env} (h:ZiD W E) (hs:∀ b ∈ foots E',b ∈ foots E):ZiD W E':=fun g hg=>⟨(h g hg).1,(h g hg).2.1,fun hb=>(h g hg).2.2 (hs g.1 hb)⟩
theorem ZzI {W:World} {g i:Nat} {cs:Array Value} (h:Zek W.heap[g]?=some cs):W.cell? ⟨g,i,none⟩=cs[i]?:=by
 unfold Zek at h
 split at h
 ·rename_i e
  simp only [Option.some.injEq] at h
  subst h
  simp [World.cell?,e]
 ·cases h
theorem ZiD.int {W:World} {E:Env} {g:Nat} (h:ZiD W E) (hg:(g,ZPO) ∈ globs):∃ m,W.cell? ⟨g,0,none⟩=some (.int .i64 m):=by
 obtain ⟨⟨cs,m,h1,h2⟩,_⟩:=h _ hg
 exact ⟨m,(ZzI h1).trans h2⟩
theorem ZiD.nil {W:World} {E:Env} (h:ZiD W E):ZiD W []:=h.sub (fun b hb=>by simp [foots] at hb)
def Zaq (P:Program) (f:FuncId) (args:List AW) (r:AV) (new:Mem):Prop :=
 ∀ (X:List Nat) (W:World) (vs:List Value),(∀ b ∈ X,b < W.heap.size)→ZiD W []→ZcC X W [] [] args vs →
   Calls P f vs.toArray W (fun e W'=>∃ v E',e=.returned v∧Zbb W [] W' E'∧RepM X W' E' new∧Zcd X W' E' new r v)
structure ZaD (P:Program) where
 f:FuncId
 ins:List ATy
 pre:AD ins→Prop
 res:AD ins→AV
 new:AD ins→Mem
 ok:∀ x,pre x→Zaq P f (ZJX ins x) (res x) (new x)
 ent:∀ args w,(callFunc f args).run P w=.ok (.enter f args) w
def Zsj {P:Program} (f:FuncId):List (ZaD P)→Option (ZaD P)
 | []=>none
 | e :: l=>bif Nat.beq e.f f then some e else Zsj f l
def Ty.nl:Ty→Nat
 | .prod a b=>a.nl + b.nl
 | .list _=>1
 | _=>0
def Zj9:Nat→(t:Ty)→t.den→List AC
 | _, .int k,x=>[.int k x]
 | _, .bool,b=>[.bool b]
 | _, .str,s=>[.str s]
 | _, .opq,v=>[.opq v]
 | k, .prod a b,x=>Zj9 k a x.1 ++ Zj9 (k + a.nl) b x.2
 | k, .list _,_=>[.row k 0]
def ZhA:(t:Ty)→t.den→Mem
 | .prod a b,x=>ZhA a x.1 ++ ZhA b x.2
 | .list a,xs=>[.row a xs 0 0 none]
 | _,_=>[]
def Zyp:Ty→Mem
 | .prod a b=>Zyp a ++ Zyp b
 | .list a=>[.row a [] 0 0 none]
 | _=>[]
def seqN:Nat→Nat→List Nat
 | _,0=>[]
 | k,n + 1=>k :: seqN (k + 1) n
inductive ZLH where
 | b (t:Ty)
 | ptr (j:Nat)
inductive MTy where
 | a (y:ATy)
 | m (t:Ty)
 | e (t:Ty)
 | q (agg:Bool) (t:Ty)
 | g (agg:Bool) (t:Ty)
 | b (t:Ty)
 | f (g:FuncId) (l:List ZLH)
def ZJi:List ZLH→Type
 | []=>Unit
 | .b t :: l=>t.den × ZJi l
 | .ptr _ :: l=>ZJi l
def MTy.D:MTy→Type
 | .a y=>y.ty.den
 | .m t=>t.den
 | .e t=>List t.den × Nat
 | .q _ t=>t.den
 | .g _ t=>t.den
 | .b t=>t.den
 | .f _ l=>ZJi l
def MD:List MTy→Type
 | []=>Unit
 | y :: l=>y.D × MD l
def MTy.nb:MTy→Nat
 | .a _=>0
 | .m t=>t.nl + 1
 | .e _=>1
 | .q _ t=>t.nl
 | .g _ t=>t.nl
 | .b _=>1
 | .f _ l=>l.length
def ZMv:(l:List ZLH)→ZJi l→Mem
 | [],_=>[]
 | .b t :: l,x=>.box (cellsOf t x.1) :: ZMv l x.2
 | .ptr j :: l,x=>.box [.bp j 0] :: ZMv l x
def ZPQ (agg:Bool) (l:List AC):AW:=bif agg then .ag l else .c (l.headD .junk)
def ZJj (k:Nat):(y:MTy)→y.D→AW
 | .a y,x=>ZmC y x
 | .m _,_=>.c (.bp k 0)
 | .e t,x=>.c (.rp k 0 t.n x.2 0)
 | .q g t,x=>ZPQ g (Zj9 k t x)
 | .g g t,x=>ZPQ g (Zj9 k t x)
 | .b _,_=>.c (.bp k 0)
 | .f g l,_=>.c (.fn g (seqN k l.length))
def preM1 (k:Nat):(y:MTy)→y.D→Mem
 | .a _,_=>[]
 | .m t,x=>.box (Zj9 (k + 1) t x) :: ZhA t x
 | .e t,x=>[.row t x.1 0 0 none]
 | .q _ t,x=>ZhA t x
 | .g _ t,x=>ZhA t x
 | .b t,x=>[.box (cellsOf t x)]
 | .f _ l,x=>ZMv l x
def ZLI (k:Nat):(y:MTy)→y.D→Mem
 | .g _ t,_=>Zyp t
 | y,x=>preM1 k y x
def Zdw:Nat→(l:List MTy)→MD l→List AW
 | _,[],_=>[]
 | k,y :: l,x=>ZJj k y x.1 :: Zdw (k + y.nb) l x.2
def ZgX:Nat→(l:List MTy)→MD l→Mem
 | _,[],_=>[]
 | k,y :: l,x=>preM1 k y x.1 ++ ZgX (k + y.nb) l x.2
def ZdR:Nat→(l:List MTy)→MD l→Mem
 | _,[],_=>[]
 | k,y :: l,x=>ZLI k y x.1 ++ ZdR (k + y.nb) l x.2
def inpM:Nat→List MTy→List Nat
 | _,[]=>[]
 | k, .e t :: l=>k :: inpM (k + 1) l
 | k, .q g t :: l=>seqN k t.nl ++ inpM (k + t.nl) l
 | k,y :: l=>inpM (k + y.nb) l
structure ZOz (W:World) (E:Env) (W' : World) (E' : Env):Prop where
 os:W'.os=W.os
 tape:W'.tape=W.tape
 output:W'.output=W.output
 size:W.heap.size≤W'.heap.size
 keep:∀ b,b < W.heap.size→b ∉ foots E→W'.heap[b]?=W.heap[b]?
 new:∀ b ∈ foots E',b ∈ foots E∨W.heap.size≤b
def ZdE (P:Program) (f:FuncId) (args:List AW) (pm qm:Mem) (inp:List Nat) (res:AV):Prop :=
 ∀ (X:List Nat) (W:World) (E:Env) (vs:List Value),ZiD W E→RepM X W E pm→ZcC X W E pm args vs →
   Calls P f vs.toArray W (fun e W'=>∃ v E',e=.returned v∧ZOz W E W' E'∧(∀ (i:Nat) (l:List AC) (e0:EB),pm[i]?=some (.box l)→E[i]?=some e0→∃ e',E'[i]?=some e'∧e'.blk=e0.blk) ∧
    (∀ i ∈ inp,∀ e0,E[i]?=some e0→∃ e',E'[i]?=some e'∧e'.val=e0.val)∧RepM X W' E' qm∧Zcd X W' E' qm res v)
structure Zct (P:Program) where
 f:FuncId
 ins:List MTy
 pre:MD ins→Prop
 post:MD ins→MD ins
 res:MD ins→AV
 new:MD ins→Mem
 ok:∀ x,pre x→ZdE P f (Zdw 0 ins x) (ZgX 0 ins x) (ZdR 0 ins (post x) ++ new x) (inpM 0 ins) (res x)
 ent:∀ args w,(callFunc f args).run P w=.ok (.enter f args) w
def findM {P:Program} (f:FuncId):List (Zct P)→Option (Zct P)
 | []=>none
 | e :: l=>bif Nat.beq e.f f then some e else findM f l
def Zyq (M:Mem):(l:List ZLH)→List Nat→Option (ZJi l)
 | [],[]=>some ()
 | .b t :: l,i :: is=>match M[i]? with
  | some (.box c)=>match ZgB M t c with
   | some (x,[])=>match Zyq M l is with
    | some r=>some (x,r)
    | none=>none
   | _=>none
  | _=>none
 | .ptr _ :: l,_ :: is=>Zyq M l is
 | _,_=>none
def ZJk (M:Mem):(y:MTy)→AV→Option y.D
 | .a y,x=>Zhz M y x
 | .m t, .w (.c (.bp i 0))=>match M[i]? with
  | some (.box l)=>(ZbD M t l).map (·.1)
  | _=>none
 | .e t, .w (.c (.rp i v n k 0))=>match Zcn M i v with
  | some r=>if h:r.t=t then some (h ▸ r.xs,k) else none
  | none=>none
 | .q _ t,x=>(ZHH M t x).map (·.1)
 | .g _ t,x=>(ZHH M t x).map (·.1)
 | .b t, .w (.c (.bp i 0))=>match M[i]? with
  | some (.box l)=>match ZgB M t l with
   | some (x,[])=>some x
   | _=>none
  | _=>none
 | .f _ l, .w (.c (.fn _ ids))=>Zyq M l ids
 | _,_=>none
def ZF4 (M:Mem):(l:List MTy)→List AV→Option (MD l)
 | [],[]=>some ()
 | y :: l,x :: xs=>match ZJk M y x with
  | some d=>match ZF4 M l xs with
   | some ds=>some (d,ds)
   | none=>none
  | none=>none
 | _,_=>none
def ZBq:AC→Bool
 | .bp _ _=>false
 | .row _ _=>false
 | .rp _ _ _ _ _=>false
 | .fn _ _=>false
 | .junk=>false
 | .sl _ _ _ _ _ _=>false
 | .sp _ _ _ _ _ _ _ _ _=>false
 | .tl _ _ _ _=>false
 | .mp _=>false
 | .hs L _ _=>decide (L=.no)
 | .ep L _ _ _ _=>decide (L=.no)
 | _=>true
def Zka:AC→Bool
 | .raw (.slice none 0 0)=>true
 | _=>false
def leC:AC→AC→Prop
 | .int k x, .int k' y=>k=k'∧x=y
 | .bool x, .bool y=>x=y
 | .str x, .str y=>x=y
 | .opq x, .opq y=>x=y
 | .hs L t xs, .hs L' t' ys=>L=L'∧∃ h:t=t',h ▸ xs=ys
 | x,y=>x=y
def leN (a b:AC):Prop:=match a,b with
 | .raw (.slice none 0 0), .hs .no _ xs=>xs=[]
 | a,b=>leC a b
structure MR where
 need:Prop
 used:List (Option Nat)
def MR.no:MR:=⟨False,[]⟩
def Zkb (M new:Mem) (acc:List (Option Nat)) (j w:Nat) (a:AC):MR :=
 bif Nat.beq j acc.length && Nat.beq w 0 then (match new[j]? with
     | some (.row t ys v c none)=>bif Nat.beq v 0 && Nat.beq c 0 then (bif Zka a then ⟨ys=[],[none]⟩ else (match a with
      | .row i u=>match Zcn M i u with
       | some r=>if h:r.t=t then ⟨h ▸ r.xs=ys,[some i]⟩ else .no
       | none=>.no
      | _=>.no)) else .no
     | _=>.no) else .no
def ZDC (acc:List (Option Nat)) (j i:Nat):Bool:=match acc[j]? with
 | some (some i')=>Nat.beq i i'
 | _=>false
def ZhB (M new:Mem) (acc:List (Option Nat)) (a b:AC):MR:=match b with
 | .row j w=>Zkb M new acc j w a
 | .bp j o=>match a with
  | .bp i o'=>bif Nat.beq o o' && ZDC acc j i then ⟨True,[]⟩ else .no
  | _=>.no
 | b=>⟨ZBq a=true∧leN a b,[]⟩
def Zl1 (M new:Mem):List (Option Nat)→List AC→List AC→MR
 | _,[],[]=>⟨True,[]⟩
 | acc,a :: as',b :: bs=>let m:=ZhB M new acc a b
  let r:=Zl1 M new (acc ++ m.used) as' bs
  ⟨m.need∧r.need,m.used ++ r.used⟩
 | _,_,_=>.no
def ZhC (M new:Mem) (acc:List (Option Nat)):AW→AW→MR
 | .c a, .c b=>ZhB M new acc a b
 | .ag l, .ag l'=>Zl1 M new acc l l'
 | _,_=>.no
def Zlw (M new:Mem):List (Option Nat)→List AW→List AW→MR
 | _,[],[]=>⟨True,[]⟩
 | acc,a :: as',b :: bs=>let m:=ZhC M new acc a b
  let r:=Zlw M new (acc ++ m.used) as' bs
  ⟨m.need∧r.need,m.used ++ r.used⟩
 | _,_,_=>.no
def Zl2 (M new:Mem) (acc:List (Option Nat)):AV→AV→MR
 | .w a, .w b=>ZhC M new acc a b
 | .tp l, .tp l'=>Zlw M new acc l l'
 | _,_=>.no
def Zc9 (M new:Mem) (acc:List (Option Nat)) (i:Nat):MR:=match M[i]? with
 | some (.box l)=>match new[acc.length]? with
  | some (.box l')=>let m:=Zl1 M new (acc ++ [some i]) l l'
   ⟨m.need,some i :: m.used⟩
  | _=>.no
 | _=>.no
def Zeb (M new:Mem):List (Option Nat)→List Nat→MR
 | _,[]=>⟨True,[]⟩
 | acc,i :: is=>let m:=Zc9 M new acc i
  let r:=Zeb M new (acc ++ m.used) is
  ⟨(m.need∧Nat.beq m.used.length 1=true)∧r.need,m.used ++ r.used⟩
def ZnQ (M new:Mem) (acc:List (Option Nat)) (a:AC) (j w n q:Nat):MR:=match a with
 | .rp i v n' q' 0=>match Zcn M i v with
  | some r=>match new[j]? with
   | some (.row t ys u c none)=>bif (Nat.beq j acc.length && Nat.beq w 0) && ((Nat.beq u 0 && Nat.beq c 0) && Nat.beq n n') then (if h:r.t=t then ⟨h ▸ r.xs=ys∧q'=q,[some i]⟩ else .no) else .no
   | _=>.no
  | none=>.no
 | _=>.no
def ZcS (M new:Mem) (acc:List (Option Nat)) (a b:AW):MR:=match b with
 | .c (.bp j 0)=>match a with
  | .c (.bp i 0)=>bif Nat.beq j acc.length then Zc9 M new acc i else .no
  | _=>.no
 | .c (.rp j w n q 0)=>match a with
  | .c a=>ZnQ M new acc a j w n q
  | _=>.no
 | .c (.fn g ids')=>match a with
  | .c (.fn g' ids)=>bif Nat.beq g g' && decide (ids'=seqN acc.length ids.length) then Zeb M new acc ids else .no
  | _=>.no
 | b=>ZhC M new acc a b
def Zfe (M new:Mem):List (Option Nat)→List MTy→List AV→List AW→MR
 | _,[],[],[]=>⟨True,[]⟩
 | acc, .a _ :: l,_ :: xs,_ :: ys=>Zfe M new acc l xs ys
 | acc,_ :: l, .w x :: xs,y :: ys=>let m:=ZcS M new acc x y
  let r:=Zfe M new (acc ++ m.used) l xs ys
  ⟨m.need∧r.need,m.used ++ r.used⟩
 | _,_,_,_=>.no
def somes:List (Option Nat)→List Nat
 | []=>[]
 | some i :: l=>i :: somes l
 | none :: l=>somes l
def ZmD:Nat→List MTy→List (AW × AW)
 | _,[]=>[]
 | k, .a _ :: l=>ZmD k l
 | k, .m t :: l=>(.c (.bp k 0), .c (.bp k 0)) :: ZmD (k + (t.nl + 1)) l
 | k, .e _ :: l=>(.c (.row k 0), .c (.row k 0)) :: ZmD (k + 1) l
 | k, .q _ t :: l=>(seqN k t.nl).map (fun j=>(.c (.row j 0), .c (.row j 0))) ++ ZmD (k + t.nl) l
 | k, .g _ t :: l=>(seqN k t.nl).map (fun j=>(.c (.raw (.slice none 0 0)), .c (.row j 0))) ++ ZmD (k + t.nl) l
 | k, .b _ :: l=>(.c (.bp k 0), .c (.bp k 0)) :: ZmD (k + 1) l
 | k, .f _ c :: l=>(seqN k c.length).map (fun j=>(.c (.bp j 0), .c (.bp j 0))) ++ ZmD (k + c.length) l
def Zjg (M new:Mem):List (Option Nat)→List (AW × AW)→MR
 | _,[]=>⟨True,[]⟩
 | acc,p :: l=>let m:=ZcS M new acc p.1 p.2
  let r:=Zjg M new (acc ++ m.used) l
  ⟨m.need∧r.need,m.used ++ r.used⟩
def ZLJ (M:Mem) (inp:List Nat):Bool:=inp.all fun i=>match M[i]? with
 | some (.row _ _ v _ none)=>Nat.beq v 0
 | _=>false
def ZtD:Nat→Mem→List Nat
 | _,[]=>[]
 | k, .box _ :: l=>k :: ZtD (k + 1) l
 | k,_ :: l=>ZtD (k + 1) l
def ZLK (us:List (Option Nat)) (l:List Nat):Bool:=l.all fun j=>ZDC us j j
def ZRU (ins:List MTy) (qm:Mem) (res r:AV) (M:Mem):Prop :=
 let m:=Zjg M qm [] (ZmD 0 ins)
 let n:=Zl2 M qm m.used r res
 (m.need∧n.need)∧((Nat.beq (m.used ++ n.used).length qm.length && ZaW (somes (m.used ++ n.used))) && (ZLK (m.used ++ n.used) (ZtD 0 qm ++ inpM 0 ins) && ZLJ M (inpM 0 ins)))=true
def ZtE:Nat→List (Option Nat)→List Nat
 | _,[]=>[]
 | n,some i :: l=>i :: ZtE n l
 | n,none :: l=>n :: ZtE (n + 1) l
def ZdF:List (Option Nat)→Nat
 | []=>0
 | some _ :: l=>ZdF l
 | none :: l=>ZdF l + 1
def ZLL (M:Mem) (inp:List Nat):Nat→List Nat→List Nat
 | _,[]=>[]
 | j,i :: l=>(match M[i]? with | some (.row _ _ v _ none)=>bif inp.any (Nat.beq j) then v else v + 1 | _=>0) :: ZLL M inp (j + 1) l
def ZDD (M:Mem):List Nat→List Nat
 | []=>[]
 | i :: l=>(match M[i]? with | some (.row _ _ _ c none)=>c + 1 | _=>0) :: ZDD M l
def ZLM (ρ vs:List Nat):AC→AC
 | .row j _=>.row (ρ.getD j 0) (vs.getD j 0)
 | .bp j o=>.bp (ρ.getD j 0) o
 | c=>c
def ZMw (ρ vs:List Nat):AW→AW
 | .c a=>.c (ZLM ρ vs a)
 | .ag l=>.ag (l.map (ZLM ρ vs))
def ZRV (ρ vs:List Nat):AV→AV
 | .w x=>.w (ZMw ρ vs x)
 | .tp l=>.tp (l.map (ZMw ρ vs))
 | .any=>.any
def ZPR (ρ vs:List Nat) (v c:Nat):Blk→Blk
 | .row t xs _ _ none=>.row t xs v c none
 | .box l=>.box (l.map (ZLM ρ vs))
 | b=>b
def Zyr (pm:Mem) (j:Nat):Bool:=match pm[j]? with
 | some (.box _)=>true
 | _=>false
def ZtF (pm:Mem) (fo:Bool):AC→Bool
 | .int _ _=>true
 | .bool _=>true
 | .str _=>true
 | .opq _=>true
 | .row _ w=>Nat.beq w 0
 | .bp j _=>Zyr pm j
 | .raw _=>true
 | .hs .no _ _=>fo
 | _=>false
def ZzJ (pm:Mem) (fo:Bool):AW→Bool
 | .c a=>ZtF pm fo a
 | .ag l=>l.all (ZtF pm fo)
def ZLN (pm:Mem) (fo:Bool):AV→Bool
 | .w x=>ZzJ pm fo x
 | .tp l=>l.all (ZzJ pm fo)
 | .any=>true
def ZLO (pm:Mem) (fo:Bool):Blk→Bool
 | .box l=>l.all (ZtF pm fo)
 | .row _ _ v c none=>Nat.beq v 0 && Nat.beq c 0
 | _=>false
def Zff:Mem→Mem→Bool
 | [],l=>l.all fun b=>match b with | .row _ _ _ _ none=>true | _=>false
 | .row t _ _ _ none :: l, .row t' _ _ _ none :: k=>decide (t=t') && Zff l k
 | .box _ :: l, .box _ :: k=>Zff l k
 | _,_=>false
def Zsk (i:Nat):List Nat→Option Nat
 | []=>none
 | j :: l=>bif Nat.beq j i then some 0 else (Zsk i l).map (· + 1)
def ZHK {α:Type} (g:Nat→Option α):Nat→List α→List α
 | _,[]=>[]
 | i,b :: l=>(match g i with | some b'=>b' | none=>b) :: ZHK g (i + 1) l
def ZLP (M:Mem) (n:Nat) (ρ vs cs:List Nat) (qm:Mem):Mem:=ZHK (fun i=>match Zsk i ρ with
 | some j=>(qm[j]?).map (ZPR ρ vs (vs.getD j 0) (cs.getD j 0))
 | none=>none) 0 (M ++ List.replicate n .dead)
def namC:AC→List Nat
 | .row i _=>[i]
 | .rp i _ _ _ _=>[i]
 | .hs (.at i _ _) _ _=>[i]
 | .ep (.at i _ _) _ _ _ _=>[i]
 | .sl i _ _ _ _ _=>[i]
 | .sp i _ _ _ _ _ _ _ _=>[i]
 | .tl i _ _ _=>[i]
 | .mp i=>[i]
 | .bp i _=>[i]
 | _=>[]
def namV (M:Mem):AV→List Nat
 | .w (.c (.bp i o))=>i :: (match M[i]? with | some (.box l)=>l.flatMap namC | _=>[])
 | .w (.c a)=>namC a
 | .w (.ag l)=>l.flatMap namC
 | _=>[]
def namA (M:Mem):List MTy→List AV→List Nat
 | .a _ :: l,x :: xs=>namV M x ++ namA M l xs
 | _ :: l,_ :: xs=>namA M l xs
 | _,_=>[]
def ZDE (n:Nat):Lnd→Lnd
 | .no=>.no
 | .at i v c=>.at (i + n) v c
def ZqA (n:Nat):AC→AC
 | .bp i o=>.bp (i + n) o
 | .row i v=>.row (i + n) v
 | .rp i v m k o=>.rp (i + n) v m k o
 | .hs L t xs=>.hs (ZDE n L) t xs
 | .ep L t xs k o=>.ep (ZDE n L) t xs k o
 | .sl i v c m k o=>.sl (i + n) v c m k o
 | .sp i v c m k o z x q=>.sp (i + n) v c m k o z x q
 | .tl i v m k=>.tl (i + n) v m k
 | .mp i=>.mp (i + n)
 | .fn f l=>.fn f (l.map (· + n))
 | c=>c
def ZzK (n:Nat):AW→AW
 | .c a=>.c (ZqA n a)
 | .ag l=>.ag (l.map (ZqA n))
def ZDF (n:Nat):AV→AV
 | .w x=>.w (ZzK n x)
 | .tp l=>.tp (l.map (ZzK n))
 | .any=>.any
def ZpY {P:Program} (Γ:List (ZaD P)) (M:Mem) (g:FuncId) (el:List AV) (ids:List Nat):Option (Prop × AV) :=
 match Zsj g Γ with
 | some e=>match Zij M e.ins (el ++ ids.map (fun i=>.c (.bp i 0))) with
  | some y=>match e.new y with
   | []=>some (e.pre y,e.res y)
   | _=>none
  | none=>none
 | none=>none
def ZBr:AV→Bool
 | .w (.c (.bool b))=>b
 | _=>false
def Zlx:AV→Prop
 | .w (.c (.bool _))=>True
 | _=>False
def ZcT (agg:Bool) (t:Ty) (x:t.den):AV:=bif agg then .ag (cellsOf t x) else .c (enc1 t x)
structure CV where
 t:Ty
 x:t.den
def CV.arg (c:CV):AW:=.c (.ep .no c.t [c.x] 0 0)
def ZDG (X:List Nat) (W:World):List CV→List Value→Prop
 | [],vs=>vs=[]
 | c :: cs,vs=>∃ v r,vs=v :: r∧Zbo X W [] [] (.ep .no c.t [c.x] 0 0) v∧ZDG X W cs r
def elW (agg:Bool) (t:Ty) (x:t.den):AW:=match ZcT agg t x with | .w y=>y | _=>.ag []
def ZnR (X:List Nat) (W:World) (P:Program) (u:Value) (agg:Bool) (t:Ty) (p:t.den→Bool):Prop :=
 ∃ (g:FuncId) (caps:List Value),u=.func (.func g) #[] caps.toArray∧(∀ args w,(callFunc g args).run P w=.ok (.enter g args) w) ∧
   ∀ (W' : World) (E' : Env) (x:t.den) (v:Value),Zbb W [] W' E'→Zhv X W' [] [] (elW agg t x) v →
     Calls P g (v :: caps).toArray W' (fun e W''=>∃ r E'',e=.returned r∧Zbb W' [] W'' E''∧RepM X W'' E'' []∧Zcd X W'' E'' [] (.c (.bool (p x))) r)
def Zsl (X:List Nat) (W:World) (P:Program) (u:Value) (agg:Bool) (t:Ty) (p:t.den→t.den→Bool):Prop :=
 ∃ (g:FuncId) (caps:List Value),u=.func (.func g) #[] caps.toArray∧(∀ args w,(callFunc g args).run P w=.ok (.enter g args) w) ∧
   ∀ (W' : World) (E' : Env) (x y:t.den) (v v2:Value),Zbb W [] W' E'→Zhv X W' [] [] (elW agg t x) v→Zhv X W' [] [] (elW agg t y) v2 →
     Calls P g (v :: v2 :: caps).toArray W' (fun e W''=>∃ r E'',e=.returned r∧Zbb W' [] W'' E''∧RepM X W'' E'' []∧Zcd X W'' E'' [] (.c (.bool (p x y))) r)
structure ZhD (P:Program) where
 f:FuncId
 t:Ty
 agg:Bool
 res:(t.den→Bool)→List t.den→AC
 ok:∀ (p:t.den→Bool) (xs:List t.den) (u:Value) (X:List Nat) (W:World) (v:Value),(∀ b ∈ X,b < W.heap.size)→ZiD W []→Zbo X W [] [] (.hs .no t xs) v→ZnR X W P u agg t p →
  Calls P f #[v,u] W (fun e W'=>∃ v E',e=.returned v∧Zbb W [] W' E'∧RepM X W' E' []∧Zcd X W' E' [] (.c (res p xs)) v)
 ent:∀ args w,(callFunc f args).run P w=.ok (.enter f args) w
def ZBs {P:Program} (f:FuncId):List (ZhD P)→Option (ZhD P)
 | []=>none
 | e :: l=>bif Nat.beq e.f f then some e else ZBs f l
structure ZhE (P:Program) where
 f:FuncId
 t:Ty
 agg:Bool
 res:(t.den→t.den→Bool)→List t.den→List t.den→AC
 ok:∀ (p:t.den→t.den→Bool) (xs ys:List t.den) (u:Value) (X:List Nat) (W:World) (v v2:Value),(∀ b ∈ X,b < W.heap.size)→ZiD W []→Zbo X W [] [] (.hs .no t xs) v→Zbo X W [] [] (.hs .no t ys) v2→Zsl X W P u agg t p →
  Calls P f #[v,v2,u] W (fun e W'=>∃ v E',e=.returned v∧Zbb W [] W' E'∧RepM X W' E' []∧Zcd X W' E' [] (.c (res p xs ys)) v)
 ent:∀ args w,(callFunc f args).run P w=.ok (.enter f args) w
def ZqB {P:Program} (f:FuncId):List (ZhE P)→Option (ZhE P)
 | []=>none
 | e :: l=>bif Nat.beq e.f f then some e else ZqB f l
structure CE (P:Program) where
 u:Value
 g:FuncId
 caps:List Value
 hu:u=.func (.func g) #[] caps.toArray
 ins:List ATy
 res:AD ins→AV
 ent:∀ args w,(callFunc g args).run P w=.ok (.enter g args) w
def ZMx (X:List Nat) (W:World) {P:Program} (c:CE P):Prop :=
 ∀ (W' : World) (E' : Env) (x:AD c.ins) (vs:List Value),Zbb W [] W' E'→ZcC X W' [] [] (ZJX c.ins x) vs →
   Calls P c.g (vs ++ c.caps).toArray W' (fun e W''=>∃ v E'',e=.returned v∧Zbb W' [] W'' E''∧RepM X W'' E'' []∧Zcd X W'' E'' [] (c.res x) v)
structure Pro where
 b:Option Nat
 i:Nat
 t:Ty
structure Tab (P:Program) where
 Γ:List (ZaD P)
 H:List (ZhD P)
 H2:List (ZhE P)
 G:List (Zct P)
 C:Option (CE P)
 pro:Nat→List Pro
 n0:Nat
 inp:List Nat
 cut:List Nat
def ZpZ (X:List Nat) (W:World) (E0:Env) {P:Program} (T:Tab P):Prop:=(T.C=none∨(E0=[]∧∀ c,T.C=some c→ZMx X W c))∧T.n0=E0.length∧(∀ i ∈ T.inp,i < E0.length)∧ZiD W E0
def ZHL:List ATy→Bool
 | []=>false
 | .p _ :: _=>true
 | _ :: l=>ZHL l
def Zp0:AC→Bool
 | .int _ _=>true
 | .bool _=>true
 | .str _=>true
 | .opq _=>true
 | _=>false
def ZF5:AW→Bool
 | .c a=>Zp0 a
 | .ag l=>l.all Zp0
def ZLQ:AV→Bool
 | .w x=>ZF5 x
 | .tp l=>l.all ZF5
 | .any=>true
def ZE5:AC→Bool
 | .row _ _=>true
 | .rp _ _ _ _ _=>true
 | .hs (.at _ _ _) _ _=>true
 | .ep (.at _ _ _) _ _ _ _=>true
 | .sl _ _ _ _ _ _=>true
 | .sp _ _ _ _ _ _ _ _ _=>true
 | .tl _ _ _ _=>true
 | .mp _=>true
 | _=>false
def ZDH:AV→Bool
 | .w (.c a)=>ZE5 a
 | .w (.ag l)=>l.any ZE5
 | _=>false
def ZJY:AC→Bool
 | .int _ _=>true
 | .bool _=>true
 | .str _=>true
 | .opq _=>true
 | .row _ _=>true
 | _=>false
def ZMy:AW→Bool
 | .c a=>ZJY a
 | .ag l=>l.all ZJY
def ZPS:AV→Bool
 | .w x=>ZMy x
 | .tp l=>l.all ZMy
 | .any=>true
def ZPT:Blk→Bool
 | .row _ _ _ _ none=>true
 | _=>false
def ZMz:AC→Bool
 | .hs .no _ _=>true
 | c=>Zp0 c
def ZPU:Blk→Bool
 | .row _ _ _ _ none=>true
 | .box l=>l.all ZMz
 | _=>false
def Zys {P:Program} (e:Zct P) (M:Mem) (args:List AV):OR :=
 match ZF4 M e.ins args with
 | some x =>
  let m:=Zfe M (ZgX 0 e.ins x) [] e.ins args (Zdw 0 e.ins x)
  let qm:=ZdR 0 e.ins (e.post x) ++ e.new x
  let us:=m.used ++ List.replicate (e.new x).length none
  let ρ:=ZtE M.length us
  let vs:=ZLL M (inpM 0 e.ins) 0 ρ
  let nam:=namA M e.ins args
  ⟨(e.pre x∧m.need)∧(((ZaW (somes m.used) && Nat.beq m.used.length (ZgX 0 e.ins x).length) && (Nat.beq qm.length us.length && nam.all (fun i=>(somes m.used).all (fun j=>!Nat.beq i j)))) && ((ZLN (ZgX 0 e.ins x) nam.isEmpty (e.res x) && qm.all (ZLO (ZgX 0 e.ins x) nam.isEmpty)) && Zff (ZgX 0 e.ins x) qm))=true,
    ZRV ρ vs (e.res x),ZLP M (ZdF us) ρ vs (ZDD M ρ) qm⟩
 | none=>.no
def Zp1 {P:Program} (T:Tab P) (M:Mem) (f:FuncId) (args:List AV):OR :=
 match ZBs f T.H with
 | some h=>match args with
  | [.w (.c a), .w (.c (.fn g ids))]=>match ZgB M (.list h.t) [a] with
   | some (xs,[])=>⟨(∀ x,match ZpY T.Γ M g [ZcT h.agg h.t x] ids with | some (q,r)=>q∧Zlx r | none=>False)∧∀ p ys,Zp0 (h.res p ys)=true,
    .c (h.res (fun x=>match ZpY T.Γ M g [ZcT h.agg h.t x] ids with | some (_,r)=>ZBr r | none=>false) xs),M⟩
   | _=>.no
  | [.w (.c a), .w (.c (.raw u))]=>match T.C,ZgB M (.list h.t) [a] with
   | some ce,some (xs,[])=>⟨u=ce.u∧(∀ x,match Zij M ce.ins [ZcT h.agg h.t x] with | some y=>Zlx (ce.res y) | none=>False)∧∀ p ys,Zp0 (h.res p ys)=true,
    .c (h.res (fun x=>match Zij M ce.ins [ZcT h.agg h.t x] with | some y=>ZBr (ce.res y) | none=>false) xs),M⟩
   | _,_=>.no
  | _=>.no
 | none=>match ZqB f T.H2 with
 | some h=>match args with
  | [.w (.c a), .w (.c b), .w (.c (.fn g ids))]=>match ZgB M (.list h.t) [a],ZgB M (.list h.t) [b] with
   | some (xs,[]),some (ys,[])=>⟨(∀ x y,match ZpY T.Γ M g [ZcT h.agg h.t x,ZcT h.agg h.t y] ids with | some (q,r)=>q∧Zlx r | none=>False)∧∀ p ys zs,Zp0 (h.res p ys zs)=true,
    .c (h.res (fun x y=>match ZpY T.Γ M g [ZcT h.agg h.t x,ZcT h.agg h.t y] ids with | some (_,r)=>ZBr r | none=>false) xs ys),M⟩
   | _,_=>.no
  | _=>.no
 | none=>match Zsj f T.Γ with
  | some e=>match Zij M e.ins args with
   | some x=>bif ZHL e.ins || args.any ZDH then ⟨e.pre x∧ZPS (e.res x)=true∧(e.new x).all ZPT=true,ZDF M.length (e.res x),M ++ e.new x⟩ else ⟨e.pre x∧(e.new x).all ZPU=true,ZDF M.length (e.res x),M ++ e.new x⟩
   | none=>.no
  | none=>.no
def ZMA:List MTy→List AV→Bool
 | .f g _ :: l, .w (.c (.fn g' _)) :: xs=>Nat.beq g g' && ZMA l xs
 | _ :: l,_ :: xs=>ZMA l xs
 | _,_=>true
def ZnS {P:Program} (f:FuncId) (args:List AV):List (Zct P)→Option (Zct P)
 | []=>none
 | e :: l=>bif Nat.beq e.f f && ZMA e.ins args then some e else ZnS f args l
def ZtG {P:Program} (T:Tab P) (M:Mem) (f:FuncId) (args:List AV):OR :=
 match ZnS f args T.G with
 | some e=>Zys e M args
 | none=>Zp1 T M f args
def ZaL:List MTy→List Operand→List AV→Mem→List AV × Mem
 | .q _ _ :: l, .tmp t :: xs,tm,M=>let p:=Zhx tm M t; ZaL l xs p.1 p.2
 | .g _ _ :: l, .tmp t :: xs,tm,M=>let p:=Zhx tm M t; ZaL l xs p.1 p.2
 | _ :: l,_ :: xs,tm,M=>ZaL l xs tm M
 | _,_,tm,M=>(tm,M)
def ZDI {P:Program} (T:Tab P) (tm:List AV) (M:Mem) (o:Oper):List AV × Mem :=
 match o.op with
 | .store _ (.tmp p) _=>Zhx tm M p
 | .call c=>match c.callee with
  | .builtin .append=>match c.args.toList with
   | .tmp t :: _=>Zhx tm M t
   | _=>(tm,M)
  | .value (.func f)=>match findM f T.G with
   | some e=>ZaL e.ins c.args.toList tm M
   | none=>(tm,M)
  | _=>(tm,M)
 | _=>(tm,M)
def Zjh {P:Program} (T:Tab P) (tm:List AV) (M:Mem) (o:Oper):OR :=
 match o.op with
 | .call c=>match c.callee with
  | .value fn=>match evalA tm fn with
   | .w (.c (.fn f ids))=>ZtG T M f (c.args.toList.map (evalA tm) ++ ids.map (fun i=>.c (.bp i 0)))
   | .w (.c (.raw u))=>match T.C with
    | some ce=>match Zij M ce.ins (c.args.toList.map (evalA tm)) with
     | some x=>⟨u=ce.u∧ZLQ (ce.res x)=true,ce.res x,M⟩
     | none=>.no
    | none=>.no
   | _=>.no
  | _=>opA P tm M o
 | _=>opA P tm M o
def ZtH (P:Program) (t:TypeId):Bool:=match P.underlying t with
 | some (.slice e)=>match ZJV P 8 e with
  | some tt=>tt.flat
  | none=>false
 | _=>false
def isCut {P:Program} (T:Tab P) (o:Oper):Bool:=match o.op with
 | .slice _ _ _ _ none=>(match o.dst with | some d=>T.cut.any (Nat.beq d) | none=>false)
 | .call c=>(match c.callee with | .builtin .clear=>true | _=>false)
 | .makeMap _ none=>true
 | .lookup _ _ _ false=>true
 | .mapUpdate _ _ _ _=>true
 | .buildSlice _ _ _=>(match o.dst with | some d=>T.cut.any (Nat.beq d) | none=>false)
 | .assign _=>(match o.dst with | some d=>T.cut.any (Nat.beq d) | none=>false)
 | _=>false
def ZDJ (M:Mem) (t:Ty):Nat→List (Nat × AV)→Option (List t.den)
 | _,[]=>some []
 | k,(i,x) :: r=>bif Nat.beq i k then (match ZgV x with
  | some l=>bif l.any ZE5 then none else (match ZgB M t l with
   | some (y,[])=>(match ZDJ M t (k + 1) r with
    | some ys=>some (y :: ys)
    | none=>none)
   | _=>none)
  | none=>none) else none
def ZLR (P:Program) (M:Mem) (t:TypeId) (len:Nat) (ps:List (Nat × AV)):OR:=match P.underlying t with
 | some (.slice e)=>match ZJV P 8 e with
  | some tt=>match ZDJ M tt 0 ps with
   | some ys=>bif (Zfz P e tt.n && Nat.ble (len * tt.n) 16777216) && (Nat.beq len ps.length && Nat.ble 1 len) then ⟨True, .c (.hs .no tt ys),M⟩ else .no
   | none=>.no
  | none=>.no
 | _=>.no
def ZLS (P:Program) (M:Mem) (t:TypeId) (x:AV) (lo hi:Option AV):OR :=
 match P.underlying t,x with
 | some (.slice e), .w (.c (.row i v))=>match Zcn M i v with
  | some r=>bif Nat.beq (Zbg P e) r.t.n then (match lo,hi with
   | none,some (.w (.c (.int .i64 h)))=>⟨0≤h∧h≤(r.xs.length:Int), .c (.row M.length 0),ZbU M [i] ++ [.row r.t (r.xs.take h.toNat) 0 0 none]⟩
   | some (.w (.c (.int .i64 l))),none=>⟨0≤l∧l≤(r.xs.length:Int), .c (.tl i v r.t.n l.toNat),M⟩
   | _,_=>.no) else .no
  | none=>.no
 | _,_=>.no
def ZtI (P:Program) (M:Mem) (t:TypeId) (x:AV):OR :=
 match P.underlying t,x with
 | some (.slice e), .w (.c (.tl i v n k))=>match Zcn M i v,(P.info? e).bind (·.zero) with
  | some r,some z=>bif (z.cells.toList.all Zhw && Zfz P e r.t.n) && Nat.beq n r.t.n then (match ZbD M r.t (z.cells.toList.map ZDl) with
   | some (d,[])=>⟨True, .any,M.set i (.row r.t (r.xs.take k ++ List.replicate (r.xs.length - k) d) v (r.c + 1) none)⟩
   | _=>.no) else .no
  | _,_=>.no
 | _,_=>.no
def ZBt (P:Program) (t:TypeId):Bool:=match P.underlying t with
 | some (.int .i64)=>true
 | _=>false
def Zsm (P:Program) (t:TypeId):Bool:=match (P.info? t).bind (·.zero) with
 | some (.bool false)=>true
 | _=>false
def ZDK (n:Int) (xs:List Int):Bool:=xs.any (fun y=>decide (y=n))
def ZLT (n:Int) (xs:List Int):List Int:=bif ZDK n xs then xs else xs ++ [n]
def Zyt (P:Program) (M:Mem) (t:TypeId) (x k:AV):OR :=
 match P.underlying t,x,k with
 | some (.map kt et), .w (.c (.mp i)), .w (.c (.int .i64 n))=>match M[i]? with
  | some (.mp xs)=>bif ZBt P kt && Zsm P et then ⟨True, .c (.bool (ZDK n xs)),M⟩ else .no
  | _=>.no
 | _,_,_=>.no
def ZJl (P:Program) (M:Mem) (t:TypeId) (x k v:AV):OR :=
 match P.underlying t,x,k,v with
 | some (.map kt _), .w (.c (.mp i)), .w (.c (.int .i64 n)), .w (.c (.bool true))=>match M[i]? with
  | some (.mp xs)=>bif ZBt P kt then ⟨True, .any,M.set i (.mp (ZLT n xs))⟩ else .no
  | _=>.no
 | _,_,_,_=>.no
def ZLU (M:Mem) (x:AV):OR:=match x with
 | .w (.c (.row i v))=>(match Zcn M i v with
  | some r=>⟨True, .c (.hs .no r.t r.xs),ZbU M [i]⟩
  | none=>.no)
 | _=>.no
def ZHM {P:Program} (tm:List AV) (M:Mem) (o:Oper):OR:=match o.op with
 | .slice t x lo hi none=>ZLS P M t (evalA tm x) (lo.map (evalA tm)) (hi.map (evalA tm))
 | .call c=>(match c.callee with
  | .builtin .clear=>(match c.argTypes.toList,c.args.toList with
   | [t],[x]=>ZtI P M t (evalA tm x)
   | _,_=>.no)
  | _=>.no)
 | .makeMap _ none=>⟨True, .c (.mp M.length),M ++ [.mp []]⟩
 | .lookup t m k false=>Zyt P M t (evalA tm m) (evalA tm k)
 | .mapUpdate t m k v=>ZJl P M t (evalA tm m) (evalA tm k) (evalA tm v)
 | .buildSlice t len parts=>ZLR P M t len (parts.toList.map fun p=>(p.1,evalA tm p.2))
 | .assign x=>ZLU M (evalA tm x)
 | _=>.no
def ZJZ {P:Program} (T:Tab P) (o:Oper):Nat :=
 match o.op with
 | .alloc _=>1
 | .box _ _=>1
 | .store _ _ _=>2
 | .buildSlice t _ _=>bif ZtH P t then 1 else 2
 | .makeSlice _ _ _=>1
 | .call c=>match c.callee with
  | .value (.func f)=>(match findM f T.G with | some _=>2 | none=>1)
  | .value _=>2
  | .builtin .len=>0
  | .builtin .min=>0
  | .builtin .max=>0
  | _=>2
 | _=>0
def clsO {P:Program} (T:Tab P) (o:Oper):Nat:=bif isCut T o then 2 else ZJZ T o
def ZDL (N R:Nat):List Edge→Nat
 | []=>0
 | e :: l=>Nat.lor (ZDL N R l) (bif Region.binds .any e then Nat.lor (Nat.shiftLeft 1 e.on) (Nat.shiftRight R (Nat.mul e.on N)) else 0)
def ZOA (N:Nat):List Oper→Nat→Nat→Nat
 | [],_,R=>R
 | o :: l,j,R=>ZOA N l (j + 1) (Nat.lor R (Nat.shiftLeft (Nat.mod (ZDL N R o.after.toList) (Nat.pow 2 N)) (Nat.mul j N)))
def ZJm (ops:Array Oper):Nat:=ZOA ops.size ops.toList 0 0
def ZE6 (ops:Array Oper) (_ i j:Nat):Bool:=Nat.blt i ops.size && Nat.beq (Nat.land (Nat.shiftRight (ZJm ops) (Nat.add (Nat.mul j ops.size) i)) 1) 1
def ZtJ (o:Oper):Bool:=match o.op with
 | .move _=>true
 | _=>false
def ZF6 {P:Program} (T:Tab P) (ops:Array Oper) (listed:Array Bool) (i:Nat):Bool :=
 match ops[i]? with
 | some oi=>(List.range ops.size).all fun j=>Nat.beq j i || (((match ops[j]? with
  | some oj=>Nat.beq (clsO T oi) 0 && (oi.apart ops oj && (Nat.ble (clsO T oj) 1 || ZtJ oi))
  | none=>true) || ZE6 ops ops.size i j) || listed.getD j true)
 | none=>false
def Zcy {P:Program} (T:Tab P) (tm:List AV) (M:Mem) (o:Oper):OR :=
 bif Nat.beq (clsO T o) 2 then (bif isCut T o then ZHM (P:=P) tm M o else (let g:=ZDI T tm M o
  let r:=Zjh T g.1 g.2 o
  ⟨r.need,r.val,ZmO r.mem⟩)) else Zjh T tm M o
inductive Tr where
 | nil
 | one (i:Nat) (t:Tr)
 | alt (t u:Tr)
def Tr.heads:Tr→List Nat
 | .nil=>[]
 | .one i _=>[i]
 | .alt t u=>t.heads ++ u.heads
def Tr.len:Tr→Nat
 | .nil=>0
 | .one _ t=>t.len + 1
 | .alt t u=>max t.len u.len
def ZOB (ops:Array Oper) (listed:Array Bool) (i:Nat):Bool:=match ops[i]? with
 | some o=>!listed.getD i true && o.after.toList.all fun e=>!Region.binds .any e || listed.getD e.on false
 | none=>false
def okA {P:Program} (T:Tab P) (ops:Array Oper):Tr→Bool→Array Bool→Bool
 | .nil,b,listed=>!b && (Region.ready .any ops listed).isEmpty
 | .one i t,b,listed=>ZOB ops listed i && ((b || ZF6 T ops listed i) && okA T ops t false (listed.setIfInBounds i true))
 | .alt t u,b,listed=>(b || (Region.ready .any ops listed).all fun i=>(t.heads ++ u.heads).any (Nat.beq · i)) && (okA T ops t true listed && okA T ops u true listed)
def ZLV {P:Program} (T:Tab P) (ops:Array Oper) (i:Nat):Bool:=match ops[i]? with
 | some o=>Nat.beq (clsO T o) 0
 | none=>false
def ZMB:List Tr→Tr
 | []=>.nil
 | [t]=>t
 | t :: ts=>.alt t (ZMB ts)
def ZqC {P:Program} (T:Tab P) (ops:Array Oper):Nat→Array Bool→Tr
 | 0,_=>.nil
 | n + 1,listed=>match (Region.ready .any ops listed).find? (fun i=>ZLV T ops i && ZF6 T ops listed i) with
  | some i=>.one i (ZqC T ops n (listed.setIfInBounds i true))
  | none=>ZMB ((Region.ready .any ops listed).map fun i=>.one i (ZqC T ops n (listed.setIfInBounds i true)))
def trL:List Nat→Tr
 | []=>.nil
 | i :: l=>.one i (trL l)
def ZE7 {P:Program} (T:Tab P) (id:Nat) (ops:Array Oper):Tr:=match T.pro (id + 4000000) with
 | []=>ZqC T ops ops.size (Array.replicate ops.size false)
 | p :: ps=>trL (((p :: ps).map (·.i)).take ops.size)
def ZiE (tm:List AV) (dst:Option Tmp) (v:AV):List AV :=
 match dst with
 | some d=>tm.set d v
 | none=>tm
def Zgc:AV:=.tp []
def ZnT (M:Mem):List Nat→Mem→(Mem→Prop)→Prop
 | [],M',K=>K M'
 | i :: l,M',K=>match M[i]?,M'[i]? with
  | some (.row _ _ _ c none),some (.row t xs v c' none)=>bif Nat.beq c c' then ZnT M l M' K else ∀ ys:List t.den,ys=xs→ZnT M l (M'.set i (.row t ys v c' none)) K
  | _,_=>ZnT M l M' K
def ZF7 (o:Oper) (M M' : Mem) (K:Mem→Prop):Prop :=
 match o.op with
 | .store _ _ _=>ZnT M (List.range M.length) M' K
 | .call c=>match c.callee with
  | .value _=>ZnT M (List.range M.length) M' K
  | _=>K M'
 | _=>K M'
theorem Zfg {M:Mem} {K:Mem→Prop}:∀ {l:List Nat} {M' : Mem},ZnT M l M' K→K M'
 | [],_,h=>h
 | i :: l,M',h=>by
  unfold ZnT at h
  split at h
  ·rename_i t xs v c' h1 h2
   cases hc:Nat.beq _ c' with
   | true=>rw [hc] at h; exact Zfg h
   | false =>
    rw [hc] at h
    have h3:=Zfg (h _ rfl)
    have hs:M'.set i (.row t xs v c' none)=M':=by
     obtain ⟨hi,e⟩:=List.getElem?_eq_some_iff.1 h2
     rw [← e]
     exact List.set_getElem_self hi
    rwa [hs] at h3
  ·exact Zfg h
theorem Zkc {o:Oper} {M M' : Mem} {K:Mem→Prop} (h:ZF7 o M M' K):K M':=by
 unfold ZF7 at h
 split at h
 ·exact Zfg h
 ·split at h
  ·exact Zfg h
  ·exact h
 ·exact h
def ZOC (P:Program) (tm:List AV) (M:Mem) (o:Oper):Option (Bool→Prop) :=
 match o.op with
 | .binOp op t x (.const (.slice none 0 0)) _=>match P.underlying t,evalA tm x with
  | some (.slice _), .w (.c c)=>match Zfa M c with
   | some (_,q)=>match op with
    | .eql=>some fun b=>b=true→q.xs.length=0
    | .neq=>some fun b=>b=false→q.xs.length=0
    | _=>none
   | none=>none
  | _,_=>none
 | _=>none
def ZF8 (r:OR) (K:Prop):Prop:=match r.val with
 | .tp [.ag []]=>False
 | _=>r.need∧K
theorem Zfh {r:OR} {K:Prop} (h:ZF8 r K):r.need∧K:=by
 unfold ZF8 at h
 split at h
 ·exact h.elim
 ·exact h
def Zhj {P:Program} (T:Tab P) (all:List Oper):List Oper→List AV→Mem→(List AV→Mem→Prop)→Prop
 | [],tm,M,K=>K tm M
 | o :: os,tm,M,K =>
  match o.guard with
  | none=>match ZOC P tm M o with
   | some q=>∀ b:Bool,q b→Zhj T all os (ZiE tm o.dst (.c (.bool b))) M K
   | none=>let r:=Zcy T tm M o; ZF8 r (ZF7 o M r.mem (fun M'=>Zhj T all os (ZiE tm o.dst r.val) M' K))
  | some (j,want)=>match (all[j]?).bind (·.dst) with
   | some d=>match tm.getD d .any with
    | .w (.c (.bool g))=>match want with
     | true=>bif g then (let tm:=tm.set d (.c (.bool true)); let r:=Zcy T tm M o; ZF8 r (ZF7 o M r.mem (fun M'=>Zhj T all os (ZiE tm o.dst r.val) M' K)))
      else Zhj T all os (ZiE (tm.set d (.c (.bool false))) o.dst Zgc) M K
     | false=>bif g then Zhj T all os (ZiE (tm.set d (.c (.bool true))) o.dst Zgc) M K
      else (let tm:=tm.set d (.c (.bool false)); let r:=Zcy T tm M o; ZF8 r (ZF7 o M r.mem (fun M'=>Zhj T all os (ZiE tm o.dst r.val) M' K)))
    | .tp _=>Zhj T all os (ZiE tm o.dst Zgc) M K
    | _=>False
   | none=>False
def ZJn {P:Program} (T:Tab P) (ops:Array Oper) (i:Nat) (tm:List AV) (M:Mem) (K:List AV→Mem→Prop):Prop :=
 match ops[i]? with
 | none=>False
 | some o=>match o.guard with
  | none=>let r:=Zcy T tm M o; ZF8 r (ZF7 o M r.mem (fun M'=>K (ZiE tm o.dst r.val) M'))
  | some (j,want)=>match (ops[j]?).bind (·.dst) with
   | some d=>match tm.getD d .any with
    | .w (.c (.bool g))=>match want with
     | true=>bif g then (let tm:=tm.set d (.c (.bool true)); let r:=Zcy T tm M o; ZF8 r (ZF7 o M r.mem (fun M'=>K (ZiE tm o.dst r.val) M')))
      else K (ZiE (tm.set d (.c (.bool false))) o.dst Zgc) M
     | false=>bif g then K (ZiE (tm.set d (.c (.bool true))) o.dst Zgc) M
      else (let tm:=tm.set d (.c (.bool false)); let r:=Zcy T tm M o; ZF8 r (ZF7 o M r.mem (fun M'=>K (ZiE tm o.dst r.val) M')))
    | .tp _=>K (ZiE tm o.dst Zgc) M
    | _=>False
   | none=>False
def Zkd {P:Program} (T:Tab P) (ops:Array Oper):Tr→List AV→Mem→(List AV→Mem→Prop)→Prop
 | .nil,tm,M,K=>K tm M
 | .one i t,tm,M,K=>ZJn T ops i tm M (fun tm M=>Zkd T ops t tm M K)
 | .alt t u,tm,M,K=>Zkd T ops t tm M K∧Zkd T ops u tm M K
structure Zbe where
 α:Type
 hd:α→List AV × Mem
 inv:α→Prop
 μ:α→Nat
def leL:List AC→List AC→Prop
 | [],[]=>True
 | x :: xs,y :: ys=>leC x y∧leL xs ys
 | _,_=>False
def leV:AV→AV→Prop
 | _, .any=>True
 | .w (.c x), .w (.c y)=>leC x y
 | .w (.ag x), .w (.ag y)=>leL x y
 | x,y=>x=y
def leT:List AV→List AV→Prop
 | [],[]=>True
 | x :: xs,y :: ys=>leV x y∧leT xs ys
 | _,_=>False
def leB:Blk→Blk→Prop
 | .box l, .box k=>leL l k
 | .row t xs v c none, .row t' ys v' c' none=>(v=v'∧c=c')∧∃ h:t=t',h ▸ xs=ys
 | x,y=>x=y
def leM:Mem→Mem→Prop
 | _,[]=>True
 | x :: xs,y :: ys=>leB x y∧leM xs ys
 | _,_=>False
def okC (n:Nat):AC→Bool
 | .bp i _=>Nat.blt i n
 | .row i _=>Nat.blt i n
 | .rp i _ _ _ _=>Nat.blt i n
 | .hs (.at i _ _) _ _=>Nat.blt i n
 | .ep (.at i _ _) _ _ _ _=>Nat.blt i n
 | .sl i _ _ _ _ _=>Nat.blt i n
 | .sp i _ _ _ _ _ _ _ _=>Nat.blt i n
 | .tl i _ _ _=>Nat.blt i n
 | .mp i=>Nat.blt i n
 | .fn _ l=>l.all (Nat.blt · n)
 | _=>true
def okW (n:Nat):AW→Bool
 | .c a=>okC n a
 | .ag l=>l.all (okC n)
def okV (n:Nat):AV→Bool
 | .w x=>okW n x
 | .tp l=>l.all (okW n)
 | .any=>true
def okB (n:Nat):Blk→Bool
 | .box l=>l.all (okC n)
 | .row _ _ _ _ (some _)=>false
 | _=>true
def Zyu (M:Mem):Bool:=M.all fun b=>match b with
 | .row _ _ _ _ (some _)=>false
 | _=>true
def leS (n0:Nat) (inp:List Nat) (tm:List AV) (M:Mem) (tm' : List AV) (M' : Mem) (h:List AV × Mem):Prop:=leT tm' h.1∧leM M' h.2∧((h.1.all (okV h.2.length) && h.2.all (okB h.2.length)) && (Nat.ble n0 h.2.length && (ZLJ M inp && Zyu M)))=true
def ZMC (tm:List AV) (M:Mem) (p:Pro):List AV × Mem :=
 match p.b with
 | none=>bif Zj2 (tm.getD p.i .any) then (tm.set p.i (.c (.row M.length 0)),M ++ [.row p.t [] 0 0 none]) else (tm,M)
 | some b=>match M[b]? with
  | some (.box l)=>bif Zka (l.getD p.i .junk) then (tm,M.set b (.box (l.set p.i (.row M.length 0))) ++ [.row p.t [] 0 0 none]) else (tm,M)
  | _=>(tm,M)
def ZJo (tm:List AV) (M:Mem):List Pro→List AV × Mem
 | []=>(tm,M)
 | p :: l=>let q:=ZMC tm M p; ZJo q.1 q.2 l
def ZzL (M:Mem) (b c k:Nat):Mem:=match M[b]? with
 | some (.box l)=>match l[c]? with
  | some (.row j v)=>bif Nat.beq j k then M else (match M[j]?,M[k]? with
   | some (.row t ys vj _ none),some (.row t' _ vk ck none)=>bif Nat.beq v vj then (if t'=t then ((ZbU M [j]).set k (.row t ys (vk + 1) (ck + 1) none)).set b (.box (l.set c (.row k (vk + 1)))) else M) else M
   | _,_=>M)
  | _=>M
 | _=>M
def ZtK (M:Mem) (b:Nat):Nat→List AC→Mem
 | _,[]=>M
 | c, .row k _ :: l=>ZtK (ZzL M b c k) b (c + 1) l
 | c,_ :: l=>ZtK M b (c + 1) l
def Zke (M:Mem):Nat→Mem→Mem
 | _,[]=>M
 | b, .box l :: h=>Zke (ZtK M b 0 l) (b + 1) h
 | b,_ :: h=>Zke M (b + 1) h
def ZnU (q:List AV × Mem) (i k:Nat):List AV × Mem:=match q.1[i]? with
 | some (.w (.c (.row j v)))=>bif Nat.beq j k then q else (match q.2[j]?,q.2[k]? with
  | some (.row t ys vj _ none),some (.row t' _ vk ck none)=>bif Nat.beq v vj then (if t'=t then (q.1.set i (.c (.row k (vk + 1))),(ZbU q.2 [j]).set k (.row t ys (vk + 1) (ck + 1) none)) else q) else q
  | _,_=>q)
 | _=>q
def Zl3 (q:List AV × Mem):Nat→List AV→List AV × Mem
 | _,[]=>q
 | i, .w (.c (.row k _)) :: h=>Zl3 (ZnU q i k) (i + 1) h
 | i,_ :: h=>Zl3 q (i + 1) h
def ZHN (M:Mem) (L:Lnd) (x:AC) (y:Lnd→AC):AC:=match L with
 | .no=>x
 | .at i v c=>bif Zc5 M i v c then y (.at i 0 0) else .junk
def ZDM (M:Mem):AC→AC
 | .row i v=>bif (Zcn M i v).isSome then .row i 0 else .junk
 | .rp i v n k o=>bif (Zcn M i v).isSome then .rp i 0 n k o else .junk
 | .hs L t xs=>ZHN M L (.hs L t xs) (fun L=>.hs L t xs)
 | .ep L t xs k o=>ZHN M L (.ep L t xs k o) (fun L=>.ep L t xs k o)
 | .sl i v c n k o=>bif Zc5 M i v c then .sl i 0 0 n k o else .junk
 | .sp i v c n k o m x q=>bif Zc5 M i v c then .sp i 0 0 n k o m x q else .junk
 | .tl _ _ _ _=>.junk
 | c=>c
def ZF9 (M:Mem):AW→AW
 | .c a=>.c (ZDM M a)
 | .ag l=>.ag (l.map (ZDM M))
def Zhk (M:Mem):AV→AV
 | .w x=>.w (ZF9 M x)
 | .tp l=>.tp (l.map (ZF9 M))
 | .any=>.any
def Zdh (M:Mem):Blk→Blk
 | .box l=>.box (l.map (ZDM M))
 | .row t xs _ _ none=>.row t xs 0 0 none
 | b=>b
def ZcG (tm:List AV):List (Nat × AV)→List AV
 | []=>tm
 | p :: l=>ZcG (tm.set p.1 p.2) l
def ZcJ:Code→Nat
 | .region id _ _=>id
 | .seq a _=>ZcJ a
 | .cond _ a _=>ZcJ a
 | .block _ a=>ZcJ a
 | .loop a=>ZcJ a
 | .scope a=>ZcJ a
 | _=>0
def Zyv (o:Oper):Bool:=match o.op with | .panic _=>true | _=>false
def Zp2 {P:Program} (T:Tab P) (A:Zbe) (K:Exit→List AV→Mem→Prop):Exit→List AV→Mem→Prop
 | .normal,tm,M=>∃ q,A.inv q∧(let p:=Zl3 (tm,Zke M 0 (A.hd q).2) 0 (A.hd q).1; leS T.n0 T.inp p.1 p.2 (p.1.map (Zhk p.2)) (p.2.map (Zdh p.2)) (A.hd q))
 | e,tm,M=>K e tm M
def ZdT {P:Program} (T:Tab P) (L:Nat→List AV→Mem→Zbe):Code→List AV→Mem→(Exit→List AV→Mem→Prop)→Prop
 | .skip,tm,M,K=>K .normal tm M
 | .region id ops draw,tm,M,K=>bif ops.toList.any Zyv then False else bif draw then (P.follows .mixedOrders=true∧okA T ops (ZE7 T id ops) false (Array.replicate ops.size false)=true)∧Zkd T ops (ZE7 T id ops) tm M (fun tm M=>K .normal tm M)
  else (match T.pro (id + 2000000) with | []=>Zhj T ops.toList ops.toList tm M (fun tm M=>K .normal tm M) | _ :: _=>let A:=L (id + 2000000) (tm.map (Zhk M)) (M.map (Zdh M)); Zhj T ops.toList ops.toList tm M (fun tm M=>Zp2 T A K .normal tm M)∧∀ q,A.inv q→K .normal (A.hd q).1 (A.hd q).2)
 | .seq x y,tm,M,K=>ZdT T L x tm M (fun e tm M=>match e with | .normal=>ZdT T L y tm M K | e=>K e tm M)
 | .cond c x y,tm,M,K=>match T.pro (ZcJ x + 1000000) with
  | []=>(match c with
   | .tmp t=>match tm.getD t .any with
    | .w (.c (.bool g))=>bif g then ZdT T L x (tm.set t (.c (.bool true))) M K else ZdT T L y (tm.set t (.c (.bool false))) M K
    | _=>False
   | .const (.bool g)=>bif g then ZdT T L x tm M K else ZdT T L y tm M K
   | _=>False)
  | _ :: _=>let A:=L (ZcJ x + 1000000) (tm.map (Zhk M)) (M.map (Zdh M))
   (match c with
   | .tmp t=>match tm.getD t .any with
    | .w (.c (.bool g))=>bif g then ZdT T L x (tm.set t (.c (.bool true))) M (Zp2 T A K) else ZdT T L y (tm.set t (.c (.bool false))) M (Zp2 T A K)
    | _=>False
   | _=>False)∧∀ q,A.inv q→K .normal (A.hd q).1 (A.hd q).2
 | .block id x,tm,M,K=>match T.pro (id + 3000000) with
  | []=>ZdT T L x tm M (fun e tm M=>match e with | .exit id'=>(bif Nat.beq id' id then K .normal tm M else K (.exit id') tm M) | e=>K e tm M)
  | _ :: _=>let A:=L (id + 3000000) (tm.map (Zhk M)) (M.map (Zdh M))
   ZdT T L x tm M (fun e tm M=>match e with | .exit id'=>(bif Nat.beq id' id then Zp2 T A K .normal tm M else K (.exit id') tm M) | e=>Zp2 T A K e tm M)∧∀ q,A.inv q→K .normal (A.hd q).1 (A.hd q).2
 | .loop x,tm,M,K=>let p:=ZJo tm M (T.pro (ZcJ x))
  let A:=L (ZcJ x) (p.1.map (Zhk p.2)) (p.2.map (Zdh p.2))
  (∃ y,A.inv y∧leS T.n0 T.inp p.1 p.2 (p.1.map (Zhk p.2)) (p.2.map (Zdh p.2)) (A.hd y)) ∧
  ∀ y,A.inv y→ZdT T L x (A.hd y).1 (A.hd y).2 (fun e tm' M'=>match e with | .normal=>∃ y',A.inv y'∧A.μ y' < A.μ y∧(let p:=Zl3 (tm',Zke M' 0 (A.hd y).2) 0 (A.hd y).1; leS T.n0 T.inp p.1 p.2 (p.1.map (Zhk p.2)) (p.2.map (Zdh p.2)) (A.hd y')) | e=>K e tm' M')
 | .exit id,tm,M,K=>K (.exit id) tm M
 | .label _,tm,M,K=>K .normal tm M
 | .ret,tm,M,K=>K .ret tm M
 | _,_,_,_=>False
def ZMD (P:Program) (tm:List AV) (M:Mem):ResultVar→Option AW
 | .tmp t=>match tm.getD t .any with
  | .w x=>some x
  | _=>none
 | .cell a t=>match tm.getD a .any with
  | .w (.c (.bp i o))=>match M[i]? with
   | some (.box l)=>match Zf0 P t l o with
    | some (.w x)=>some x
    | _=>none
   | _=>none
  | _=>none
def ZHO (P:Program) (tm:List AV) (M:Mem):List ResultVar→Option (List AW)
 | []=>some []
 | r :: l=>match ZMD P tm M r with
  | some x=>match ZHO P tm M l with
   | some xs=>some (x :: xs)
   | none=>none
  | none=>none
def ZME:List AW→AV
 | [x]=>.w x
 | l=>.tp l
def ZJp (n:Nat) (args:List AW):List AV:=args.map .w ++ List.replicate (n - args.length) Zgc
def ZBu {P:Program} (T:Tab P) (L:Nat→List AV→Mem→Zbe) (fn:Func) (args:List AW) (M0:Mem) (Q:AV→Mem→Prop):Prop :=
 match fn.body with
 | some c=>ZdT T L c (ZJp fn.ntmps args) M0 (fun e tm M=>match e with
  | .normal=>(match ZHO P tm M fn.results.toList with | some l=>Q (ZME l) M | none=>False)
  | .ret=>(match ZHO P tm M fn.results.toList with | some l=>Q (ZME l) M | none=>False)
  | _=>False)
 | none=>False
def Zl4 (M new:Mem):AV→AV→MR
 | .w a, .w b=>ZcS M new [] a b
 | r,res=>Zl2 M new [] r res
def ZMF (res:AV) (new:Mem) (r:AV) (M:Mem):Prop:=let m:=Zl4 M new r res
 m.need∧(Nat.beq m.used.length new.length && ZaW (somes m.used))=true
section
variable {P:Program} {X:List Nat} {W:World} {E:Env} {M:Mem} {a:Act} {tm:List AV} {o:Oper}
theorem ZGa {c:AC} {L:Lnd} {q:ZfD} (h:Zfa M c=some (L,q)) (ho:ZE5 c=false):L=.no:=by
 cases c with
 | hs L' t xs =>
  cases L' with
  | no=>obtain ⟨rfl,_⟩:=Prod.mk.inj (Option.some.inj (show some (Lnd.no,(⟨t,xs,0⟩:ZfD))=some (L,q) from h)); rfl
  | «at» i v c=>cases ho
 | row i v=>cases ho
 | sl i v c n k o=>cases ho
 | _=>cases h
theorem Zsn (hM:RepM X W E M):∀ (t:Ty) {l:List AC} {x:t.den} {rest:List AC} {vs:List Value},ZgB M t l=some (x,rest)→Zbu X W E M l vs →
 ∃ cs us F,vs=cs ++ us∧rep W x cs F∧Zbu X W E M rest us∧(∀ b ∈ F,(b ∉ X∧b < W.heap.size)∧(l.any ZE5=false→b ∉ foots E))∧(l.any ZE5=false→rest.any ZE5=false)
 | .int k,l,x,rest,vs,h,hr=>by
  have h:ZiN k l=some (x,rest):=h
  unfold ZiN at h
  split at h
  ·split at h
   ·rename_i hk
    subst hk
    exact Zva
   ·cases h
  ·cases h
 | .bool,l,x,rest,vs,h,hr=>by
  have h:Zf1 l=some (x,rest):=h
  unfold Zf1 at h
  split at h
  ·obtain ⟨rfl,rfl⟩:=Prod.mk.inj (Option.some.inj h)
   obtain ⟨v,r,rfl,h1,h2⟩:=hr
   exact ⟨[v],r,[],rfl,⟨by rw [show v=_ from h1],rfl⟩,h2,by simp,fun h=>by rw [List.any_cons,Bool.or_eq_false_iff] at h; exact h.2⟩
  ·cases h
 | .opq,l,x,rest,vs,h,hr=>by
  have h:ZiP l=some (x,rest):=h
  unfold ZiP at h
  split at h
  ·obtain ⟨rfl,rfl⟩:=Prod.mk.inj (Option.some.inj h)
   obtain ⟨v,r,rfl,h1,h2⟩:=hr
   exact ⟨[v],r,[],rfl,⟨congrArg (fun z=>[z]) h1.1,h1.2,rfl⟩,h2,by simp,fun h=>by rw [List.any_cons,Bool.or_eq_false_iff] at h; exact h.2⟩
  ·cases h
 | .str,l,x,rest,vs,h,hr=>by
  have h:ZiO l=some (x,rest):=h
  unfold ZiO at h
  split at h
  ·exact Zva
  ·cases h
 | .prod a b,l,x,rest,vs,h,hr=>by
  unfold ZgB at h
  cases ha:ZgB M a l with
  | none=>rw [ha] at h; cases h
  | some q =>
   obtain ⟨y,l1⟩:=q
   rw [ha] at h
   simp only at h
   cases hb:ZgB M b l1 with
   | none=>rw [hb] at h; cases h
   | some q =>
    obtain ⟨z,r2⟩:=q
    rw [hb] at h
    obtain ⟨rfl,rfl⟩:=Prod.mk.inj (Option.some.inj h)
    obtain ⟨c1,u1,F1,rfl,p1,p2,p3,p4⟩:=Zsn hM a ha hr
    obtain ⟨c2,u2,F2,rfl,q1,q2,q3,q4⟩:=Zsn hM b hb p2
    refine ⟨c1 ++ c2,u2,F1 ++ F2,by simp,⟨c1,c2,F1,F2,p1,q1,rfl,rfl⟩,q2,fun b hb=>?_,fun h=>q4 (p4 h)⟩
    rcases List.mem_append.1 hb with hb | hb
    ·exact p3 b hb
    ·exact ⟨(q3 b hb).1,fun h=>(q3 b hb).2 (p4 h)⟩
 | .list a,l,x,rest,vs,h,hr=>by
  have h:Zhy M a l=some (x,rest):=h
  unfold Zhy at h
  split at h
  ·obtain ⟨rfl,rfl⟩:=Prod.mk.inj (Option.some.inj h)
   obtain ⟨v,r,rfl,h1,h2⟩:=hr
   refine ⟨[v],r,[],rfl,?_,h2,by simp,fun h=>by rw [List.any_cons,Bool.or_eq_false_iff] at h; exact h.2⟩
   exact Zv4
  ·rename_i c l' _ _
   obtain ⟨v,r,rfl,h1,h2⟩:=hr
   cases hq:Zfa M c with
   | none=>rw [hq] at h; cases h
   | some q =>
    obtain ⟨L,q⟩:=q
    rw [hq] at h
    simp only at h
    split at h
    ·rename_i ht
     obtain ⟨rfl,rfl⟩:=Prod.mk.inj (Option.some.inj h)
     obtain ⟨A,cap,F,e1,e2,e3⟩:=ZgJ hM hq h1
     obtain ⟨qt,qxs,qc⟩:=q
     simp only at ht e1 e2
     subst ht
     refine ⟨[v],r,F,rfl,⟨A,cap,by rw [e1],e2⟩,h2,fun b hb=>⟨e3.av hM b hb,fun ho=>?_⟩,fun h=>by rw [List.any_cons,Bool.or_eq_false_iff] at h; exact h.2⟩
     rw [List.any_cons,Bool.or_eq_false_iff] at ho
     have hno:L=.no:=ZGa hq ho.1
     subst hno
     exact (e3 b hb).1.1
    ·cases h
  ·cases h
theorem Zso {t:Ty} {l:List AC} {x:t.den} {vs:List Value} (hM:RepM X W E M) (h:ZgB M t l=some (x,[])) (hr:Zbu X W E M l vs) :
 ∃ F,rep W x vs F∧∀ b ∈ F,(b ∉ X∧b < W.heap.size)∧(l.any ZE5=false→b ∉ foots E):=by
 obtain ⟨cs,us,F,rfl,h1,h2,h3,_⟩:=Zsn hM t h hr
 obtain rfl:us=[]:=h2
 rw [List.append_nil]
 exact ⟨F,h1,h3⟩
theorem Zik {X' : List Nat} {t:Ty} {l:List AC} {x:t.den} {vs:List Value} (hM:RepM X W E M) (hX:∀ b,b ∈ X'→b ∈ X∨(b ∈ foots E∧l.any ZE5=false)) (h:ZgB M t l=some (x,[])) (hr:Zbu X W E M l vs):Zbu X' W [] [] (cellsOf t x) vs:=by
 obtain ⟨F,h1,h2⟩:=Zso hM h hr
 exact ZcR (L:=.no) t h1 (fun b hb=>⟨⟨by simp [foots],fun hx=>(hX b hx).elim (h2 b hb).1.1 (fun k=>(h2 b hb).2 k.2 k.1)⟩,(h2 b hb).1.2⟩)
theorem Zil {t:Ty} {b o:Nat} {x:t.den} {cs:List Value} {F:List Nat} (h1:rep W x cs F) (h2:ZcB W b o cs):ZbP W b o [x] F:=⟨cs,F,[],h1,h2,rfl,by simp⟩
theorem Zji {b:Nat} {cs:Array Value} {T:TypeId} (hg:W.heap[b]?=some (.cells cs T (0,0))):ZcB W b 0 cs.toList:=fun j u hj=>by
 rw [Nat.zero_add,cell_of_row W b j cs T (0,0) hg,frozen_of_row W b j cs T hg]
 exact ⟨by simpa using hj,rfl⟩
theorem Zsp {X' : List Nat}:∀ (t:Ty) {l:List AC} {x:t.den} {rest:List AC} {vs:List Value},ZF3 t l=some (x,rest)→Zbu X W E M l vs →
 ∃ cs us,vs=cs ++ us∧Zbu X' W [] [] (Zj8 t x) cs∧Zbu X W E M rest us
 | .int k,l,x,rest,vs,h,hr=>by
  have h:ZiN k l=some (x,rest):=h
  unfold ZiN at h
  split at h
  ·split at h
   ·rename_i e
    subst e
    exact ZuZ
   ·cases h
  ·cases h
 | .bool,l,x,rest,vs,h,hr=>by
  have h:Zf1 l=some (x,rest):=h
  unfold Zf1 at h
  exact Zo8
 | .opq,l,x,rest,vs,h,hr=>by
  have h:ZiP l=some (x,rest):=h
  unfold ZiP at h
  exact Zo8
 | .str,l,x,rest,vs,h,hr=>by
  have h:ZiO l=some (x,rest):=h
  unfold ZiO at h
  exact Zo8
 | .prod a b,l,x,rest,vs,h,hr=>by
  unfold ZF3 at h
  cases ha:ZF3 a l with
  | none=>rw [ha] at h; cases h
  | some q =>
   obtain ⟨y,l1⟩:=q
   rw [ha] at h
   simp only at h
   cases hb:ZF3 b l1 with
   | none=>rw [hb] at h; cases h
   | some q =>
    obtain ⟨z,r2⟩:=q
    rw [hb] at h
    obtain ⟨rfl,rfl⟩:=Prod.mk.inj (Option.some.inj h)
    obtain ⟨c1,u1,rfl,p1,p2⟩:=Zsp (X':=X') a ha hr
    obtain ⟨c2,u2,rfl,q1,q2⟩:=Zsp (X':=X') b hb p2
    exact ⟨c1 ++ c2,u2,by simp,Zbu.append p1 q1,q2⟩
 | .list a,[],_,_,_,h,_=>by cases h
 | .list a,c :: l,x,rest,vs,h,hr=>by
  obtain ⟨rfl,rfl⟩:=Prod.mk.inj (Option.some.inj h)
  obtain ⟨v,r,rfl,h1,h2⟩:=hr
  exact ⟨[v],r,rfl,⟨v,[],rfl,Zbo.one h1,rfl⟩,h2⟩
theorem ZzM {X' : List Nat} {t:Ty} {l:List AC} {d:t.den} {v:Value} (h:(bif l.any slC then (match ZF3 t l with | some (x,[])=>some x | _=>none) else none)=some d) (hr:Zcd X W E M (.w (.ag l)) v) :
 Zhv X' W [] [] (.ag (Zj8 t d)) v:=by
 cases hs:l.any slC with
 | false=>rw [hs] at h; cases h
 | true =>
  rw [hs] at h
  simp only [cond_true] at h
  split at h
  ·rename_i z hz
   obtain rfl:z=d:=Option.some.inj h
   obtain ⟨cs,e,h2⟩:=(hr:∃ cs,v=.agg cs.toArray∧Zbu X W E M l cs)
   obtain ⟨c1,us,rfl,h3,h4⟩:=Zsp (X':=X') t hz h2
   obtain rfl:us=[]:=h4
   rw [List.append_nil] at e
   exact ⟨c1,e,h3⟩
  ·cases h
theorem ZtL {X' : List Nat} {y:ATy} {x:AV} {d:y.ty.den} {v:Value} (hM:RepM X W E M) (hX:∀ b,b ∈ X'→b ∈ X∨(b ∈ foots E∧(match y with | .p _=>False | _=>True)∧ZDH x=false)) (h:Zhz M y x=some d) (hr:Zcd X W E M x v) :
 Zhv X' W [] [] (ZmC y d) v:=by
 unfold Zhz at h
 split at h
 ·rename_i t c
  split at h
  ·rename_i z hz
   obtain rfl:z=d:=Option.some.inj h
   have h1:=Zik (X':=X') hM (fun b hb=>(hX b hb).imp id (fun k=>⟨k.1,by rw [List.any_cons,List.any_nil,Bool.or_false]; exact k.2.2⟩)) hz (⟨v,[],rfl,hr,rfl⟩:Zbu X W E M [c] [v])
   show Zbo X' W [] [] (enc1 t z) v
   unfold enc1
   have hl:=h1.len
   cases hc:cellsOf t z with
   | nil=>rw [hc] at hl; simp at hl
   | cons q qs =>
    rw [hc] at h1
    obtain ⟨v',r,e,q1,_⟩:=h1
    simp at e
    rw [e.1]
    exact q1
  ·cases h
 ·rename_i t l
  split at h
  ·rename_i z hz
   obtain rfl:z=d:=Option.some.inj h
   obtain ⟨cs,e,h2⟩:=(hr:∃ cs,v=.agg cs.toArray∧Zbu X W E M l cs)
   exact ⟨cs,e,Zik hM (fun b hb=>(hX b hb).imp id (fun k=>⟨k.1,k.2.2⟩)) hz h2⟩
  ·cases h
 ·rename_i t i
  split at h
  ·rename_i l hb
   split at h
   ·rename_i z hz
    obtain rfl:z=d:=Option.some.inj h
    obtain ⟨e,he,hv⟩:=(hr:Zhi E i v 0)
    obtain ⟨hf,cs,T,hg,hl⟩:=hM.at_ i _ e hb he
    obtain ⟨F,h1,h2⟩:=Zso hM hz hl
    have hX' : ∀ b ∈ X',b ∈ X:=fun b hb=>(hX b hb).elim id (fun h=>h.2.1.elim)
    have hblk:e.blk ∈ foots E:=Zaw.2 ⟨e,List.mem_of_getElem? he,by simp [hf]⟩
    refine ⟨by rw [hv]; rfl,e.blk :: F,⟨e.blk,0,F,rfl,by rw [hv]; simp,by simp,Zil h1 (Zji hg)⟩,fun g hg'=>⟨⟨by simp [foots],fun hx=>?_⟩,?_⟩⟩
    ·rcases List.mem_cons.1 hg' with rfl | hg'
     ·exact hM.xlt _ (hX' _ hx) hblk
     ·exact (h2 g hg').1.1 (hX' g hx)
    ·rcases List.mem_cons.1 hg' with rfl | hg'
     ·exact hM.lt _ hblk
     ·exact (h2 g hg').1.2
   ·cases h
  ·cases h
 ·rename_i t L t' xs k
  cases hL:Zdu M L with
  | false=>rw [hL] at h; cases h
  | true =>
   rw [hL] at h
   simp only [cond_true] at h
   split at h
   ·rename_i ht
    subst ht
    obtain rfl:nth t' xs k=d:=Option.some.inj h
    obtain ⟨b,off,cs,Gk,e,h1,h2,h3⟩:=ZJe hL hr
    obtain ⟨F,⟨b',off',G',rfl,e',hk,hr'⟩,hF⟩:=Zf9 hL (hr:Zbo X W E M (.ep L t' xs k 0) v).2
    have hX' : ∀ b ∈ X',b ∈ X:=fun b hb=>(hX b hb).elim id (fun h=>h.2.1.elim)
    have hav:=hF.av hM
    have hav2:=h2.av hM
    have hbb:b=b'∧off + k * t'.n=off' + k * t'.n:=by
     exact Zvn
    refine ⟨Zbo.one (show Zbo X W E M (.ep L t' xs k 0) v from hr),b :: Gk,⟨b,off + k * t'.n,Gk,rfl,by rw [e]; simp,by simp,Zil h1 h3⟩,fun g hg=>?_⟩
    rcases List.mem_cons.1 hg with rfl | hg
    ·have:=hav b' (by simp)
     rw [← hbb.1] at this
     exact ⟨⟨by simp [foots],fun hx=>this.1 (hX' _ hx)⟩,this.2⟩
    ·exact ⟨⟨by simp [foots],fun hx=>(hav2 g hg).1 (hX' g hx)⟩,(hav2 g hg).2⟩
   ·cases h
 ·exact ZzM h hr
 ·exact hr
 ·cases h
theorem Zkf {X' : List Nat} (hM:RepM X W E M):∀ {l:List ATy} {xs:List AV} {d:AD l} {vs:List Value},(∀ b,b ∈ X'→b ∈ X∨(b ∈ foots E∧ZHL l=false∧xs.any ZDH=false))→Zij M l xs=some d→Zbv X W E M xs vs→ZcC X' W [] [] (ZJX l d) vs
 | [],[],_,_,_,_,hr=>hr
 | [],_ :: _,_,_,_,h,_=>by simp [Zij] at h
 | _ :: _,[],_,_,_,h,_=>by simp [Zij] at h
 | y :: l,x :: xs,d,vs,hX,h,⟨v,r,e,h1,h2⟩=>by
  unfold Zij at h
  cases hq:Zhz M y x with
  | none=>rw [hq] at h; cases h
  | some z =>
   rw [hq] at h
   simp only at h
   cases hz:Zij M l xs with
   | none=>rw [hz] at h; cases h
   | some ys =>
    rw [hz] at h
    obtain rfl:(z,ys)=d:=Option.some.inj h
    refine ⟨v,r,e,ZtL hM (fun b hb=>(hX b hb).imp id (fun h=>⟨h.1,?_,?_⟩)) hq h1,Zkf hM (fun b hb=>(hX b hb).imp id (fun h=>⟨h.1,?_,?_⟩)) hz h2⟩
    ·cases y <;> first | trivial | (simp [ZHL] at h)
    ·have:=h.2.2; rw [List.any_cons,Bool.or_eq_false_iff] at this; exact this.1
    ·cases y <;> first | (simpa [ZHL] using h.2.1) | (simp [ZHL] at h)
    ·have:=h.2.2; rw [List.any_cons,Bool.or_eq_false_iff] at this; exact this.2
theorem ZtM {X' : List Nat} {W' : World} {E' : Env} {M' : Mem} {c:AC} {v:Value} (h:Zp0 c=true) (hr:Zbo X W E M c v):Zbo X' W' E' M' c v:=by
 cases c <;> first | exact hr | cases h
theorem ZtN {X' : List Nat} {W' : World} {E' : Env} {M' : Mem}:∀ {l:List AC} {vs:List Value},l.all Zp0=true→Zbu X W E M l vs→Zbu X' W' E' M' l vs
 | [],_,_,h=>h
 | _ :: _,_,h,⟨v,r,e,h1,h2⟩=>by
  rw [List.all_cons,Bool.and_eq_true] at h
  exact ⟨v,r,e,ZtM h.1 h1,ZtN h.2 h2⟩
theorem ZtO {X' : List Nat} {W' : World} {E' : Env} {M' : Mem} {x:AW} {v:Value} (h:ZF5 x=true) (hr:Zhv X W E M x v):Zhv X' W' E' M' x v:=by
 cases x with
 | c a=>exact ZtM h hr
 | ag l=>obtain ⟨cs,e,h2⟩:=hr; exact ⟨cs,e,ZtN h h2⟩
theorem ZqD {X' : List Nat} {W' : World} {E' : Env} {M' : Mem}:∀ {l:List AW} {vs:List Value},l.all ZF5=true→ZcC X W E M l vs→ZcC X' W' E' M' l vs
 | [],_,_,h=>h
 | _ :: _,_,h,⟨v,r,e,h1,h2⟩=>by
  rw [List.all_cons,Bool.and_eq_true] at h
  exact ⟨v,r,e,ZtO h.1 h1,ZqD h.2 h2⟩
theorem ZnV {X' : List Nat} {W' : World} {E' : Env} {M' : Mem} {x:AV} {v:Value} (h:ZLQ x=true) (hr:Zcd X W E M x v):Zcd X' W' E' M' x v:=by
 cases x with
 | w x=>exact ZtO h hr
 | tp l=>obtain ⟨vs,e,h2⟩:=hr; exact ⟨vs,e,ZqD h h2⟩
 | any=>trivial
end
section
variable {X:List Nat} {W W' : World} {E E' : Env} {M N:Mem}
theorem ZnW (hl:M.length=E.length) {i q:Nat} {v:Value} (h:Zhi E' i v q):Zhi (E ++ E') (i + M.length) v q:=by
 obtain ⟨e,h1,h2⟩:=h
 exact ⟨e,by rw [hl,Nat.add_comm,List.getElem?_append_right (by omega),Nat.add_sub_cancel_left]; exact h1,h2⟩
theorem Zl5 (hl:M.length=E.length):∀ {is:List Nat} {vs:List Value},Zdm E' is vs→Zdm (E ++ E') (is.map (· + M.length)) vs
 | [],_,h=>h
 | _ :: _,_,⟨v,r,e,h1,h2⟩=>⟨v,r,e,ZnW hl h1,Zl5 hl h2⟩
theorem Zfi (hl:M.length=E.length) (i:Nat):(M ++ N)[i + M.length]?=N[i]?∧(E ++ E')[i + M.length]?=E'[i]? :=
 ⟨by rw [Nat.add_comm,List.getElem?_append_right (by omega),Nat.add_sub_cancel_left],by rw [hl,Nat.add_comm,List.getElem?_append_right (by omega),Nat.add_sub_cancel_left]⟩
theorem ZnX {X' : List Nat} {Q:List Nat→Prop} (hl:M.length=E.length) (hX:∀ b ∈ X,b ∈ X') (hc:∀ b ∈ foots E,b ∈ X'):∀ {L:Lnd},ZjZ X' W' E' N L Q→ZjZ X W' (E ++ E') (M ++ N) (ZDE M.length L) Q
 | .no,⟨F,h1,h2⟩=>⟨F,h1,fun b hb=>by
  have:=h2 b hb
  rw [ZaV,List.mem_append]
  exact ⟨⟨fun h=>h.elim (fun h=>this.1.2 (hc b h)) this.1.1,fun h=>this.1.2 (hX b h)⟩,this.2⟩⟩
 | .at i v c,h=>by
  have h:Zc4 E' N i v c Q:=h
  show Zc4 (E ++ E') (M ++ N) (i + M.length) v c Q
  unfold Zc4 at h ⊢
  rw [(Zfi (E':=E') hl i).1,(Zfi (N:=N) hl i).2]
  exact h
theorem ZnY (hl:M.length=E.length) {i ver c n k o:Nat} {u:Value} (h:Zlr W' E' N i ver c n k o u):Zlr W' (E ++ E') (M ++ N) (i + M.length) ver c n k o u:=by
 obtain ⟨b,h1,h2⟩:=h
 refine ⟨b,?_,?_⟩
 ·unfold ZbL at h1 ⊢
  rw [(Zfi (E':=E') hl i).1,(Zfi (N:=N) hl i).2]
  exact h1
 ·unfold Zc4 at h2 ⊢
  exact Zwl
theorem ZqE {X' : List Nat} (hl:M.length=E.length) (hX:∀ b ∈ X,b ∈ X'):∀ {c:AC} {v:Value},(ZJY c=true∨∀ b ∈ foots E,b ∈ X')→Zbo X' W' E' N c v→Zbo X W' (E ++ E') (M ++ N) (ZqA M.length c) v
 | .int _ _,_,_,h=>h
 | .bool _,_,_,h=>h
 | .str _,_,_,h=>h
 | .opq _,_,_,h=>h
 | .hs L t xs,v,hc,h=>⟨h.1,ZnX hl hX (hc.resolve_left (by simp [ZJY])) h.2⟩
 | .bp _ _,_,_,h=>ZnW hl h
 | .ep L t xs k o,v,hc,h=>⟨h.1,ZnX hl hX (hc.resolve_left (by simp [ZJY])) h.2⟩
 | .row i ver,v,_,h=>by
  exact ZoU
 | .rp i ver n k o,v,_,h=>by
  exact ZoU
 | .sl i ver c n k o,v,_,h=>⟨h.1,ZnY hl h.2⟩
 | .sp i ver c n k o m x q,v,_,⟨h0,b,l,cap,h1,h2⟩=>⟨h0,b,l,cap,ZnY hl h1,h2⟩
 | .tl i ver n k,v,_,h=>by
  exact ZoU
 | .mp i,v,_,⟨e,h1,h2⟩=>⟨e,by rw [(Zfi (N:=N) hl i).2]; exact h1,h2⟩
 | .fn f caps,v,_,⟨vs,e,h⟩=>⟨vs,e,Zl5 hl h⟩
 | .raw _,_,_,h=>h
 | .junk,_,_,h=>h
theorem Zly {X' : List Nat} (hl:M.length=E.length) (hX:∀ b ∈ X,b ∈ X'):∀ {l:List AC} {vs:List Value},(l.all ZJY=true∨∀ b ∈ foots E,b ∈ X')→Zbu X' W' E' N l vs→Zbu X W' (E ++ E') (M ++ N) (l.map (ZqA M.length)) vs
 | [],_,_,h=>h
 | _ :: _,_,hc,⟨v,r,e,h1,h2⟩=>⟨v,r,e,ZqE hl hX (hc.imp (fun h=>by rw [List.all_cons,Bool.and_eq_true] at h; exact h.1) id) h1,Zly hl hX (hc.imp (fun h=>by rw [List.all_cons,Bool.and_eq_true] at h; exact h.2) id) h2⟩
theorem ZqF {X' : List Nat} (hl:M.length=E.length) (hX:∀ b ∈ X,b ∈ X'):∀ {x:AW} {v:Value},(ZMy x=true∨∀ b ∈ foots E,b ∈ X')→Zhv X' W' E' N x v→Zhv X W' (E ++ E') (M ++ N) (ZzK M.length x) v
 | .c _,_,hc,h=>ZqE hl hX hc h
 | .ag _,_,hc,⟨cs,e,h⟩=>⟨cs,e,Zly hl hX hc h⟩
theorem ZnZ {X' : List Nat} (hl:M.length=E.length) (hX:∀ b ∈ X,b ∈ X'):∀ {l:List AW} {vs:List Value},(l.all ZMy=true∨∀ b ∈ foots E,b ∈ X')→ZcC X' W' E' N l vs→ZcC X W' (E ++ E') (M ++ N) (l.map (ZzK M.length)) vs
 | [],_,_,h=>h
 | _ :: _,_,hc,⟨v,r,e,h1,h2⟩=>⟨v,r,e,ZqF hl hX (hc.imp (fun h=>by rw [List.all_cons,Bool.and_eq_true] at h; exact h.1) id) h1,ZnZ hl hX (hc.imp (fun h=>by rw [List.all_cons,Bool.and_eq_true] at h; exact h.2) id) h2⟩
theorem ZqG {X' : List Nat} (hl:M.length=E.length) (hX:∀ b ∈ X,b ∈ X') {x:AV} {v:Value} (hc:ZPS x=true∨∀ b ∈ foots E,b ∈ X') (h:Zcd X' W' E' N x v):Zcd X W' (E ++ E') (M ++ N) (ZDF M.length x) v:=by
 cases x with
 | w x=>exact ZqF hl hX hc h
 | tp l=>obtain ⟨vs,e,h⟩:=h; exact ⟨vs,e,ZnZ hl hX hc h⟩
 | any=>trivial
theorem Zn0 (g:Zbb W [] W' E') (hM:RepM X W E M):Zbb W E W' (E ++ E') where
 os:=g.os
 tape:=g.tape
 output:=g.output
 size:=g.size
 keep b hb _:=g.keep b hb (by simp [foots])
 new b hb:=by
  rw [ZaV,List.mem_append] at hb
  exact hb.elim .inl (fun h=>.inr ((g.new b h).elim (fun h=>by simp [foots] at h) id))
 blk i e he:=⟨e,by rw [List.getElem?_append_left (List.getElem?_eq_some_iff.1 he).1]; exact he,rfl⟩
theorem ZqH {n:Nat}:∀ {l:List AC},l.all ZMz=true→l.map (ZqA n)=l
 | [],_=>rfl
 | c :: l,h=>by
  rw [List.all_cons,Bool.and_eq_true] at h
  rw [List.map_cons,ZqH h.2]
  have:ZqA n c=c:=by
   cases c <;> first | rfl | skip
   case hs L t xs=>cases L <;> first | rfl | exact absurd h.1 (by simp [ZMz,Zp0])
   all_goals exact absurd h.1 (by simp [ZMz,Zp0])
  rw [this]
theorem ZtP {X' : List Nat} (g:Zbb W [] W' E') (hX:∀ b ∈ X,b ∈ X') (hM:RepM X W E M) (hN:RepM X' W' E' N) (hrow:N.all ZPT=true∨N.all ZPU=true∧∀ b ∈ foots E,b ∈ X'):ZaK W E M W' (E ++ E') (M ++ N)∧RepM X W' (E ++ E') (M ++ N):=by
 have hg:=Zn0 g hM
 have hkeep:∀ b ∈ foots E,W'.heap[b]?=W.heap[b]?:=fun b hb=>g.keep b (hM.lt b hb) (by simp [foots])
 have hm:ZaK W E M W' (E ++ E') (M ++ N):=Zdo (W:=W) (W':=W') ⟨g.os,g.tape,g.output,g.size,fun b hb _=>g.keep b hb (by simp [foots]),fun b hb=>.inl hb,fun _ e h=>⟨e,h,rfl⟩⟩ hM hkeep N E'
 refine ⟨hm,⟨by simp [hM.len,hN.len],Zfb hM.nodup hN.nodup hM.lt (fun b hb=>(g.new b hb).elim (fun h=>by simp [foots] at h) id),fun i b e hb he=>?_,fun b hb=>?_,fun b hb hf=>?_,fun b hb=>Nat.lt_of_lt_of_le (hM.xsz b hb) g.size⟩⟩
 ·by_cases hi:i < M.length
  ·rw [List.getElem?_append_left hi] at hb
   rw [List.getElem?_append_left (by rw [← hM.len]; exact hi)] at he
   exact (hM.at_ i b e hb he).keep hg hm hM.len (fun q hq=>hkeep q (Zaw.2 ⟨e,List.mem_of_getElem? he,hq⟩))
  ·rw [List.getElem?_append_right (by omega)] at hb
   rw [List.getElem?_append_right (by rw [← hM.len]; omega),← hM.len] at he
   have h1:=hN.at_ _ b e hb he
   rcases hrow with hrow | ⟨hrow,hE⟩
   ·have hr:=List.all_eq_true.1 hrow b (List.mem_of_getElem? hb)
    cases b with
    | row t xs v c hh =>
     cases hh with
     | none=>exact h1
     | some _=>cases hr
    | box l=>cases hr
    | mp _=>cases hr
    | dead=>cases hr
   ·have hr:=List.all_eq_true.1 hrow b (List.mem_of_getElem? hb)
    cases b with
    | row t xs v c hh =>
     cases hh with
     | none=>exact h1
     | some _=>cases hr
    | box l =>
     obtain ⟨hf,cs,T,hw,hl⟩:=h1
     refine ⟨hf,cs,T,hw,?_⟩
     have:=Zly (M:=M) (E:=E) hM.len hX (.inr hE) hl
     rwa [ZqH hr] at this
    | mp _=>cases hr
    | dead=>cases hr
 ·rw [ZaV,List.mem_append] at hb
  exact hb.elim (fun h=>Nat.lt_of_lt_of_le (hM.lt b h) g.size) (hN.lt b)
 ·rw [ZaV,List.mem_append] at hf
  exact hf.elim (hM.xlt b hb) (hN.xlt b (hX b hb))
end
section
variable {P:Program} {X:List Nat} {W:World} {E:Env} {M:Mem} {a:Act} {tm:List AV} {o:Oper} {T:Tab P}
def ZGb (X:List Nat) (P:Program) (o:Oper) (a:Act) (W:World) (E:Env) (M:Mem) (v:AV) (M' : Mem):Prop :=
 ∀ (next:Act→World→Prop) (Q:Exit→Act→World→Prop),(∀ u W' E',Zbb W E W' E'→ZaK W E M W' E' M'→RepM X W' E' M'→Zcd X W' E' M' v u→next (a.put o.dst u) W')→o.wp P a W next Q
theorem Zdv.toW {v:AV} {M' : Mem} (h:Zdv X P o a W E M v M'):ZGb X P o a W E M v M':=fun next Q hK=>by
 obtain ⟨u,W',E',h1,g,m,r,hv⟩:=h
 unfold Oper.wp
 rcases h1 with h1 | ⟨h1,rfl⟩
 ·rw [h1]; exact hK _ _ _ g m r hv
 ·rw [h1]; exact hK _ _ _ g m r hv
theorem ZDN {fn:Operand} {args:Array Operand} {ts:Array TypeId} {f:FuncId} {caps:Array Value} (ho:o.op=.call ⟨.value fn,args,ts⟩) (hf:a.eval fn=.func (.func f) #[] caps)
 (hent:∀ args w,(callFunc f args).run P w=.ok (.enter f args) w):(execOp a.eval o).run P W=.ok (.enter f (args.map a.eval ++ caps)) W:=by
 unfold execOp
 simp only [ho,resolve,hf,Deferred.ofValue,Sem.run_bind,Sem.run_pure,Result.andThen_ok,invoke,Array.empty_append,hent]
theorem ZqI {fn:Operand} {args:Array Operand} {ts:Array TypeId} {f:FuncId} {caps:List Value} {v:AV} {M' : Mem} (ho:o.op=.call ⟨.value fn,args,ts⟩) (hf:a.eval fn=.func (.func f) #[] caps.toArray)
 (hent:∀ args w,(callFunc f args).run P w=.ok (.enter f args) w)
 (hc:Calls P f (args.toList.map a.eval ++ caps).toArray W (fun e W'=>∃ u E',e=.returned u∧Zbb W E W' E'∧ZaK W E M W' E' M'∧RepM X W' E' M'∧Zcd X W' E' M' v u)):ZGb X P o a W E M v M':=fun next Q hK=>by
 unfold Oper.wp
 rw [ZDN ho hf hent,Oper.upon_enter]
 have e1:args.map a.eval ++ caps.toArray=(args.toList.map a.eval ++ caps).toArray:=by
  rw [← List.append_toArray,← Array.toList_map]
 rw [e1]
 refine hc.mono fun e W' h=>?_
 obtain ⟨u,E',rfl,g,m,r,hv⟩:=h
 exact hK u W' E' g m r hv
theorem ZmR {f:FuncId}:∀ {l:List (ZaD P)} {e:ZaD P},Zsj f l=some e→e.f=f
 | [],_,h=>by cases h
 | d :: l,e,h=>by
  unfold Zsj at h
  cases hb:Nat.beq d.f f with
  | true=>rw [hb] at h; obtain rfl:=Option.some.inj h; exact Nat.eq_of_beq_eq_true hb
  | false=>rw [hb] at h; exact ZmR h
theorem Zsq {f:FuncId}:∀ {l:List (ZhD P)} {e:ZhD P},ZBs f l=some e→e.f=f
 | [],_,h=>by cases h
 | d :: l,e,h=>by
  unfold ZBs at h
  cases hb:Nat.beq d.f f with
  | true=>rw [hb] at h; obtain rfl:=Option.some.inj h; exact Nat.eq_of_beq_eq_true hb
  | false=>rw [hb] at h; exact Zsq h
theorem ZtQ {f:FuncId}:∀ {l:List (ZhE P)} {e:ZhE P},ZqB f l=some e→e.f=f
 | [],_,h=>by cases h
 | d :: l,e,h=>by
  unfold ZqB at h
  cases hb:Nat.beq d.f f with
  | true=>rw [hb] at h; obtain rfl:=Option.some.inj h; exact Nat.eq_of_beq_eq_true hb
  | false=>rw [hb] at h; exact ZtQ h
theorem ZDO:∀ {ids:List Nat} {vs:List Value},Zdm E ids vs→Zbv X W E M (ids.map (fun i=>.c (.bp i 0))) vs
 | [],_,h=>h
 | _ :: _,_,⟨v,r,e,h1,h2⟩=>⟨v,r,e,h1,ZDO h2⟩
theorem Zbv.append:∀ {l k:List AV} {vs us:List Value},Zbv X W E M l vs→Zbv X W E M k us→Zbv X W E M (l ++ k) (vs ++ us)
 | [],_,_,_,h,h2=>by rw [show _=_ from h]; exact h2
 | _ :: _,_,_,_,⟨v,r,e,h1,h3⟩,h2=>by rw [e]; exact ⟨v,_,rfl,h1,Zbv.append h3 h2⟩
def ZLW:AC→Bool
 | .raw _=>true
 | .bp _ _=>true
 | .ep _ _ _ _ _=>true
 | .row _ _=>true
 | .rp _ _ _ _ _=>true
 | .sl _ _ _ _ _ _=>true
 | .sp _ _ _ _ _ _ _ _ _=>true
 | .tl _ _ _ _=>true
 | .mp _=>true
 | .junk=>true
 | .hs (.at _ _ _) _ _=>true
 | .fn _ _=>true
 | _=>false
theorem Zfj:∀ (t:Ty) (x:t.den),∀ c ∈ cellsOf t x,ZLW c=false
 | .int _,_,c,h=>by obtain rfl:=List.mem_singleton.1 h; rfl
 | .bool,_,c,h=>by obtain rfl:=List.mem_singleton.1 h; rfl
 | .str,_,c,h=>by obtain rfl:=List.mem_singleton.1 h; rfl
 | .opq,_,c,h=>by obtain rfl:=List.mem_singleton.1 h; rfl
 | .prod a b,x,c,h=>(List.mem_append.1 h).elim (Zfj a _ c) (Zfj b _ c)
 | .list _,_,c,h=>by obtain rfl:=List.mem_singleton.1 h; rfl
theorem Zn1:∀ (t:Ty) {l:List AC} {x:t.den} {rest:List AC},(∀ c ∈ l,ZLW c=false)→ZgB M t l=some (x,rest)→l=cellsOf t x ++ rest
 | .int k,l,x,rest,hl,h=>by
  have h:ZiN k l=some (x,rest):=h
  unfold ZiN at h
  split at h
  ·split at h
   ·rename_i hk
    subst hk
    exact ZoX
   ·cases h
  ·cases h
 | .bool,l,x,rest,hl,h=>by
  have h:Zf1 l=some (x,rest):=h
  unfold Zf1 at h
  exact Zo9
 | .opq,l,x,rest,hl,h=>by
  have h:ZiP l=some (x,rest):=h
  unfold ZiP at h
  exact Zo9
 | .str,l,x,rest,hl,h=>by
  have h:ZiO l=some (x,rest):=h
  unfold ZiO at h
  exact Zo9
 | .prod a b,l,x,rest,hl,h=>by
  unfold ZgB at h
  cases ha:ZgB M a l with
  | none=>rw [ha] at h; cases h
  | some q =>
   obtain ⟨y,l1⟩:=q
   rw [ha] at h
   simp only at h
   cases hb:ZgB M b l1 with
   | none=>rw [hb] at h; cases h
   | some q =>
    obtain ⟨z,r2⟩:=q
    rw [hb] at h
    obtain ⟨rfl,rfl⟩:=Prod.mk.inj (Option.some.inj h)
    have h1:=Zn1 a hl ha
    have h2:=Zn1 b (fun c hc=>hl c (by rw [h1]; simp [hc])) hb
    rw [h1,h2]
    show _=(cellsOf a y ++ cellsOf b z) ++ r2
    rw [List.append_assoc]
 | .list a,l,x,rest,hl,h=>by
  have h:Zhy M a l=some (x,rest):=h
  cases l with
  | nil=>cases h
  | cons c l =>
   have hc:=hl c List.mem_cons_self
   cases c with
   | hs L t xs =>
    cases L with
    | no =>
     have h:(if h:t=a then some (h ▸ xs,l) else none)=some (x,rest):=h
     split at h
     ·rename_i hk
      subst hk
      exact ZoX
     ·cases h
    | «at» i v c=>cases hc
   | int k x=>cases h
   | bool b=>cases h
   | str s=>cases h
   | opq s=>cases h
   | bp i o=>cases h
   | fn f l=>cases hc
   | raw v=>cases hc
   | _=>cases hc
theorem ZmS {t:Ty} {x:t.den}:ZLW (enc1 t x)=false:=by
 unfold enc1
 have h:=Zfj t x
 cases hc:cellsOf t x with
 | nil=>rfl
 | cons c l=>rw [hc] at h; exact h c List.mem_cons_self
theorem Zlz:∀ (t:Ty) (x:t.den),(cellsOf t x).any slC=false
 | .int _,_=>rfl
 | .bool,_=>rfl
 | .str,_=>rfl
 | .opq,_=>rfl
 | .prod a b,x=>by
  show (cellsOf a x.1 ++ cellsOf b x.2).any slC=false
  rw [List.any_append,Zlz a,Zlz b]
  rfl
 | .list _,_=>rfl
theorem Zkg {agg:Bool} {t:Ty} {x:t.den} {y:ATy} {d:y.ty.den} (h:Zhz M y (ZcT agg t x)=some d):ZcT agg t x=.w (ZmC y d):=by
 cases agg with
 | true =>
  have he:ZcT true t x=.w (.ag (cellsOf t x)):=rfl
  rw [he] at h ⊢
  cases y with
  | z=>cases h
  | v t'=>cases h
  | p t'=>cases h
  | q t' =>
   exact Zvg
  | s t' =>
   have h:(match ZgB M t' (cellsOf t x) with | some (x,[])=>some x | _=>none)=some d:=h
   split at h
   ·rename_i z hz
    obtain rfl:=Option.some.inj h
    have:=Zn1 t' (Zfj t x) hz
    rw [List.append_nil] at this
    rw [this]
    rfl
   ·cases h
 | false =>
  have he:ZcT false t x=.w (.c (enc1 t x)):=rfl
  have hr:=ZmS (t:=t) (x:=x)
  rw [he] at h ⊢
  cases y with
  | s t'=>cases h
  | q t'=>cases h
  | z =>
   exact Zvv
  | p t' =>
   exact Zvv
  | v t' =>
   have h:(match ZgB M t' [enc1 t x] with | some (x,[])=>some x | _=>none)=some d:=h
   split at h
   ·rename_i z hz
    obtain rfl:=Option.some.inj h
    have:=Zn1 t' (fun c hc=>by obtain rfl:=List.mem_singleton.1 hc; exact hr) hz
    rw [List.append_nil] at this
    show _=AV.w (.c (enc1 t' z))
    unfold enc1 at this ⊢
    rw [← this]
    rfl
   ·cases h
theorem ZDP {i:Nat}:∀ t:Ty,ZgB M t [.bp i 0]=none
 | .int _=>rfl
 | .bool=>rfl
 | .str=>rfl
 | .opq=>rfl
 | .prod a b=>by unfold ZgB; rw [ZDP a]
 | .list _=>rfl
def ZBv:(l:List ATy)→AD l→List CV
 | [],_=>[]
 | a :: l,d=>⟨a.ty,d.1⟩ :: ZBv l d.2
theorem Zn2 (hM:RepM X W E M):∀ {l:List ATy} {ids:List Nat} {d:AD l} {vs:List Value},Zij M l (ids.map (fun i=>.c (.bp i 0)))=some d→Zdm E ids vs →
 ZJX l d=(ZBv l d).map CV.arg∧ZDG X W (ZBv l d) vs
 | [],[],_,_,_,h=>⟨rfl,h⟩
 | [],_ :: _,_,_,h,_=>by simp [Zij] at h
 | _ :: _,[],_,_,h,_=>by simp [Zij] at h
 | y :: l,i :: ids,d,vs,h,⟨v,r,e,h1,h2⟩=>by
  rw [List.map_cons] at h
  unfold Zij at h
  cases hq:Zhz M y (.c (.bp i 0)) with
  | none=>rw [hq] at h; cases h
  | some z =>
   rw [hq] at h
   simp only at h
   cases hz:Zij M l (ids.map (fun i=>.c (.bp i 0))) with
   | none=>rw [hz] at h; cases h
   | some ys =>
    rw [hz] at h
    obtain rfl:(z,ys)=d:=Option.some.inj h
    obtain ⟨k1,k2⟩:=Zn2 hM hz h2
    have hrep:=ZtL (X':=X) (W:=W) hM (fun b hb=>.inl hb) hq (show Zcd X W E M (.c (.bp i 0)) v from h1)
    have hshape:ZmC y z=CV.arg ⟨y.ty,z⟩:=by
     cases y with
     | v t =>
      exfalso
      have hq:(match ZgB M t [.bp i 0] with | some (x,[])=>some x | _=>none)=some z:=hq
      rw [ZDP] at hq
      cases hq
     | s t=>cases hq
     | q t=>cases hq
     | z=>cases hq
     | p t=>rfl
    refine ⟨?_,v,r,e,?_,k2⟩
    ·show ZmC y z :: ZJX l ys=CV.arg ⟨y.ty,z⟩ :: (ZBv l ys).map CV.arg
     rw [hshape,k1]
    ·rw [hshape] at hrep
     exact hrep
end
end Go.Proofs.YtkeglpnnedflnaaGreatDoor
