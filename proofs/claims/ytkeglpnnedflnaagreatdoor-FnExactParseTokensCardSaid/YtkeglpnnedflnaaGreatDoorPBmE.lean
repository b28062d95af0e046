import Derived.Test.YtkeglpnnedflnaaGreatDoorPRep
import Derived.Laws.CopyRow
set_option linter.unusedSimpArgs false
set_option linter.unusedVariables false
namespace Go.Proofs.YtkeglpnnedflnaaGreatDoor
open Go.ChangeShapes Go.WideShapes Go.ChangeAt Go.RowKit Go.Joins Go.Deep
open GoRep (rep bulk)
inductive Ty where
 | int (k:IntKind)
 | bool
 | str
 | opq
 | prod (a b:Ty)
 | list (a:Ty)
 deriving DecidableEq
def Ty.den:Ty→Type
 | .int _=>Int
 | .bool=>Bool
 | .str=>ByteArray
 | .opq=>Value
 | .prod a b=>a.den × b.den
 | .list a=>List a.den
@[instance_reducible] def ZLz (k:IntKind):GoRep Int where
  n:=1
  pos:=by omega
  rep _ x cs F:=cs=[.int k x]∧(Lit.int k x).wf=true∧F=[]
  len h:=by rw [h.1]; rfl
  keep h _:=h
  lt h:=by rw [h.2.2]; simp
  one h:=by rw [h.1]; rfl
  bulk _:=0
@[instance_reducible] def ZLA:GoRep Value where
  n:=1
  pos:=by omega
  rep _ x cs F:=cs=[x]∧x.oneCell'=true∧F=[]
  len h:=by rw [h.1]; rfl
  keep h _:=h
  lt h:=by rw [h.2.2]; simp
  one h:=by rw [h.1,List.all_cons,h.2.1]; rfl
  bulk _:=0
instance tyRep:(t:Ty)→GoRep t.den
 | .int k=>ZLz k
 | .bool=>inferInstanceAs (GoRep Bool)
 | .str=>inferInstanceAs (GoRep ByteArray)
 | .opq=>ZLA
 | .prod a b=>@instGoRepProd a.den b.den (tyRep a) (tyRep b)
 | .list a=>@instGoRepList a.den (tyRep a)
def Ty.n:Ty→Nat
 | .prod a b=>a.n + b.n
 | _=>1
theorem Ty.n_eq:∀ t:Ty,GoRep.n t.den=t.n
 | .int _=>rfl
 | .bool=>rfl
 | .str=>rfl
 | .opq=>rfl
 | .prod a b=>by
  have h1:=Ty.n_eq a
  have h2:=Ty.n_eq b
  show GoRep.n a.den + GoRep.n b.den=a.n + b.n
  rw [h1,h2]
 | .list _=>rfl
def Ty.dflt:(t:Ty)→t.den
 | .int _=>(0:Int)
 | .bool=>false
 | .str=>(⟨#[]⟩:ByteArray)
 | .opq=>Value.slice none 0 0
 | .prod a b=>(a.dflt,b.dflt)
 | .list _=>([]:List _)
def Ty.flat:Ty→Bool
 | .prod a b=>a.flat && b.flat
 | .list _=>false
 | _=>true
def nth (t:Ty) (xs:List t.den) (k:Nat):t.den:=xs.getD k t.dflt
inductive Lnd where
 | no
 | at (i v c:Nat)
 deriving DecidableEq
inductive AC where
 | int (k:IntKind) (x:Int)
 | bool (b:Bool)
 | str (s:ByteArray)
 | opq (v:Value)
 | hs (L:Lnd) (t:Ty) (xs:List t.den)
 | bp (i o:Nat)
 | ep (L:Lnd) (t:Ty) (xs:List t.den) (k o:Nat)
 | row (i v:Nat)
 | rp (i v n k o:Nat)
 | sl (i v c n k o:Nat)
 | sp (i v c n k o m x q:Nat)
 | tl (i v n k:Nat)
 | mp (i:Nat)
 | fn (f:FuncId) (caps:List Nat)
 | raw (v:Value)
 | junk
inductive AW where
 | c (a:AC)
 | ag (l:List AC)
inductive AV where
 | w (x:AW)
 | tp (l:List AW)
 | any
abbrev AV.c (a:AC):AV:=.w (.c a)
abbrev AV.ag (l:List AC):AV:=.w (.ag l)
inductive Blk where
 | box (l:List AC)
 | row (t:Ty) (xs:List t.den) (v c:Nat) (h:Option (Nat × Nat × Nat))
 | mp (xs:List Int)
 | dead
abbrev Mem:=List Blk
structure St where
 tmps:List AV
 mem:Mem
def ZeM (L:Lnd):(t:Ty)→t.den→List AC
 | .int k,x=>[.int k x]
 | .bool,b=>[.bool b]
 | .str,s=>[.str s]
 | .opq,v=>[.opq v]
 | .prod a b,x=>ZeM L a x.1 ++ ZeM L b x.2
 | .list a,xs=>[.hs L a xs]
abbrev cellsOf (t:Ty) (x:t.den):List AC:=ZeM .no t x
theorem Zlp {L:Lnd}:∀ (t:Ty) (x:t.den),(ZeM L t x).length=t.n
 | .int _,_=>rfl
 | .bool,_=>rfl
 | .str,_=>rfl
 | .opq,_=>rfl
 | .prod a b,x=>by
  show (ZeM L a x.1 ++ ZeM L b x.2).length=a.n + b.n
  rw [List.length_append,Zlp a,Zlp b]
 | .list _,_=>rfl
def Zbt {α:Type} (R:α→List Value→List Nat→Prop):List α→List Value→List Nat→Prop
 | [],cs,G=>cs=[]∧G=[]
 | x :: xs,cs,G=>∃ c1 c2 G1 G2,R x c1 G1∧Zbt R xs c2 G2∧cs=c1 ++ c2∧G=G1 ++ G2
def Zc3 {α:Type} (W:World) (R:α→List Value→List Nat→Prop) (n:Nat) (xs:List α) (v:Value) (F:List Nat):Prop :=
 ∃ T cells G,W.ownsRow 0 T n v xs.length cells∧Zbt R xs cells G∧F=v.ownBlock.toList ++ G
def Zbd (W:World):(t:Ty)→t.den→List Value→List Nat→Prop
 | .int k,x,cs,F=>cs=[.int k x]∧(Lit.int k x).wf=true∧F=[]
 | .bool,b,cs,F=>cs=[.bool b]∧F=[]
 | .str,s,cs,F=>cs=[.string s]∧s.size≤maxLen∧F=[]
 | .opq,v,cs,F=>cs=[v]∧v.oneCell'=true∧F=[]
 | .prod a b,x,cs,F=>∃ c1 c2 F1 F2,Zbd W a x.1 c1 F1∧Zbd W b x.2 c2 F2∧cs=c1 ++ c2∧F=F1 ++ F2
 | .list a,xs,cs,F=>∃ v,cs=[v]∧Zc3 W (Zbd W a) a.n xs v F
theorem Ztn {W W' : World} {T:TypeId} {n l:Nat} {v:Value} {xs:List Value} (h:W.ownsRow 0 T n v l xs) (hk:∀ b ∈ v.ownBlock.toList,W'.heap[b]?=W.heap[b]?):W'.ownsRow 0 T n v l xs:=by
 obtain ⟨h0,h1⟩:=h
 refine ⟨h0,?_⟩
 rcases h1 with h1 | ⟨g',cap,cur,q1,q2,q3,q4⟩
 ·exact .inl h1
 ·exact .inr ⟨g',cap,cur,q1,q2,by rw [hk g' (by simp [q1,Value.ownBlock])]; exact q3,q4⟩
theorem Zlq {W:World} {T:TypeId} {n l:Nat} {v:Value} {xs:List Value} (h:W.ownsRow 0 T n v l xs):∀ b ∈ v.ownBlock.toList,b < W.heap.size:=by
 intro b hb
 rcases h.2 with ⟨h1,_⟩ | ⟨g',cap,cur,q1,q2,q3,q4⟩
 ·rw [h1] at hb; simp [Value.ownBlock] at hb
 ·rw [q1] at hb
  simp [Value.ownBlock] at hb
  subst hb
  exact (Array.getElem?_eq_some_iff.1 q3).1
theorem Ze9 {W:World} {T:TypeId} {n l:Nat} {v:Value} {xs:List Value} (h:W.ownsRow 0 T n v l xs):v.oneCell'=true:=by
 rcases h.2 with ⟨h1,_⟩ | ⟨g',cap,cur,q1,_⟩
 ·rw [h1]; rfl
 ·rw [q1]; rfl
section
variable {α:Type} {R R' : α→List Value→List Nat→Prop}
theorem Zbt.imp:∀ {xs:List α} {cs:List Value} {G:List Nat},Zbt R xs cs G→(∀ x cs F,R x cs F→(∀ b ∈ F,b ∈ G)→R' x cs F)→Zbt R' xs cs G
 | [],_,_,h,_=>h
 | _ :: _,_,_,⟨c1,c2,G1,G2,h1,h2,e1,e2⟩,hk=>by
  subst e2
  exact ⟨c1,c2,G1,G2,hk _ _ _ h1 (fun b hb=>by simp [hb]),h2.imp (fun x cs F h hF=>hk x cs F h (fun b hb=>by simp [hF b hb])),e1,rfl⟩
theorem Zbt.all {Q:Nat→Prop}:∀ {xs:List α} {cs:List Value} {G:List Nat},Zbt R xs cs G→(∀ x cs F,R x cs F→∀ b ∈ F,Q b)→∀ b ∈ G,Q b
 | [],_,_,⟨_,h⟩,_=>by simp [h]
 | _ :: _,_,_,⟨c1,c2,G1,G2,h1,h2,e1,e2⟩,hk=>by
  subst e2
  intro b hb
  exact (List.mem_append.1 hb).elim (hk _ _ _ h1 b) (h2.all hk b)
theorem Zbt.len {n:Nat}:∀ {xs:List α} {cs:List Value} {G:List Nat},Zbt R xs cs G→(∀ x cs F,R x cs F→cs.length=n)→cs.length=xs.length * n
 | [],_,_,⟨h,_⟩,_=>by simp [h]
 | _ :: xs,_,_,⟨c1,c2,G1,G2,h1,h2,e1,e2⟩,hk=>by
  rw [e1,List.length_append,hk _ _ _ h1,h2.len hk,List.length_cons,Nat.add_mul]
  omega
theorem Zbt.one:∀ {xs:List α} {cs:List Value} {G:List Nat},Zbt R xs cs G→(∀ x cs F,R x cs F→cs.all (fun v=>v.oneCell')=true)→cs.all (fun v=>v.oneCell')=true
 | [],_,_,⟨h,_⟩,_=>by rw [h]; rfl
 | _ :: xs,_,_,⟨c1,c2,G1,G2,h1,h2,e1,e2⟩,hk=>by
  rw [e1,List.all_append,hk _ _ _ h1,h2.one hk]
  rfl
theorem Zbt.app:∀ {xs ys:List α} {cs ds:List Value} {G H:List Nat},Zbt R xs cs G→Zbt R ys ds H→Zbt R (xs ++ ys) (cs ++ ds) (G ++ H)
 | [],_,_,_,_,_,⟨h,h'⟩,k=>by rw [h,h']; exact k
 | _ :: xs,_,_,_,_,_,⟨c1,c2,G1,G2,h1,h2,e1,e2⟩,k=>⟨c1,_,G1,_,h1,h2.app k,by rw [e1,List.append_assoc],by rw [e2,List.append_assoc]⟩
theorem Zbt.split {n:Nat} (hn:∀ x cs F,R x cs F→cs.length=n):∀ {xs:List α} {cs:List Value} {G:List Nat} (k:Nat) {x:α},Zbt R xs cs G→xs[k]?=some x →
 ∃ c0 c1 c2 G0 G1 G2,cs=c0 ++ c1 ++ c2∧G=G0 ++ G1 ++ G2∧c0.length=k * n∧Zbt R (xs.take k) c0 G0∧R x c1 G1∧Zbt R (xs.drop (k + 1)) c2 G2
 | [],_,_,_,_,_,h=>by simp at h
 | y :: ys,_,_,0,_,⟨c1,c2,G1,G2,h1,h2,e1,e2⟩,h=>by
  obtain rfl:y=_:=by simpa using h
  exact ⟨[],c1,c2,[],G1,G2,by simpa using e1,by simpa using e2,by simp,⟨rfl,rfl⟩,h1,h2⟩
 | y :: ys,_,_,k + 1,_,⟨c1,c2,G1,G2,h1,h2,e1,e2⟩,h=>by
  obtain ⟨d0,d1,d2,H0,H1,H2,q1,q2,q3,q4,q5,q6⟩:=Zbt.split hn k h2 (by simpa using h)
  refine ⟨c1 ++ d0,d1,d2,G1 ++ H0,H1,H2,by rw [e1,q1]; simp,by rw [e2,q2]; simp,?_,⟨c1,d0,G1,H0,h1,q4,rfl,rfl⟩,q5,by simpa using q6⟩
  rw [List.length_append,hn _ _ _ h1,q3,Nat.add_mul]
  omega
end
theorem Zbd.len {W:World}:∀ (t:Ty) {x:t.den} {cs:List Value} {F:List Nat},Zbd W t x cs F→cs.length=t.n
 | .int _,_,_,_,h=>by rw [h.1]; rfl
 | .bool,_,_,_,h=>by rw [h.1]; rfl
 | .str,_,_,_,h=>by rw [h.1]; rfl
 | .opq,_,_,_,h=>by rw [h.1]; rfl
 | .prod a b,_,_,_,⟨c1,c2,F1,F2,h1,h2,e1,_⟩=>by rw [e1,List.length_append,Zbd.len a h1,Zbd.len b h2]; rfl
 | .list a,_,_,_,⟨v,e,_⟩=>by rw [e]; rfl
theorem Zbd.one {W:World}:∀ (t:Ty) {x:t.den} {cs:List Value} {F:List Nat},Zbd W t x cs F→cs.all (fun v=>v.oneCell')=true
 | .int _,_,_,_,h=>by rw [h.1]; rfl
 | .bool,_,_,_,h=>by rw [h.1]; rfl
 | .str,_,_,_,h=>by rw [h.1]; rfl
 | .opq,x,_,_,h=>by
  have h1:Value.oneCell' x=true:=h.2.1
  rw [h.1]
  exact List.all_eq_true.2 (fun v hv=>by obtain rfl:=List.mem_singleton.1 hv; exact h1)
 | .prod a b,_,_,_,⟨c1,c2,F1,F2,h1,h2,e1,_⟩=>by rw [e1,List.all_append,Zbd.one a h1,Zbd.one b h2]; rfl
 | .list a,_,_,_,⟨v,e,T,cells,G,h,_⟩=>by rw [e,List.all_cons,Ze9 h]; rfl
theorem Zbd.keep {W W' : World}:∀ (t:Ty) {x:t.den} {cs:List Value} {F:List Nat},Zbd W t x cs F→(∀ b ∈ F,W'.heap[b]?=W.heap[b]?)→Zbd W' t x cs F
 | .int _,_,_,_,h,_=>h
 | .bool,_,_,_,h,_=>h
 | .str,_,_,_,h,_=>h
 | .opq,_,_,_,h,_=>h
 | .prod a b,_,_,_,⟨c1,c2,F1,F2,h1,h2,e1,e2⟩,hk=>by
  subst e2
  exact ⟨c1,c2,F1,F2,Zbd.keep a h1 (fun b hb=>hk b (by simp [hb])),Zbd.keep b h2 (fun b hb=>hk b (by simp [hb])),e1,rfl⟩
 | .list a,_,_,_,⟨v,e,T,cells,G,h,h2,e2⟩,hk=>by
  subst e2
  exact ⟨v,e,T,cells,G,Ztn h (fun b hb=>hk b (by simp at hb; simp [hb])),h2.imp (fun x cs F h3 hF=>Zbd.keep a h3 (fun b hb=>hk b (by simp [hF b hb]))),rfl⟩
theorem Zbd.lt {W:World}:∀ (t:Ty) {x:t.den} {cs:List Value} {F:List Nat},Zbd W t x cs F→∀ b ∈ F,b < W.heap.size
 | .int _,_,_,_,h=>by simp [h.2.2]
 | .bool,_,_,_,h=>by simp [h.2]
 | .str,_,_,_,h=>by simp [h.2.2]
 | .opq,_,_,_,h=>by simp [h.2.2]
 | .prod a b,_,_,_,⟨c1,c2,F1,F2,h1,h2,e1,e2⟩=>by
  subst e2
  intro q hq
  exact (List.mem_append.1 hq).elim (Zbd.lt a h1 q) (Zbd.lt b h2 q)
 | .list a,_,_,_,⟨v,e,T,cells,G,h,h2,e2⟩=>by
  subst e2
  intro q hq
  exact (List.mem_append.1 hq).elim (Zlq h q) (h2.all (fun x cs F h3=>Zbd.lt a h3) q)
theorem Zc3.keep {W W' : World} {t:Ty} {xs:List t.den} {v:Value} {F:List Nat} (h:Zc3 W (Zbd W t) t.n xs v F) (hk:∀ b ∈ F,W'.heap[b]?=W.heap[b]?):Zc3 W' (Zbd W' t) t.n xs v F:=by
 obtain ⟨v',e,h'⟩:=Zbd.keep (W':=W') (.list t) (x:=xs) (cs:=[v]) ⟨v,rfl,h⟩ hk
 obtain rfl:v=v':=by simpa using e
 exact h'
theorem Zto {W:World} {t:Ty} {b:Nat} (hR:∀ (x:t.den) cs F,Zbd W t x cs F→∃ F',rep W x cs F'∧∀ q ∈ F',q ∈ F):∀ {xs:List t.den} {cells:List Value} {G:List Nat} {off:Nat},
 Zbt (Zbd W t) xs cells G→ZcB W b off cells→∃ G',ZbP W b off xs G'∧∀ q ∈ G',q ∈ G
 | [],_,_,_,_,_=>⟨[],rfl,by simp⟩
 | x :: xs,_,_,off,⟨c1,c2,G1,G2,h1,h2,e1,e2⟩,hc=>by
  subst e1
  subst e2
  obtain ⟨F1,r1,q1⟩:=hR _ _ _ h1
  have hl:=Zbd.len t h1
  obtain ⟨G',r2,q2⟩:=Zto hR (off:=off + t.n) h2 (fun j v hj=>by
   have:=hc (c1.length + j) v (by rw [List.getElem?_append_right (by omega)]; simpa using hj)
   rw [hl] at this
   rwa [show off + t.n + j=off + (t.n + j) from by omega])
  refine ⟨F1 ++ G',⟨c1,F1,G',r1,fun j v hj=>hc j v (by rw [List.getElem?_append_left (List.getElem?_eq_some_iff.1 hj).1]; exact hj),by rw [Ty.n_eq]; exact r2,rfl⟩,fun q hq=>?_⟩
  exact Zv5
theorem ZdD {W:World} {T:TypeId} {n l b c:Nat} {xs:List Value} (h:W.ownsRow 0 T n (.slice (some ⟨b,0,none⟩) l c) l xs):∃ cur,W.heap[b]?=some (.cells cur T (0,0))∧cur.toList.take (l * n)=xs∧l≤c∧c≤maxLen∧cur.size=c * n:=by
 rcases h.2 with ⟨h1,_⟩ | ⟨g',cap,cur,q1,q2,q3,q4,q5,q6,q7⟩
 ·cases h1
 ·obtain ⟨rfl,rfl⟩:b=g'∧c=cap:=by injection q1 with a1 a2 a3; injection a1 with a1; injection a1 with a1; exact ⟨a1,a3⟩
  exact ⟨cur,q3,q7,q4,q5,q6⟩
theorem ZfC {W:World} {b m:Nat} {cur:Array Value} {T:TypeId} (hg:W.heap[b]?=some (.cells cur T (0,0))):ZcB W b 0 (cur.toList.take m):=fun j v hj=>by
 refine ⟨?_,by simp [World.frozen?,hg]⟩
 rw [cell_of_row W b (0 + j) cur T (0,0) hg]
 rw [List.getElem?_take] at hj
 split at hj
 ·simpa using hj
 ·cases hj
theorem Zbd.rep {W:World}:∀ (t:Ty) {x:t.den} {cs:List Value} {F:List Nat},Zbd W t x cs F→∃ F',GoRep.rep W x cs F'∧∀ q ∈ F',q ∈ F
 | .int _,_,_,_,h=>⟨[],⟨h.1,h.2.1,rfl⟩,by simp⟩
 | .bool,_,_,_,h=>⟨[],⟨h.1,rfl⟩,by simp⟩
 | .str,_,_,_,h=>⟨[],⟨h.1,h.2.1,rfl⟩,by simp⟩
 | .opq,_,_,_,h=>⟨[],⟨h.1,h.2.1,rfl⟩,by simp⟩
 | .prod a b,_,_,_,⟨c1,c2,F1,F2,h1,h2,e1,e2⟩=>by
  obtain ⟨G1,r1,q1⟩:=Zbd.rep a h1
  obtain ⟨G2,r2,q2⟩:=Zbd.rep b h2
  refine ⟨G1 ++ G2,⟨c1,c2,G1,G2,r1,r2,e1,rfl⟩,fun q hq=>?_⟩
  rw [e2]
  exact Zv5
 | .list a,xs,cs,F,⟨v,e,T,cells,G,h,h2,e2⟩=>by
  have hsl:∃ A c,v=.slice A xs.length c:=by
   exact ZvI
  obtain ⟨A,c,rfl⟩:=hsl
  by_cases hx:xs=[]
  ·subst hx
   have hc:c≤maxLen:=by
    rcases h.2 with ⟨h1,h3⟩ | ⟨g',cap,cur,q1,q2,q3,q4,q5,q6⟩
    ·injection h1 with a1 a2 a3; rw [a3]; exact Nat.zero_le _
    ·injection q1 with a1 a2 a3; rw [a3]; exact q5
   exact ⟨[],⟨A,c,e,by simp,hc, .inl ⟨rfl,rfl⟩⟩,by simp⟩
  ·rcases h.2 with ⟨h1,h3⟩ | ⟨g',cap,cur,q1,q2,q3,q4,q5,q6,q7⟩
   ·exact absurd (List.eq_nil_of_length_eq_zero h3) hx
   ·injection q1 with a1 a2 a3
    subst a1
    subst a3
    have hca:=ZfC (W:=W) (b:=g') (m:=xs.length * a.n) q3
    rw [q7] at hca
    obtain ⟨G',r1,r2⟩:=Zto (fun x cs F h=>Zbd.rep a h) h2 hca
    refine ⟨g' :: G',⟨_,_,e,q4,q5, .inr ⟨hx,g',0,G',rfl,rfl,r1⟩⟩,fun q hq=>?_⟩
    rw [e2]
    rcases List.mem_cons.1 hq with rfl | hq
    ·simp [Value.ownBlock]
    ·simp [r2 q hq]
structure EB where
 blk:Nat
 val:Value
 foot:List Nat
abbrev Env:=List EB
def foots (E:Env):List Nat:=E.flatMap (·.foot)
theorem Zaw {E:Env} {b:Nat}:b ∈ foots E↔∃ e ∈ E,b ∈ e.foot:=by simp [foots]
def Zhi (E:Env) (i:Nat) (v:Value) (o:Nat):Prop:=∃ e,E[i]?=some e∧v=.pointer (some ⟨e.blk,o,none⟩)
def Zdm (E:Env):List Nat→List Value→Prop
 | [],vs=>vs=[]
 | i :: is,vs=>∃ v r,vs=v :: r∧Zhi E i v 0∧Zdm E is r
def ZbL (E:Env) (M:Mem) (i v:Nat) (Q:EB→Prop):Prop:=match M[i]? with
 | some (.row _ _ cur _ _)=>v≤cur∧(v=cur→∃ e,E[i]?=some e∧Q e)
 | some .dead=>True
 | _=>False
def ZnK (X:List Nat) (W:World) (E:Env) (M:Mem):Lnd→List Nat→Prop
 | .no,F=>∀ b ∈ F,(b ∉ foots E∧b ∉ X)∧b < W.heap.size
 | .at i v c,F=>∃ (t:Ty) (xs:List t.den) (e:EB),M[i]?=some (.row t xs v c none)∧E[i]?=some e∧∀ b ∈ F,b ∈ e.foot
def Zc4 (E:Env) (M:Mem) (i v c:Nat) (Q:List Nat→Prop):Prop:=match M[i]? with
 | some (.row _ _ cv cc _)=>v≤cv∧(v=cv→c≤cc∧(c=cc→∃ e F,E[i]?=some e∧Q F∧∀ b ∈ F,b ∈ e.foot))
 | some .dead=>True
 | _=>False
def ZjZ (X:List Nat) (W:World) (E:Env) (M:Mem):Lnd→(List Nat→Prop)→Prop
 | .no,Q=>∃ F,Q F∧∀ b ∈ F,(b ∉ foots E∧b ∉ X)∧b < W.heap.size
 | .at i v c,Q=>Zc4 E M i v c Q
def Zlr (W:World) (E:Env) (M:Mem) (i ver c n k o:Nat) (u:Value):Prop :=
 ∃ b,ZbL E M i ver (fun e=>∃ l cap,e.val=.slice (some ⟨b,0,none⟩) l cap∧k < l)∧Zc4 E M i ver c (fun F=>F=[b]∧W.cell? ⟨b,k * n + o,none⟩=some u)
def tlV (u:Value) (n k:Nat) (v:Value):Prop:=∃ (A:Option Addr) (l c:Nat) (A0:Option Addr) (c0:Nat),v=.slice A (l - k) c∧k≤l∧u=.slice A0 l c0∧(k < l→∃ b,A0=some ⟨b,0,none⟩∧A=some ⟨b,k * n,none⟩)
def Zbo (X:List Nat) (W:World) (E:Env) (M:Mem):AC→Value→Prop
 | .int k x,v=>v=.int k x∧(Lit.int k x).wf=true
 | .bool b,v=>v=.bool b
 | .str s,v=>v=.string s∧s.size≤maxLen
 | .opq u,v=>v=u∧u.oneCell'=true
 | .hs L t xs,v=>v.oneCell'=true∧ZjZ X W E M L (fun F=>rep (α:=List t.den) W xs [v] F)
 | .bp i o,v=>Zhi E i v o
 | .ep L t xs k o,v=>v.oneCell'=true∧ZjZ X W E M L (fun F=>∃ b off G,F=b :: G∧v=.pointer (some ⟨b,off + k * t.n + o,none⟩)∧k < xs.length∧ZbP W b off xs G)
 | .row i ver,v=>v.oneCell'=true∧ZbL E M i ver (fun e=>v=e.val)
 | .rp i ver n k o,v=>v.oneCell'=true∧ZbL E M i ver (fun e=>∃ b l c,e.val=.slice (some ⟨b,0,none⟩) l c∧k < l∧v=.pointer (some ⟨b,k * n + o,none⟩))
 | .sl i ver c n k o,v=>v.oneCell'=true∧Zlr W E M i ver c n k o v
 | .sp i ver c n k o m x q,v=>v.oneCell'=true∧∃ b l cap,Zlr W E M i ver c n k o (.slice (some ⟨b,0,none⟩) l cap)∧x < l∧v=.pointer (some ⟨b,x * m + q,none⟩)
 | .tl i ver n k,v=>v.oneCell'=true∧ZbL E M i ver (fun e=>tlV e.val n k v)
 | .mp i,v=>∃ e,E[i]?=some e∧v=.map (some e.blk)
 | .fn f caps,v=>∃ vs,v=.func (.func f) #[] vs.toArray∧Zdm E caps vs
 | .raw u,v=>v=u∧u.oneCell'=true
 | .junk,v=>v.oneCell'=true
def Zbu (X:List Nat) (W:World) (E:Env) (M:Mem):List AC→List Value→Prop
 | [],vs=>vs=[]
 | c :: cs,vs=>∃ v r,vs=v :: r∧Zbo X W E M c v∧Zbu X W E M cs r
def Zhv (X:List Nat) (W:World) (E:Env) (M:Mem):AW→Value→Prop
 | .c a,v=>Zbo X W E M a v
 | .ag l,v=>∃ cs,v=.agg cs.toArray∧Zbu X W E M l cs
def ZcC (X:List Nat) (W:World) (E:Env) (M:Mem):List AW→List Value→Prop
 | [],vs=>vs=[]
 | x :: xs,vs=>∃ v r,vs=v :: r∧Zhv X W E M x v∧ZcC X W E M xs r
def Zcd (X:List Nat) (W:World) (E:Env) (M:Mem):AV→Value→Prop
 | .w x,v=>Zhv X W E M x v
 | .tp l,v=>∃ vs,v=.tuple vs.toArray∧ZcC X W E M l vs
 | .any,_=>True
def Zbv (X:List Nat) (W:World) (E:Env) (M:Mem):List AV→List Value→Prop
 | [],vs=>vs=[]
 | x :: xs,vs=>∃ v r,vs=v :: r∧Zcd X W E M x v∧Zbv X W E M xs r
structure ZfD where
 t:Ty
 xs:List t.den
 c:Nat
def ZbC:(t:Ty)→t.den→Nat→Option ZfD
 | .prod a b,x,o=>bif Nat.blt o a.n then ZbC a x.1 o else ZbC b x.2 (o - a.n)
 | .list a,xs,o=>bif Nat.beq o 0 then some ⟨a,xs,0⟩ else none
 | _,_,_=>none
def ZbS (a:Ty) (ys:List a.den):(t:Ty)→t.den→Nat→t.den
 | .prod s t,x,o=>bif Nat.blt o s.n then (ZbS a ys s x.1 o,x.2) else (x.1,ZbS a ys t x.2 (o - s.n))
 | .list b,xs,_=>if h:a=b then h ▸ ys else xs
 | .int _,x,_=>x
 | .bool,x,_=>x
 | .str,x,_=>x
 | .opq,x,_=>x
def ZOu (W:World) (E:Env) (M:Mem) (t:Ty) (xs:List t.den):Option (Nat × Nat × Nat)→EB→Prop
 | none,e=>Zc3 W (Zbd W t) t.n xs e.val e.foot
 | some (k,o,j),e=>∃ (b l cap:Nat) (r:ZfD),e.val=.slice (some ⟨b,0,none⟩) l cap∧k < l∧ZbC t (nth t xs k) o=some r ∧
  Zc3 (W.setCell ⟨b,k * t.n + o,none⟩ (.slice none 0 0)) (Zbd (W.setCell ⟨b,k * t.n + o,none⟩ (.slice none 0 0)) t) t.n (xs.set k (ZbS r.t [] t (nth t xs k) o)) e.val e.foot ∧
  ZbL E M j 0 (fun ej=>W.cell? ⟨b,k * t.n + o,none⟩=some ej.val)
def ZLB (W:World) (b:Nat) (xs:List Int):Prop:=∃ es ck,W.heap[b]?=some (.map es ck)∧es.toList.map (·.key)=xs.map (fun x=>Value.int .i64 x)∧∀ e ∈ es.toList,e.val=.bool true
def ZJT (X:List Nat) (W:World) (E:Env) (M:Mem):Blk→EB→Prop
 | .box l,e=>e.foot=[e.blk]∧∃ cs T,W.heap[e.blk]?=some (.cells cs T (0,0))∧Zbu X W E M l cs.toList
 | .row t xs _ _ h,e=>ZOu W E M t xs h e
 | .mp xs,e=>e.foot=[e.blk]∧ZLB W e.blk xs
 | .dead,e=>e.foot=[]
structure RepM (X:List Nat) (W:World) (E:Env) (M:Mem):Prop where
 len:M.length=E.length
 nodup:(foots E).Nodup
 at_:∀ (i:Nat) (b:Blk) (e:EB),M[i]?=some b→E[i]?=some e→ZJT X W E M b e
 lt:∀ b ∈ foots E,b < W.heap.size
 xlt:∀ b ∈ X,b ∉ foots E
 xsz:∀ b ∈ X,b < W.heap.size
structure ZR0 (X:List Nat) (st:St) (a:Act) (W:World) (E:Env):Prop where
 mem:RepM X W E st.mem
 tmps:Zbv X W E st.mem st.tmps a.tmps.toList
 dfr:a.defers=[]
structure Zbb (W:World) (E:Env) (W' : World) (E' : Env):Prop where
 os:W'.os=W.os
 tape:W'.tape=W.tape
 output:W'.output=W.output
 size:W.heap.size≤W'.heap.size
 keep:∀ b,b < W.heap.size→b ∉ foots E→W'.heap[b]?=W.heap[b]?
 new:∀ b ∈ foots E',b ∈ foots E∨W.heap.size≤b
 blk:∀ (i:Nat) (e:EB),E[i]?=some e→∃ e',E'[i]?=some e'∧e'.blk=e.blk
theorem Zbb.refl (W:World) (E:Env):Zbb W E W E:=⟨rfl,rfl,rfl,Nat.le_refl _,fun _ _ _=>rfl,fun _ h=>.inl h,fun _ e h=>⟨e,h,rfl⟩⟩
theorem Zbb.trans {W W1 W2:World} {E E1 E2:Env} (h:Zbb W E W1 E1) (k:Zbb W1 E1 W2 E2):Zbb W E W2 E2 where
 os:=k.os.trans h.os
 tape:=k.tape.trans h.tape
 output:=k.output.trans h.output
 size:=Nat.le_trans h.size k.size
 keep b hb hn:=by
  rw [k.keep b (Nat.lt_of_lt_of_le hb h.size) (fun hm=>(h.new b hm).elim hn (fun hge=>by omega))]
  exact h.keep b hb hn
 new b hb:=(k.new b hb).elim (h.new b) (fun hge=>.inr (Nat.le_trans h.size hge))
 blk i e he:=by
  obtain ⟨e1,h1,q1⟩:=h.blk i e he
  obtain ⟨e2,h2,q2⟩:=k.blk i e1 h1
  exact ⟨e2,h2,q2.trans q1⟩
theorem Zbb.below {W W' : World} {E' : Env} (h:Zbb W [] W' E'):Below W.heap.size W W' :=
 ⟨h.os,h.tape,h.output,h.size,fun k hk=>h.keep k hk (by simp [foots])⟩
def ZaK (W:World) (E:Env) (M:Mem) (W' : World) (E' : Env) (M' : Mem):Prop:=∀ i:Nat,match M[i]? with
 | some (.row t _ v c _)=>(M'[i]?=some .dead)∨∃ (xs' : List t.den) (v' c' : Nat) (h' : Option (Nat × Nat × Nat)),M'[i]?=some (.row t xs' v' c' h')∧v≤v'∧(v=v'→∀ e:EB,E[i]?=some e→∃ e',E'[i]?=some e'∧e'.val=e.val∧c≤c'∧(c=c'→∀ b ∈ e.foot,b ∈ e'.foot∧W'.heap[b]?=W.heap[b]?))
 | some .dead=>M'[i]?=some .dead
 | _=>True
theorem ZaK.refl (W:World) (E:Env) (M:Mem):ZaK W E M W E M:=fun i=>by
 split
 ·rename_i h; exact .inr ⟨_,_,_,_,h,Nat.le_refl _,fun _ e he=>⟨e,he,rfl,Nat.le_refl _,fun _ b hb=>⟨hb,rfl⟩⟩⟩
 ·rename_i h; exact h
 ·trivial
theorem ZaK.nil {W W' : World} (E' : Env):ZaK W [] [] W' E' []:=fun i=>by simp
theorem ZaK.trans {W W1 W2:World} {E E1 E2:Env} {M M1 M2:Mem} (h:ZaK W E M W1 E1 M1) (k:ZaK W1 E1 M1 W2 E2 M2):ZaK W E M W2 E2 M2:=fun i=>by
 have hi:=h i
 have ki:=k i
 split
 ·rename_i t xs v c hh hM
  rw [hM] at hi
  rcases hi with hd | ⟨xs1,v1,c1,hh1,h1,hle,hv⟩
  ·rw [hd] at ki; exact .inl ki
  ·rw [h1] at ki
   rcases ki with kd | ⟨xs2,v2,c2,hh2,k1,kle,kv⟩
   ·exact .inl kd
   ·refine .inr ⟨xs2,v2,c2,hh2,k1,Nat.le_trans hle kle,fun hq e he=>?_⟩
    obtain ⟨e',q1,q2,q3,q4⟩:=hv (by omega) e he
    obtain ⟨e'',r1,r2,r3,r4⟩:=kv (by omega) e' q1
    refine ⟨e'',r1,r2.trans q2,Nat.le_trans q3 r3,fun hc b hb=>?_⟩
    obtain ⟨z1,z2⟩:=q4 (by omega) b hb
    obtain ⟨z3,z4⟩:=r4 (by omega) b z1
    exact ⟨z3,z4.trans z2⟩
 ·rename_i hM
  rw [hM] at hi
  rw [show M1[i]?=some .dead from hi] at ki
  exact ki
 ·trivial
section
variable {X:List Nat} {W W' : World} {E E' : Env} {M M' : Mem}
theorem Zhi.mono (g:Zbb W E W' E') {i o:Nat} {v:Value} (h:Zhi E i v o):Zhi E' i v o:=by
 obtain ⟨e,h1,h2⟩:=h
 exact Zwc
theorem Zdm.mono (g:Zbb W E W' E'):∀ {is:List Nat} {vs:List Value},Zdm E is vs→Zdm E' is vs
 | [],_,h=>h
 | _ :: _,_,⟨v,r,e,h1,h2⟩=>⟨v,r,e,h1.mono g,Zdm.mono g h2⟩
theorem ZjZ.mono {Q Q' : List Nat→Prop} (g:Zbb W E W' E') (hm:ZaK W E M W' E' M') (hQ:∀ F,(∀ b ∈ F,W'.heap[b]?=W.heap[b]?)→Q F→Q' F):∀ {L:Lnd},(∀ i v c,L=.at i v c→E.length=M.length)→ZjZ X W E M L Q→ZjZ X W' E' M' L Q'
 | .no,_,⟨F,h1,h2⟩ =>
  ⟨F,hQ F (fun b hb=>g.keep b (h2 b hb).2 (h2 b hb).1.1) h1,fun b hb=>⟨⟨fun hn=>(g.new b hn).elim (h2 b hb).1.1 (fun hge=>by have:=(h2 b hb).2; omega),(h2 b hb).1.2⟩,Nat.lt_of_lt_of_le (h2 b hb).2 g.size⟩⟩
 | .at i v c,hlen,h=>by
  have hi:=hm i
  have h:Zc4 E M i v c Q:=h
  show Zc4 E' M' i v c Q'
  unfold Zc4 at h ⊢
  cases hM:M[i]? with
  | none=>rw [hM] at h; exact h.elim
  | some b =>
   rw [hM] at h hi
   cases b with
   | box l=>exact h.elim
   | mp _=>exact h.elim
   | dead=>simp only at hi; rw [hi]; trivial
   | row t xs cv cc hh =>
    simp only at h hi
    rcases hi with hd | ⟨xs1,v1,c1,h1,hM1,hle,hv⟩
    ·rw [hd]; trivial
    ·rw [hM1]
     have hlt:=(List.getElem?_eq_some_iff.1 hM).1
     have hE:=List.getElem?_eq_getElem (l:=E) (i:=i) (by rw [hlen i v c rfl]; exact hlt)
     refine ⟨by omega,fun he=>?_⟩
     obtain ⟨e',r1,r2,r3,r4⟩:=hv (by omega) _ hE
     obtain ⟨k1,k2⟩:=h.2 (by omega)
     refine ⟨by omega,fun hc=>?_⟩
     obtain ⟨e,F,q1,q2,q3⟩:=k2 (by omega)
     obtain rfl:_=e:=Option.some.inj (hE.symm.trans q1)
     have:=r4 (by omega)
     exact ⟨e',F,r1,hQ F (fun b hb=>(this b (q3 b hb)).2) q2,fun b hb=>(this b (q3 b hb)).1⟩
theorem ZbL.mono {Q Q' : EB→Prop} (hm:ZaK W E M W' E' M') (hQ:∀ e e',e'.val=e.val→Q e→Q' e') {i v:Nat} (h:ZbL E M i v Q):ZbL E' M' i v Q':=by
 have hi:=hm i
 unfold ZbL at h ⊢
 cases hM:M[i]? with
 | none=>rw [hM] at h; exact h.elim
 | some b =>
  rw [hM] at h hi
  cases b with
  | box l=>exact h.elim
  | mp _=>exact h.elim
  | dead=>simp only at hi; rw [hi]; trivial
  | row t xs cv cc hh =>
   simp only at h hi
   rcases hi with hd | ⟨xs1,v1,c1,h1,hM1,hle,hv⟩
   ·rw [hd]; trivial
   ·rw [hM1]
    refine ⟨by omega,fun he=>?_⟩
    obtain ⟨e,q1,q2⟩:=h.2 (by omega)
    obtain ⟨e',r1,r2,_⟩:=hv (by omega) e q1
    exact ⟨e',r1,hQ e e' r2 q2⟩
theorem ZnL {W W' : World} {b o:Nat} (h:W'.heap[b]?=W.heap[b]?):W'.cell? ⟨b,o,none⟩=W.cell? ⟨b,o,none⟩:=ZkX h o
theorem Zlr.mono (g:Zbb W E W' E') (hm:ZaK W E M W' E' M') (hl:M.length=E.length) {i ver c n k o:Nat} {u:Value} (h:Zlr W E M i ver c n k o u):Zlr W' E' M' i ver c n k o u:=by
 obtain ⟨b,h1,h2⟩:=h
 exact ⟨b,h1.mono hm (fun e e' he h=>by rw [he]; exact h),ZjZ.mono (X:=[]) (L:=.at i ver c) g hm (fun F hk h=>⟨h.1,by rw [ZnL (hk b (by rw [h.1]; simp))]; exact h.2⟩) (fun _ _ _ _=>hl.symm) h2⟩
theorem Zbo.mono (g:Zbb W E W' E') (hm:ZaK W E M W' E' M') (hl:M.length=E.length):∀ {c:AC} {v:Value},Zbo X W E M c v→Zbo X W' E' M' c v
 | .int _ _,_,h=>h
 | .bool _,_,h=>h
 | .str _,_,h=>h
 | .opq _,_,h=>h
 | .hs L t xs,v,h=>⟨h.1,ZjZ.mono g hm (fun F hk h=>GoRep.keep h hk) (fun _ _ _ _=>hl.symm) h.2⟩
 | .bp _ _,_,h=>Zhi.mono g h
 | .ep L t xs k o,v,h=>⟨h.1,ZjZ.mono g hm (fun F hk ⟨b,off,G,e0,e1,e2,h1⟩=>by
  subst e0
  exact ⟨b,off,G,rfl,e1,e2,h1.keep (hk b (by simp)) (fun q hq=>hk q (by simp [hq]))⟩) (fun _ _ _ _=>hl.symm) h.2⟩
 | .row i ver,v,h=>⟨h.1,h.2.mono hm (fun e e' he h=>by rw [he]; exact h)⟩
 | .rp i ver n k o,v,h=>⟨h.1,h.2.mono hm (fun e e' he h=>by rw [he]; exact h)⟩
 | .sl i ver c n k o,v,h=>⟨h.1,h.2.mono g hm hl⟩
 | .sp i ver c n k o m x q,v,⟨h0,b,l,cap,h1,h2⟩=>⟨h0,b,l,cap,h1.mono g hm hl,h2⟩
 | .tl i ver n k,v,h=>⟨h.1,h.2.mono hm (fun e e' he h=>by rw [he]; exact h)⟩
 | .mp i,v,⟨e,h1,h2⟩=>by
  exact Zwc
 | .fn f caps,v,⟨vs,e,h⟩=>⟨vs,e,Zdm.mono g h⟩
 | .raw _,_,h=>h
 | .junk,_,h=>h
theorem Zbu.mono (g:Zbb W E W' E') (hm:ZaK W E M W' E' M') (hl:M.length=E.length):∀ {l:List AC} {vs:List Value},Zbu X W E M l vs→Zbu X W' E' M' l vs
 | [],_,h=>h
 | _ :: _,_,⟨v,r,e,h1,h2⟩=>⟨v,r,e,h1.mono g hm hl,Zbu.mono g hm hl h2⟩
theorem Zhv.mono (g:Zbb W E W' E') (hm:ZaK W E M W' E' M') (hl:M.length=E.length):∀ {x:AW} {v:Value},Zhv X W E M x v→Zhv X W' E' M' x v
 | .c _,_,h=>Zbo.mono g hm hl h
 | .ag _,_,⟨cs,e,h⟩=>⟨cs,e,h.mono g hm hl⟩
theorem ZcC.mono (g:Zbb W E W' E') (hm:ZaK W E M W' E' M') (hl:M.length=E.length):∀ {l:List AW} {vs:List Value},ZcC X W E M l vs→ZcC X W' E' M' l vs
 | [],_,h=>h
 | _ :: _,_,⟨v,r,e,h1,h2⟩=>⟨v,r,e,h1.mono g hm hl,ZcC.mono g hm hl h2⟩
theorem Zcd.mono (g:Zbb W E W' E') (hm:ZaK W E M W' E' M') (hl:M.length=E.length):∀ {x:AV} {v:Value},Zcd X W E M x v→Zcd X W' E' M' x v
 | .w _,_,h=>Zhv.mono g hm hl h
 | .tp _,_,⟨vs,e,h⟩=>⟨vs,e,h.mono g hm hl⟩
 | .any,_,_=>trivial
theorem Zbv.mono (g:Zbb W E W' E') (hm:ZaK W E M W' E' M') (hl:M.length=E.length):∀ {l:List AV} {vs:List Value},Zbv X W E M l vs→Zbv X W' E' M' l vs
 | [],_,h=>h
 | _ :: _,_,⟨v,r,e,h1,h2⟩=>⟨v,r,e,h1.mono g hm hl,Zbv.mono g hm hl h2⟩
theorem Zbo.one:∀ {c:AC} {v:Value},Zbo X W E M c v→v.oneCell'=true
 | .int _ _,_,h=>by rw [h.1]; rfl
 | .bool _,_,h=>by rw [show _=_ from h]; rfl
 | .str _,_,h=>by rw [h.1]; rfl
 | .opq _,_,h=>by rw [h.1]; exact h.2
 | .hs _ _ _,v,h=>h.1
 | .bp _ _,_,⟨e,_,h⟩=>by rw [h]; rfl
 | .ep _ _ _ _ _,_,h=>h.1
 | .row _ _,_,h=>h.1
 | .rp _ _ _ _ _,_,h=>h.1
 | .sl _ _ _ _ _ _,_,h=>h.1
 | .sp _ _ _ _ _ _ _ _ _,_,h=>h.1
 | .tl _ _ _ _,_,h=>h.1
 | .mp _,_,⟨e,_,h⟩=>by rw [h]; rfl
 | .fn _ _,_,⟨vs,e,_⟩=>by rw [e]; rfl
 | .raw _,_,h=>by rw [h.1]; exact h.2
 | .junk,_,h=>h
theorem Zbu.len:∀ {l:List AC} {vs:List Value},Zbu X W E M l vs→vs.length=l.length
 | [],_,h=>by rw [show _=_ from h]; rfl
 | _ :: _,_,⟨v,r,e,_,h2⟩=>by rw [e,List.length_cons,Zbu.len h2,List.length_cons]
theorem Zbu.all:∀ {l:List AC} {vs:List Value},Zbu X W E M l vs→vs.all (fun v=>v.oneCell')=true
 | [],_,h=>by rw [show _=_ from h]; rfl
 | _ :: _,_,⟨v,r,e,h1,h2⟩=>by rw [e,List.all_cons,h1.one,Zbu.all h2]; rfl
theorem Zbu.get:∀ {l:List AC} {vs:List Value} {j:Nat} {c:AC},Zbu X W E M l vs→l[j]?=some c→∃ v,vs[j]?=some v∧Zbo X W E M c v
 | [],_,_,_,_,h=>by simp at h
 | _ :: _,_,0,_,⟨v,r,e,h1,_⟩,h=>by simp at h; subst h; exact ⟨v,by rw [e]; rfl,h1⟩
 | _ :: _,_,j + 1,_,⟨v,r,e,_,h2⟩,h=>by
  simp at h
  obtain ⟨u,q1,q2⟩:=Zbu.get h2 h
  exact Zo4
theorem Zbu.append:∀ {l k:List AC} {vs us:List Value},Zbu X W E M l vs→Zbu X W E M k us→Zbu X W E M (l ++ k) (vs ++ us)
 | [],_,_,_,h,h2=>by rw [show _=_ from h]; exact h2
 | _ :: _,_,_,_,⟨v,r,e,h1,h3⟩,h2=>by rw [e]; exact ⟨v,_,rfl,h1,Zbu.append h3 h2⟩
theorem Zbu.split:∀ {l k:List AC} {vs:List Value},Zbu X W E M (l ++ k) vs→Zbu X W E M l (vs.take l.length)∧Zbu X W E M k (vs.drop l.length)
 | [],_,_,h=>⟨rfl,h⟩
 | _ :: l,_,_,⟨v,r,e,h1,h2⟩=>by
  obtain ⟨q1,q2⟩:=Zbu.split h2
  rw [e]
  exact ⟨⟨v,_,rfl,h1,q1⟩,q2⟩
theorem Zbu.take {l:List AC} {vs:List Value} (n:Nat) (h:Zbu X W E M l vs):Zbu X W E M (l.take n) (vs.take n):=by
 have hl:=h.len
 by_cases hn:n≤l.length
 ·rw [← List.take_append_drop n l] at h
  have:=(Zbu.split h).1
  rwa [List.length_take,Nat.min_eq_left hn] at this
 ·rw [List.take_of_length_le (by omega),List.take_of_length_le (by omega)]
  exact h
theorem Zbu.drop {l:List AC} {vs:List Value} (n:Nat) (h:Zbu X W E M l vs):Zbu X W E M (l.drop n) (vs.drop n):=by
 have hl:=h.len
 by_cases hn:n≤l.length
 ·rw [← List.take_append_drop n l] at h
  have:=(Zbu.split h).2
  rwa [List.length_take,Nat.min_eq_left hn] at this
 ·rw [List.drop_of_length_le (by omega),List.drop_of_length_le (by omega)]
  rfl
theorem Zbv.len:∀ {l:List AV} {vs:List Value},Zbv X W E M l vs→vs.length=l.length
 | [],_,h=>by rw [show _=_ from h]; rfl
 | _ :: _,_,⟨v,r,e,_,h2⟩=>by rw [e,List.length_cons,Zbv.len h2,List.length_cons]
theorem Zbv.get:∀ {l:List AV} {vs:List Value} {j:Nat} {x:AV},Zbv X W E M l vs→l[j]?=some x→∃ v,vs[j]?=some v∧Zcd X W E M x v
 | [],_,_,_,_,h=>by simp at h
 | _ :: _,_,0,_,⟨v,r,e,h1,_⟩,h=>by simp at h; subst h; exact ⟨v,by rw [e]; rfl,h1⟩
 | _ :: _,_,j + 1,_,⟨v,r,e,_,h2⟩,h=>by
  simp at h
  obtain ⟨u,q1,q2⟩:=Zbv.get h2 h
  exact Zo4
theorem Zbv.set:∀ {l:List AV} {vs:List Value} (j:Nat) {x:AV} {v:Value},Zbv X W E M l vs→Zcd X W E M x v→Zbv X W E M (l.set j x) (vs.set j v)
 | [],_,_,_,_,h,_=>by rw [show _=_ from h]; rfl
 | _ :: _,_,0,_,_,⟨v,r,e,_,h2⟩,h=>by rw [e]; exact ⟨_,r,rfl,h,h2⟩
 | _ :: _,_,j + 1,_,_,⟨v,r,e,h1,h2⟩,h=>by rw [e]; exact ⟨v,_,rfl,h1,Zbv.set j h2 h⟩
end
theorem Zj0 {X:List Nat} {W:World} {E:Env} {M:Mem} {Q:List Nat→Prop} {F:List Nat}:∀ {L:Lnd},ZnK X W E M L F→Q F→ZjZ X W E M L Q
 | .no,h,hq=>⟨F,hq,h⟩
 | .at i v c,⟨t,xs,e,h1,h2,h3⟩,hq=>by
  show Zc4 E M i v c Q
  unfold Zc4
  rw [h1]
  exact ⟨Nat.le_refl _,fun _=>⟨Nat.le_refl _,fun _=>⟨e,F,h2,hq,h3⟩⟩⟩
def Zc5 (M:Mem) (i v c:Nat):Bool:=match M[i]? with
 | some (.row _ _ cv cc none)=>Nat.beq v cv && Nat.beq c cc
 | _=>false
def Zdu (M:Mem):Lnd→Bool
 | .no=>true
 | .at i v c=>Zc5 M i v c
theorem Zf9 {X:List Nat} {W:World} {E:Env} {M:Mem} {Q:List Nat→Prop}:∀ {L:Lnd},Zdu M L=true→ZjZ X W E M L Q→∃ F,Q F∧ZnK X W E M L F
 | .no,_,⟨F,h1,h2⟩=>⟨F,h1,h2⟩
 | .at i v c,hl,h=>by
  have hl:Zc5 M i v c=true:=hl
  have h:Zc4 E M i v c Q:=h
  unfold Zc5 at hl
  unfold Zc4 at h
  split at hl
  ·rename_i t xs cv cc hM
   rw [hM] at h
   rw [Bool.and_eq_true] at hl
   have e1:=Nat.eq_of_beq_eq_true hl.1
   have e2:=Nat.eq_of_beq_eq_true hl.2
   subst e1
   subst e2
   obtain ⟨e,F,q1,q2,q3⟩:=(h.2 rfl).2 rfl
   exact ⟨F,q2,t,xs,e,hM,q1,q3⟩
  ·cases hl
theorem ZnK.sub {X:List Nat} {W:World} {E:Env} {M:Mem} {F F' : List Nat}:∀ {L:Lnd},ZnK X W E M L F→(∀ b ∈ F',b ∈ F)→ZnK X W E M L F'
 | .no,h,hs=>fun b hb=>h b (hs b hb)
 | .at _ _ _,⟨t,xs,e,h1,h2,h3⟩,hs=>⟨t,xs,e,h1,h2,fun b hb=>h3 b (hs b hb)⟩
theorem ZnK.av {X:List Nat} {W:World} {E:Env} {M:Mem} {F:List Nat} (hM:RepM X W E M):∀ {L:Lnd},ZnK X W E M L F→∀ b ∈ F,b ∉ X∧b < W.heap.size
 | .no,h=>fun b hb=>⟨(h b hb).1.2,(h b hb).2⟩
 | .at _ _ _,⟨t,xs,e,h1,h2,h3⟩=>fun b hb=>by
  have hm:b ∈ foots E:=Zaw.2 ⟨e,List.mem_of_getElem? h2,h3 b hb⟩
  exact ⟨fun hx=>hM.xlt b hx hm,hM.lt b hm⟩
theorem ZcR {X:List Nat} {W:World} {E:Env} {M:Mem} {L:Lnd}:∀ (t:Ty) {x:t.den} {cs:List Value} {F:List Nat},rep W x cs F→ZnK X W E M L F→Zbu X W E M (ZeM L t x) cs
 | .int k,x,cs,F,h,_=>⟨_,[],h.1,⟨rfl,h.2.1⟩,rfl⟩
 | .bool,x,cs,F,h,_=>⟨_,[],h.1,rfl,rfl⟩
 | .str,x,cs,F,h,_=>⟨_,[],h.1,⟨rfl,h.2.1⟩,rfl⟩
 | .opq,x,cs,F,h,_=>⟨_,[],h.1,⟨rfl,h.2.1⟩,rfl⟩
 | .prod a b,x,cs,F,h,hF=>by
  obtain ⟨c1,c2,F1,F2,h1,h2,rfl,rfl⟩:=h
  exact (ZcR a h1 (hF.sub (fun q hq=>by simp [hq]))).append (ZcR b h2 (hF.sub (fun q hq=>by simp [hq])))
 | .list a,x,cs,F,h,hF=>by
  obtain ⟨A,c,rfl,hs⟩:=h
  exact ⟨_,[],rfl,⟨rfl,Zj0 hF ⟨A,c,rfl,hs⟩⟩,rfl⟩
def ZDl:Value→AC
 | .int k n=>.int k n
 | .bool b=>.bool b
 | .string s=>.str s
 | v=>.raw v
def Zhw:Value→Bool
 | .int k n=>(Lit.int k n).wf
 | .string s=>decide (s.size≤maxLen)
 | v=>v.oneCell'
def ZOv:Value→AV
 | .agg cs=>if cs.toList.all Zhw then .ag (cs.toList.map ZDl) else .any
 | v=>if Zhw v then .c (ZDl v) else .any
def evalA (tm:List AV):Operand→AV
 | .tmp t=>tm.getD t .any
 | .const v=>ZOv v
 | .global _=>.any
 | .func f=>.c (.fn f [])
structure OR where
 need:Prop
 val:AV
 mem:Mem
def OR.no:OR:=⟨False, .tp [.ag []],[]⟩
def Zzy:TypeDesc→Bool
 | .struct _=>true
 | .array _ _=>true
 | _=>false
def Zbg (P:Program) (t:TypeId):Nat:=match P.info? t with | some i=>i.size | none=>0
def Zf0 (P:Program) (t:TypeId) (l:List AC) (o:Nat):Option AV :=
 match P.underlying t with
 | some d=>bif Zzy d then (bif Nat.ble (o + Zbg P t) l.length then some (.ag ((l.drop o).take (Zbg P t))) else none) else l[o]?.map .c
 | none=>none
def ZgV:AV→Option (List AC)
 | .w (.c a)=>some [a]
 | .w (.ag l)=>some l
 | _=>none
def ZMs (op:BinOp) (k:IntKind) (a b:Int):Prop × AC :=
 match op with
 | .add=>(True, .int k (k.wrap (a + b)))
 | .sub=>(True, .int k (k.wrap (a - b)))
 | .mul=>(True, .int k (k.wrap (a * b)))
 | .quo=>(b ≠ 0, .int k (k.wrap (a.tdiv b)))
 | .rem=>(b ≠ 0, .int k (a.tmod b))
 | .and=>(True, .int k (k.wrap ((BitVec.ofInt k.bits a &&& BitVec.ofInt k.bits b).toNat:Nat)))
 | .or=>(True, .int k (k.wrap ((BitVec.ofInt k.bits a ||| BitVec.ofInt k.bits b).toNat:Nat)))
 | .xor=>(True, .int k (k.wrap ((BitVec.ofInt k.bits a ^^^ BitVec.ofInt k.bits b).toNat:Nat)))
 | .andNot=>(True, .int k (k.wrap ((BitVec.ofInt k.bits a &&& ~~~ BitVec.ofInt k.bits b).toNat:Nat)))
 | .eql=>(True, .bool (a == b))
 | .neq=>(True, .bool (a != b))
 | .lss=>(True, .bool (decide (a < b)))
 | .leq=>(True, .bool (decide (a≤b)))
 | .gtr=>(True, .bool (decide (a > b)))
 | .geq=>(True, .bool (decide (a ≥ b)))
 | _=>(False, .bool false)
def ZMt (op:BinOp) (a b:ByteArray):Prop × AC :=
 match op with
 | .add=>(a.size + b.size≤maxLen, .str (a ++ b))
 | .eql=>(True, .bool (decide (a=b)))
 | .neq=>(True, .bool (!decide (a=b)))
 | .lss=>(True, .bool (Op.bytesLess a.toList b.toList))
 | .leq=>(True, .bool (Op.bytesLess a.toList b.toList || decide (a=b)))
 | .gtr=>(True, .bool (!(Op.bytesLess a.toList b.toList || decide (a=b))))
 | .geq=>(True, .bool (!Op.bytesLess a.toList b.toList))
 | _=>(False, .bool false)
def ZDm (P:Program) (t:TypeId) (a b:AC):Bool :=
 match P.underlying t,a,b with
 | some (.int _), .int k _, .int k' _=>decide (k=k')
 | some .bool, .bool _, .bool _=>true
 | some .string, .str _, .str _=>true
 | _,_,_=>false
def Zdn (P:Program):List Field→Nat→List AC→List AC→Bool
 | [],_,[],[]=>true
 | f :: fs, n, a :: as', b :: bs => (Nat.beq f.offset n && (f.name != "_" && ZDm P f.type a b)) && Zdn P fs (n + 1) as' bs
 | _,_,_,_=>false
def ZbM:List AC→List AC→Bool
 | .int _ a :: l, .int _ b :: k=>(a == b) && ZbM l k
 | .bool a :: l, .bool b :: k=>(a == b) && ZbM l k
 | .str a :: l, .str b :: k=>decide (a=b) && ZbM l k
 | _,_=>true
def Zzz (P:Program) (t:TypeId) (l k:List AC):Bool :=
 match P.underlying t with
 | some (.struct fs)=>Zdn P fs.toList 0 l k && (!P.stoodInHeld t && !P.eqGuardType P.depth t)
 | _=>false
def Zpg (k:IntKind) (a b:Int):Int:=k.wrap (a * 2 ^ min b.toNat k.bits)
def ZB7 (k:IntKind) (a b:Int):Int:=a.fdiv (2 ^ min b.toNat k.bits)
def ZJU (P:Program) (op:BinOp) (t:TypeId) (x y:AV):Prop × AC :=
 match x,y with
 | .w (.c (.int k a)), .w (.c (.int k' b))=>match op with
  | .shl=>(0≤b, .int k (Zpg k a b))
  | .shr=>(0≤b, .int k (ZB7 k a b))
  | op=>if k=k' then ZMs op k a b else (False, .bool false)
 | .w (.c (.str a)), .w (.c (.str b))=>ZMt op a b
 | .w (.c (.bool a)), .w (.c (.bool b))=>match op with
  | .eql=>(P.underlying t=some .bool, .bool (a == b))
  | .neq=>(P.underlying t=some .bool, .bool (!(a == b)))
  | _=>(False, .bool false)
 | .w (.ag l), .w (.ag k)=>match op with
  | .eql=>(Zzz P t l k=true, .bool (ZbM l k))
  | .neq=>(Zzz P t l k=true, .bool (!ZbM l k))
  | _=>(False, .bool false)
 | _,_=>(False, .bool false)
def ZI8 (g:Bool) (x y:AV):AV :=
 match x,y with
 | .w (.c (.bool a)), .w (.c (.bool b))=>.c (.bool (bif g then a else b))
 | .w (.c (.int k a)), .w (.c (.int k' b))=>if k=k' then .c (.int k (bif g then a else b)) else (bif g then x else y)
 | .w (.c (.str a)), .w (.c (.str b))=>.c (.str (bif g then a else b))
 | x,y=>bif g then x else y
def Zap (s:ByteArray) (n:Nat):Int:=((s.data.toList.getD n 0).toNat:Nat)
def loI (lo:Option AV):Option Int:=match lo with | none=>some 0 | some (.w (.c (.int _ l)))=>some l | _=>none
def hiI (n:Nat) (hi:Option AV):Option Int:=match hi with | none=>some (n:Int) | some (.w (.c (.int _ l)))=>some l | _=>none
def ZlX (x:AV) (lo hi:Option AV):Prop × AC :=
 match x with
 | .w (.c (.str s))=>match loI lo,hiI s.size hi with
  | some l,some h=>(0≤l∧l≤h∧h≤(s.size:Int), .str (s.extract l.toNat h.toNat))
  | _,_=>(False, .bool false)
 | .w (.c (.hs L t xs))=>match loI lo,hiI xs.length hi with
  | some l,some h=>(0≤l∧l≤h∧h≤(xs.length:Int), .hs L t ((xs.take h.toNat).drop l.toNat))
  | _,_=>(False, .bool false)
 | _=>(False, .bool false)
def Zj1 (P:Program) (s:TypeId) (f:Nat):Option Field :=
 match P.underlying s with
 | some (.struct fs)=>fs[f]?
 | _=>none
def ZnM:List AV→Option (List Nat)
 | []=>some []
 | .w (.c (.bp i 0)) :: l=>(ZnM l).map (i :: ·)
 | _=>none
def ZPM (f:TypeId→Option Ty):List Field→Option Ty
 | []=>none
 | [x]=>f x.type
 | x :: l=>match f x.type,ZPM f l with
  | some a,some b=>some (.prod a b)
  | _,_=>none
def ZJV (P:Program):Nat→TypeId→Option Ty
 | 0,_=>none
 | n + 1,t=>match P.underlying t with
  | some (.int k)=>some (.int k)
  | some .bool=>some .bool
  | some .string=>some .str
  | some (.slice e)=>(ZJV P n e).map .list
  | some (.struct fs)=>ZPM (ZJV P n) fs.toList
  | _=>none
def Zfz (P:Program) (e:TypeId) (n:Nat):Bool:=match P.info? e with
 | some i=>Nat.beq i.size n && (Nat.ble i.bytes 512 && match i.zero with | some z=>Nat.beq z.cells.size n | none=>false)
 | none=>false
def rowMax:Nat:=274877906944
def Zcn (M:Mem) (i v:Nat):Option ZfD:=match M[i]? with
 | some (.row t xs cv cc none)=>bif Nat.beq v cv then some ⟨t,xs,cc⟩ else none
 | _=>none
def ZiC (M:Mem) (i v:Nat):Option ZfD:=match M[i]? with
 | some (.row t xs cv cc _)=>bif Nat.beq v cv then some ⟨t,xs,cc⟩ else none
 | _=>none
def Zb7 (M:Mem) (i v c n k o:Nat):Option ZfD:=match M[i]? with
 | some (.row t xs cv cc none)=>bif (Nat.beq v cv && Nat.beq c cc) && Nat.beq n t.n then ZbC t (nth t xs k) o else none
 | _=>none
def Zfa (M:Mem):AC→Option (Lnd × ZfD)
 | .hs L t xs=>bif Zdu M L then some (L,⟨t,xs,0⟩) else none
 | .row i v=>(Zcn M i v).map fun r=>(.at i v r.c,r)
 | .sl i v c n k o=>(Zb7 M i v c n k o).map fun r=>(.at i v c,r)
 | _=>none
def Ztp (k:IntKind):List AC→Option (Int × List AC × List Nat)
 | .int k' x :: l=>if k'=k then some (x,l,[]) else none
 | _=>none
def ZnN:List AC→Option (Bool × List AC × List Nat)
 | .bool b :: l=>some (b,l,[])
 | _=>none
def Ztq:List AC→Option (ByteArray × List AC × List Nat)
 | .str b :: l=>some (b,l,[])
 | _=>none
def Ztr:List AC→Option (Value × List AC × List Nat)
 | .opq v :: l=>some (v,l,[])
 | _=>none
def Zyi (M:Mem) (a:Ty):List AC→Option (List a.den × List AC × List Nat)
 | .row i v :: l=>match Zcn M i v with
  | some r=>if h:r.t=a then some (h ▸ r.xs,l,[i]) else none
  | none=>none
 | .raw (.slice none 0 0) :: l=>some ([],l,[])
 | _=>none
def ZB8 (M:Mem):(t:Ty)→List AC→Option (t.den × List AC × List Nat)
 | .int k,l=>Ztp k l
 | .bool,l=>ZnN l
 | .str,l=>Ztq l
 | .opq,l=>Ztr l
 | .prod a b,l=>match ZB8 M a l with
  | some (x,l1,j1)=>match ZB8 M b l1 with
   | some (y,l2,j2)=>some ((x,y),l2,j1 ++ j2)
   | none=>none
  | none=>none
 | .list a,l=>Zyi M a l
def ZHH (M:Mem) (t:Ty) (x:AV):Option (t.den × List Nat):=match ZgV x with
 | some l=>match ZB8 M t l with
  | some (y,[],js)=>some (y,js)
  | _=>none
 | none=>none
def Zei (M:Mem) (t:Ty):Nat→List (Nat × AV)→Option (List t.den × List Nat)
 | _,[]=>some ([],[])
 | k,(i,x) :: l=>bif Nat.beq i k then (match ZHH M t x with
  | some (y,js)=>match Zei M t (k + 1) l with
   | some (ys,ks)=>some (y :: ys,js ++ ks)
   | none=>none
  | none=>none) else none
def ZbU (M:Mem):List Nat→Mem
 | []=>M
 | j :: js=>ZbU (M.set j .dead) js
def ZaW:List Nat→Bool
 | []=>true
 | j :: js=>js.all (fun i=>!Nat.beq i j) && ZaW js
structure ZPN where
 t:Ty
 ys:List t.den
 js:List Nat
 nd:Prop
def ZLC (M:Mem):AV→Option ZPN
 | .w (.c (.sl i v c n k o))=>match Zb7 M i v c n k o with
  | some r=>bif r.t.flat then some ⟨r.t,r.xs,[],True⟩ else none
  | none=>none
 | .w (.c (.hs L t ys))=>bif Zdu M L then (bif t.flat then some ⟨t,ys,[],True⟩ else some ⟨t,[],[],ys=[]⟩) else none
 | .w (.c (.row j v))=>match Zcn M j v with
  | some r=>some ⟨r.t,r.xs,bif r.t.flat then [] else [j],True⟩
  | none=>none
 | _=>none
def Zj2:AV→Bool
 | .w (.c (.raw (.slice none 0 0)))=>true
 | _=>false
theorem Zts {y:AV} (h:Zj2 y=true):y=.w (.c (.raw (.slice none 0 0))):=by
 unfold Zj2 at h
 split at h
 ·rfl
 ·cases h
def ZeH (P:Program) (M:Mem) (e:TypeId) (x y:AV):OR :=
 match x with
 | .w (.c (.row i v))=>match M[i]? with
  | some (.row t xs cv cc none)=>bif Nat.beq v cv then (bif Zj2 y then (bif Zfz P e t.n then ⟨True,x,M⟩ else .no) else (match ZLC M y with
   | some r=>if h:r.t=t then (bif Zfz P e t.n && r.js.all (fun j=>!Nat.beq j i) then ⟨r.nd∧xs.length + r.ys.length≤rowMax, .c (.row i (v + 1)),(ZbU M r.js).set i (.row t (xs ++ h ▸ r.ys) (v + 1) (cc + 1) none)⟩ else .no) else .no
   | none=>.no)) else .no
  | _=>.no
 | .w (.c (.raw (.slice none 0 0)))=>match ZLC M y with
  | some r=>bif Zfz P e r.t.n then ⟨r.nd∧r.ys.length≤rowMax, .c (.row M.length 0),ZbU M r.js ++ [.row r.t r.ys 0 0 none]⟩ else .no
  | none=>.no
 | _=>.no
def ZFR (pl:Array (Nat × Nat)):List AC→List (Nat × AV)→Option (List AC)
 | l,[]=>some l
 | l,(i,x) :: r=>match pl[i]?,ZgV x with
  | some q,some cs=>bif Nat.beq cs.length q.2 && Nat.ble (q.1 + cs.length) l.length then ZFR pl (l.take q.1 ++ cs ++ l.drop (q.1 + cs.length)) r else none
  | _,_=>none
def ZDn (P:Program) (fs:List Field):Option (List (Nat × Nat)):=fs.mapM (fun f=>(P.info? f.type).map fun i=>(f.offset,i.size))
def ZDo (P:Program) (t:TypeId) (parts:List (Nat × AV)):Option (List AC) :=
 match P.underlying t,(P.info? t).bind (·.zero) with
 | some (.struct fs),some z=>match ZDn P fs.toList with
  | some pl=>bif z.cells.toList.all Zhw then ZFR pl.toArray (z.cells.toList.map ZDl) parts else none
  | none=>none
 | _,_=>none
def ZbD (M:Mem) (t:Ty) (l:List AC):Option (t.den × List Nat):=match ZB8 M t l with
 | some (y,[],js)=>some (y,js)
 | _=>none
def Zj3 (M:Mem):(t:Ty)→t.den→Nat→List AC→Option (t.den × List Nat)
 | .prod a b,x,o,l=>bif Nat.beq o 0 && Nat.beq l.length (a.n + b.n) then ZbD M (.prod a b) l
  else bif Nat.ble (o + l.length) a.n then (match Zj3 M a x.1 o l with
   | some (y,js)=>some ((y,x.2),js)
   | none=>none)
  else bif Nat.ble a.n o then (match Zj3 M b x.2 (o - a.n) l with
   | some (y,js)=>some ((x.1,y),js)
   | none=>none) else none
 | .int k,_,o,l=>bif Nat.beq o 0 && Nat.beq l.length 1 then ZbD M (.int k) l else none
 | .bool,_,o,l=>bif Nat.beq o 0 && Nat.beq l.length 1 then ZbD M .bool l else none
 | .str,_,o,l=>bif Nat.beq o 0 && Nat.beq l.length 1 then ZbD M .str l else none
 | .opq,_,o,l=>bif Nat.beq o 0 && Nat.beq l.length 1 then ZbD M .opq l else none
 | .list a,_,o,l=>bif Nat.beq o 0 && Nat.beq l.length 1 then ZbD M (.list a) l else none
def Ztt (M:Mem) (i v c n k o:Nat):Option Mem:=match M[i]? with
 | some (.row t xs cv cc none)=>bif (Nat.beq v cv && Nat.beq c cc) && Nat.beq n t.n then (match ZbC t (nth t xs k) o with
  | some r=>some ((M.set i (.row t xs v (c + 1) (some (k,o,M.length)))) ++ [.row r.t r.xs 0 0 none])
  | none=>none) else none
 | _=>none
def Zqs (M:Mem) (i:Nat):Mem:=match M[i]? with
 | some (.row t xs v c (some (k,o,j)))=>match M[j]? with
  | some (.row a ys w _ none)=>match ZbC t (nth t xs k) o with
   | some r=>bif (Nat.beq w 0 && !Nat.beq j i) && decide (r.t=a) then (ZbU M [j]).set i (.row t (xs.set k (ZbS a ys t (nth t xs k) o)) v (c + 1) none) else M
   | none=>M
  | _=>M
 | _=>M
def ZzA (M:Mem):List Nat→Mem
 | []=>M
 | i :: l=>ZzA (Zqs M i) l
def ZmO (M:Mem):Mem:=ZzA M (List.range M.length)
def ZDp (M:Mem):AC→Option (AC × Mem)
 | .sl i v c n k o=>(Ztt M i v c n k o).map fun M'=>(.row M.length 0,M')
 | _=>none
def ZBj (M:Mem):List AC→Option (List AC × Mem)
 | []=>none
 | c :: l=>match ZDp M c with
  | some (c',M')=>some (c' :: l,M')
  | none=>(ZBj M l).map fun p=>(c :: p.1,p.2)
def liftV (M:Mem):AV→Option (AV × Mem)
 | .w (.c (.sp i v c n k o m x q))=>(Ztt M i v c n k o).map fun M'=>(.c (.rp M.length 0 m x q),M')
 | .w (.c c)=>(ZDp M c).map fun p=>(.c p.1,p.2)
 | .w (.ag l)=>(ZBj M l).map fun p=>(.ag p.1,p.2)
 | _=>none
def Zhx (tm:List AV) (M:Mem) (t:Nat):List AV × Mem:=match tm[t]? with
 | some x=>match liftV M x with
  | some (v,M')=>(tm.set t v,M')
  | none=>(tm,M)
 | none=>(tm,M)
def ZlY (P:Program) (M:Mem) (t:TypeId) (i v n k o:Nat) (l' : List AC):OR :=
 match M[i]? with
 | some (.row tt xs cv cc none)=>bif (Nat.beq v cv && Nat.beq n tt.n) && (Nat.beq l'.length (Zbg P t) && Nat.blt 0 (Zbg P t)) then
  (match Zj3 M tt (nth tt xs k) o l' with
  | some (y,js)=>bif ZaW js && js.all (fun j=>!Nat.beq j i) then ⟨True, .any,(ZbU M js).set i (.row tt (xs.set k y) cv (cc + 1) none)⟩ else .no
  | none=>.no) else .no
 | _=>.no
def ZLD (M:Mem) (i:Nat):Bool:=match M[i]? with
 | some (.row _ _ _ _ (some _))=>true
 | _=>false
def ZlZ (P:Program) (M:Mem) (t:TypeId) (i v n k o:Nat) (l' : List AC):OR :=
 match M[i]? with
 | some (.row tt xs cv cc (some (k0,o0,_)))=>bif (Nat.beq v cv && Nat.beq n tt.n) && (Nat.beq o o0 && (Nat.beq l'.length 1 && Nat.beq (Zbg P t) 1)) then (match ZbC tt (nth tt xs k0) o with
  | some r=>match ZbD M (.list r.t) l' with
   | some (ys,js)=>bif ZaW js && js.all (fun j=>!Nat.beq j i) then ⟨k=k0, .any,(ZbU M js).set i (.row tt (xs.set k0 (ZbS r.t ys tt (nth tt xs k0) o)) cv (cc + 1) none)⟩ else .no
   | none=>.no
  | none=>.no) else .no
 | _=>.no
def slL (i v c n k:Nat):Nat→List AC→List AC
 | _,[]=>[]
 | o, .hs _ _ _ :: l=>.sl i v c n k o :: slL i v c n k (o + 1) l
 | o,x :: l=>x :: slL i v c n k (o + 1) l
def slV (u:AV) (i v c n k o:Nat):AV:=match u with
 | .w (.c (.hs _ _ _))=>.c (.sl i v c n k o)
 | .w (.ag l)=>.ag (slL i v c n k o l)
 | u=>u
def Ty.hasOpq:Ty→Bool
 | .prod a b=>a.hasOpq || b.hasOpq
 | .opq=>true
 | _=>false
def ZI9 (M:Mem) (x y:AV):Option (AV × Mem):=match x,y with
 | .w (.c (.row i v)), .w (.c (.hs .no t' ys))=>bif t'.hasOpq then (match M[i]? with
  | some (.row t xs cv _ none)=>if t=t' then none else (match xs with
   | []=>bif Nat.beq v cv && Nat.beq t.n t'.n then some (.c (.row M.length 0),ZbU M [i] ++ [.row t' [] 0 0 none]) else none
   | _ :: _=>none)
  | _=>none) else none
 | _,_=>none
def ZHI:AC→Option Ty
 | .int k _=>some (.int k)
 | .bool _=>some .bool
 | .str _=>some .str
 | .opq _=>some .opq
 | _=>none
def ZDq:List AC→Option Ty
 | []=>none
 | [c]=>ZHI c
 | c :: l=>match ZHI c,ZDq l with
  | some a,some b=>some (.prod a b)
  | _,_=>none
def ZOw (ps:List (Nat × AV)):Option Ty:=match ps with
 | (_, .w (.ag l)) :: _=>match ZDq l with
  | some t=>bif t.hasOpq then some t else none
  | none=>none
 | _=>none
def ZbV (xs:List Int):ByteArray:=⟨(xs.map fun n=>UInt8.ofNat n.toNat).toArray⟩
def ZdQ (s:ByteArray):List Int:=s.data.toList.map fun b=>((b.toNat:Nat):Int)
def ZJW (P:Program) (e:TypeId):Bool:=match P.underlying e with
 | some (.int .u8)=>true
 | _=>false
def ZJa:ZfD→Option (List Int)
 | ⟨.int .u8,xs,_⟩=>some xs
 | _=>none
def Zyj (M:Mem):AC→Option (List Int)
 | .raw (.slice none 0 0)=>some []
 | c=>match Zfa M c with
  | some (_,r)=>ZJa r
  | none=>none
def Zqt (P:Program) (e:TypeId):Bool:=match P.info? e with
 | some i=>(Nat.beq i.size 1 && Nat.beq i.bytes 1) && match i.zero with | some (.int .u8 n)=>decide (n=0) | _=>false
 | none=>false
def ZnO (P:Program) (M:Mem) (e:TypeId) (x:AV) (s:ByteArray):OR :=
 match x with
 | .w (.c (.row i v))=>match M[i]? with
  | some (.row (.int .u8) xs cv cc none)=>bif Nat.beq v cv && Zqt P e then ⟨List.length (α:=Int) xs + (ZdQ s).length≤rowMax, .c (.row i (v + 1)),M.set i (.row (.int .u8) (List.append (α:=Int) xs (ZdQ s)) (v + 1) (cc + 1) none)⟩ else .no
  | _=>.no
 | .w (.c (.raw (.slice none 0 0)))=>bif Zqt P e then ⟨(ZdQ s).length≤rowMax, .c (.row M.length 0),M ++ [.row (.int .u8) (ZdQ s) 0 0 none]⟩ else .no
 | _=>.no
def opA (P:Program) (tm:List AV) (M:Mem) (o:Oper):OR :=
 let ρ:=evalA tm
 match o.op with
 | .move x=>⟨True,ρ x,M⟩
 | .assign x=>⟨True,ρ x,M⟩
 | .pick c a b=>match ρ c with
  | .w (.c (.bool g))=>⟨True,ZI8 g (ρ a) (ρ b),M⟩
  | _=>.no
 | .alloc e=>match (P.info? e).bind (·.zero) with
  | some z=>bif z.cells.toList.all Zhw then ⟨True, .c (.bp M.length 0),M ++ [.box (z.cells.toList.map ZDl)]⟩ else .no
  | none=>.no
 | .box _ x=>match ZgV (ρ x) with
  | some l=>⟨True, .c (.bp M.length 0),M ++ [.box l]⟩
  | none=>.no
 | .load t a=>match ρ a with
  | .w (.c (.bp i o))=>match M[i]? with
   | some (.box l)=>match Zf0 P t l o with
    | some v=>⟨True,v,M⟩
    | none=>.no
   | _=>.no
  | .w (.c (.ep L t' xs k o))=>bif Zdu M L then (match Zf0 P t (ZeM L t' (nth t' xs k)) o with
   | some v=>⟨True,v,M⟩
   | none=>.no) else .no
  | .w (.c (.rp i v n k o))=>match Zcn M i v with
   | some r=>bif Nat.beq n r.t.n then (match Zf0 P t (ZeM (.at i v r.c) r.t (nth r.t r.xs k)) o with
    | some u=>⟨True,slV u i v r.c n k o,M⟩
    | none=>.no) else .no
   | none=>.no
  | .w (.c (.sp i v c n k o m x q))=>match Zb7 M i v c n k o with
   | some r=>bif Nat.beq m r.t.n then (match Zf0 P t (ZeM (.at i v c) r.t (nth r.t r.xs x)) q with
    | some u=>⟨True,u,M⟩
    | none=>.no) else .no
   | none=>.no
  | _=>.no
 | .store t a x=>match ρ a,ZgV (ρ x) with
  | .w (.c (.bp i o)),some l'=>match M[i]? with
   | some (.box l)=>bif (Nat.beq l'.length (Zbg P t)) && (Nat.ble (o + l'.length) l.length && Nat.blt 0 (Zbg P t)) then ⟨True, .any,M.set i (.box (l.take o ++ l' ++ l.drop (o + l'.length)))⟩ else .no
   | _=>.no
  | .w (.c (.rp i v n k o)),some l'=>bif ZLD M i then ZlZ P M t i v n k o l' else ZlY P M t i v n k o l'
  | _,_=>.no
 | .build t parts=>match ZDo P t (parts.toList.map fun p=>(p.1,ρ p.2)) with
  | some l=>⟨True, .ag l,M⟩
  | none=>.no
 | .nilCheck x=>match ρ x with
  | .w (.c (.bp i o))=>⟨True, .c (.bp i o),M⟩
  | .w (.c (.ep L t xs k o))=>bif Zdu M L then ⟨True, .c (.ep L t xs k o),M⟩ else .no
  | .w (.c (.rp i v n k o))=>bif (ZiC M i v).isSome then ⟨True, .c (.rp i v n k o),M⟩ else .no
  | .w (.c (.sp i v c n k o m x q))=>bif (Zb7 M i v c n k o).isSome then ⟨True, .c (.sp i v c n k o m x q),M⟩ else .no
  | .w (.c (.fn f l))=>⟨True, .c (.fn f l),M⟩
  | _=>.no
 | .binOp op t x y _=>let r:=ZJU P op t (ρ x) (ρ y); ⟨r.1, .c r.2,M⟩
 | .unOp .not _ x=>match ρ x with
  | .w (.c (.bool b))=>⟨True, .c (.bool (!b)),M⟩
  | _=>.no
 | .unOp .neg _ x=>match ρ x with
  | .w (.c (.int k n))=>⟨True, .c (.int k (k.wrap (0 - n))),M⟩
  | _=>.no
 | .convert s d x=>match P.underlying d,ρ x with
  | some (.int k), .w (.c (.int _ n))=>⟨(P.underlying s).isSome=true, .c (.int k (k.wrap n)),M⟩
  | some .string, .w (.c c)=>match P.underlying s with
   | some (.slice e)=>bif ZJW P e then (match Zyj M c with
    | some xs=>⟨xs.length≤maxLen, .c (.str (ZbV xs)),M⟩
    | none=>.no) else .no
   | _=>.no
  | _,_=>.no
 | .makeFunc (.func f) first captured=>match first.toList,ZnM (captured.toList.map ρ) with
  | [],some l=>⟨True, .c (.fn f l),M⟩
  | _,_=>.no
 | .slice t x lo hi none=>match P.underlying t with
  | some .string=>match ρ x with
   | .w (.c (.str _))=>let r:=ZlX (ρ x) (lo.map ρ) (hi.map ρ); ⟨r.1, .c r.2,M⟩
   | _=>.no
  | some (.slice e)=>match ρ x with
   | .w (.c a)=>match Zfa M a with
    | some (L,q)=>let r:=ZlX (.c (.hs L q.t q.xs)) (lo.map ρ) (hi.map ρ); ⟨Zbg P e=q.t.n∧r.1, .c r.2,M⟩
    | none=>.no
   | _=>.no
  | _=>.no
 | .fieldAddr s x f=>match Zj1 P s f with
  | some f=>bif Nat.beq (Zbg P f.type) 0 then .no else match ρ x with
   | .w (.c (.bp i o))=>⟨True, .c (.bp i (o + f.offset)),M⟩
   | .w (.c (.ep L t xs k o))=>bif Zdu M L then ⟨True, .c (.ep L t xs k (o + f.offset)),M⟩ else .no
   | .w (.c (.rp i v n k o))=>bif (ZiC M i v).isSome then ⟨True, .c (.rp i v n k (o + f.offset)),M⟩ else .no
   | .w (.c (.sp i v c n k o m x q))=>bif (Zb7 M i v c n k o).isSome then ⟨True, .c (.sp i v c n k o m x (q + f.offset)),M⟩ else .no
   | _=>.no
  | none=>.no
 | .indexAddr t x i=>match P.underlying t,ρ x,ρ i with
  | some (.slice e), .w (.c (.hs L t' xs)), .w (.c (.int _ n))=>bif Zdu M L then ⟨Zbg P e=t'.n∧0≤n∧n < (xs.length:Int), .c (.ep L t' xs n.toNat 0),M⟩ else .no
  | some (.slice e), .w (.c (.row i v)), .w (.c (.int _ n))=>match ZiC M i v with
   | some r=>⟨Zbg P e=r.t.n∧0≤n∧n < (r.xs.length:Int), .c (.rp i v r.t.n n.toNat 0),M⟩
   | none=>.no
  | some (.slice e), .w (.c (.sl i v c n k o)), .w (.c (.int _ x))=>match Zb7 M i v c n k o with
   | some r=>⟨Zbg P e=r.t.n∧0≤x∧x < (r.xs.length:Int), .c (.sp i v c n k o r.t.n x.toNat 0),M⟩
   | none=>.no
  | _,_,_=>.no
 | .index t x i=>match P.underlying t,ρ x,ρ i with
  | some .string, .w (.c (.str s)), .w (.c (.int _ n))=>⟨0≤n∧n < (s.size:Int), .c (.int .u8 (Zap s n.toNat)),M⟩
  | _,_,_=>.no
 | .buildSlice t len parts=>match P.underlying t with
  | some (.slice e)=>match ZJV P 8 e with
   | some tt=>match Zei M tt 0 (parts.toList.map fun p=>(p.1,ρ p.2)) with
    | some (ys,js)=>bif (Zfz P e tt.n && Nat.ble (len * tt.n) 16777216) && (Nat.beq len parts.size && ZaW js) then ⟨True, .c (.row M.length 0),ZbU M js ++ [.row tt ys 0 0 none]⟩ else .no
    | none=>bif tt.flat then .no else (match ZOw (parts.toList.map fun p=>(p.1,ρ p.2)) with
     | some tq=>(match Zei M tq 0 (parts.toList.map fun p=>(p.1,ρ p.2)) with
      | some (ys,js)=>bif (Zfz P e tq.n && Nat.ble (len * tq.n) 16777216) && (Nat.beq len parts.size && ZaW js) then ⟨True, .c (.row M.length 0),ZbU M js ++ [.row tq ys 0 0 none]⟩ else .no
      | none=>.no)
     | none=>.no)
   | none=>.no
  | _=>.no
 | .makeSlice t l c=>match P.underlying t,ρ l,ρ c with
  | some (.slice e), .w (.c (.int .i64 n)), .w (.c (.int .i64 m))=>match ZJV P 8 e,(P.info? e).bind (·.zero) with
   | some tt,some z=>bif z.cells.toList.all Zhw && Zfz P e tt.n then (match ZbD M tt (z.cells.toList.map ZDl) with
    | some (d,[])=>⟨n=m∧0≤n∧n≤(rowMax:Nat), .c (.row M.length 0),M ++ [.row tt (List.replicate n.toNat d) 0 0 none]⟩
    | _=>.no) else .no
   | _,_=>.no
  | _,_,_=>.no
 | .field s x f=>match Zj1 P s f with
  | some f=>match ρ x with
   | .w (.ag l)=>match Zf0 P f.type l f.offset with
    | some u=>⟨True,u,M⟩
    | none=>.no
   | _=>.no
  | none=>.no
 | .extract x i=>match ρ x with
  | .tp l=>match l[i]? with
   | some w=>⟨True, .w w,M⟩
   | none=>.no
  | _=>.no
 | .call c=>match c.callee with
  | .builtin .len=>match c.argTypes.toList,c.args.toList with
   | [t],[x]=>match P.underlying t,ρ x with
    | some .string, .w (.c (.str s))=>⟨True, .c (.int .i64 (s.size:Nat)),M⟩
    | some (.slice _), .w (.c (.raw (.slice none 0 0)))=>⟨True, .c (.int .i64 0),M⟩
    | some (.slice _), .w (.c a)=>match Zfa M a with
     | some (_,q)=>⟨True, .c (.int .i64 (q.xs.length:Nat)),M⟩
     | none=>.no
    | _,_=>.no
   | _,_=>.no
  | .builtin .append=>match c.argTypes.toList,c.args.toList with
   | [t,t2],[x,y]=>match P.underlying t with
    | some (.slice e)=>bif Nat.beq t t2 then (match ZI9 M (ρ x) (ρ y) with | some q=>ZeH P q.2 e q.1 (ρ y) | none=>ZeH P M e (ρ x) (ρ y)) else (match P.underlying t2,ρ y with
     | some .string, .w (.c (.str s))=>ZnO P M e (ρ x) s
     | _,_=>.no)
    | _=>.no
   | _,_=>.no
  | .builtin .min=>match c.args.toList.map ρ with
   | [.w (.c (.int k a)), .w (.c (.int k' b))]=>⟨k=k', .c (.int k (if b < a then b else a)),M⟩
   | [.w (.c (.int k a)), .w (.c (.int k' b)), .w (.c (.int k'' c))]=>⟨k=k'∧k=k'', .c (.int k (if c < (if b < a then b else a) then c else (if b < a then b else a))),M⟩
   | _=>.no
  | .builtin .max=>match c.args.toList.map ρ with
   | [.w (.c (.int k a)), .w (.c (.int k' b))]=>⟨k=k', .c (.int k (if b > a then b else a)),M⟩
   | _=>.no
  | _=>.no
 | _=>.no
section
variable {P:Program} {X:List Nat} {W:World} {E:Env} {M:Mem} {a:Act} {tm:List AV}
theorem absC_rep {v:Value} (h:Zhw v=true):Zbo X W E M (ZDl v) v:=by
 cases v <;> first | exact ⟨rfl,h⟩ | exact rfl | exact ⟨rfl,by simpa [Zhw] using h⟩
theorem Zii:∀ {vs:List Value},vs.all Zhw=true→Zbu X W E M (vs.map ZDl) vs
 | [],_=>rfl
 | v :: vs,h=>by
  rw [List.all_cons,Bool.and_eq_true] at h
  exact ⟨v,vs,rfl,absC_rep h.1,Zii h.2⟩
theorem ZFS (v:Value):Zcd X W E M (ZOv v) v:=by
 unfold ZOv
 split
 ·rename_i cs
  split
  ·rename_i h; exact ⟨cs.toList,rfl,Zii h⟩
  ·trivial
 ·split
  ·rename_i h; exact absC_rep h
  ·trivial
theorem Zam (ht:Zbv X W E M tm a.tmps.toList) (x:Operand):Zcd X W E M (evalA tm x) (a.eval x):=by
 cases x with
 | tmp t =>
  show Zcd X W E M (tm.getD t .any) (a.tmps.getD t undef)
  rw [List.getD_eq_getElem?_getD]
  cases h:tm[t]? with
  | none=>trivial
  | some x =>
   obtain ⟨v,h1,h2⟩:=ht.get h
   have:a.tmps.getD t undef=v:=by
    rw [Array.getD_eq_getD_getElem?,← Array.getElem?_toList,h1]
    rfl
   rw [this]
   exact h2
 | const v=>exact ZFS v
 | global g=>trivial
 | func f=>exact ⟨[],rfl,rfl⟩
theorem Zea {x:AV} {v:Value} {l:List AC} (h:Zcd X W E M x v) (hl:ZgV x=some l):Zbu X W E M l v.cells.toList:=by
 unfold ZgV at hl
 split at hl
 ·rename_i c
  obtain rfl:[c]=l:=by simpa using hl
  have h' : Zbo X W E M c v:=h
  refine ⟨v,[],?_,h',rfl⟩
  have:=h'.one
  cases v <;> first | rfl | simp [Value.oneCell'] at this
 ·rename_i l'
  obtain rfl:l'=l:=by simpa using hl
  obtain ⟨cs,rfl,h2⟩:=(h:∃ cs,v=.agg cs.toArray∧Zbu X W E M l' cs)
  simpa [Value.cells] using h2
 ·simp at hl
def Zdv (X:List Nat) (P:Program) (o:Oper) (a:Act) (W:World) (E:Env) (M:Mem) (v:AV) (M' : Mem):Prop :=
 ∃ u W' E',((execOp a.eval o).run P W=.ok (.value u) W'∨((execOp a.eval o).run P W=.ok .skip W'∧u=undef)) ∧
   Zbb W E W' E'∧ZaK W E M W' E' M'∧RepM X W' E' M'∧Zcd X W' E' M' v u
theorem Zdv.stay {o:Oper} {v:AV} {u:Value} (hM:RepM X W E M) (h:(execOp a.eval o).run P W=.ok (.value u) W) (hv:Zcd X W E M v u):Zdv X P o a W E M v M :=
 ⟨u,W,E, .inl h,Zbb.refl W E,ZaK.refl W E M,hM,hv⟩
theorem ZaV (E E' : Env):foots (E ++ E')=foots E ++ foots E':=by simp [foots]
theorem Zqu (hM:RepM X W E M) (o:Obj) (e:EB) (he:∀ b ∈ e.foot,b=W.heap.size):Zbb W E (W.alloc o) (E ++ [e]) where
 os:=rfl
 tape:=rfl
 output:=rfl
 size:=by simp
 keep b hb _:=Below.heap_alloc W o b hb
 new b hb:=by
  rw [ZaV,List.mem_append] at hb
  rcases hb with hb | hb
  ·exact .inl hb
  ·exact .inr (by simp [foots] at hb; rw [he b hb]; exact Nat.le_refl _)
 blk i e' h:=⟨e',by rw [List.getElem?_append_left (List.getElem?_eq_some_iff.1 h).1]; exact h,rfl⟩
theorem Zdo {W' : World} (g:Zbb W E W' E) (hM:RepM X W E M) (hk:∀ b ∈ foots E,W'.heap[b]?=W.heap[b]?) (bs:List Blk) (es:List EB):ZaK W E M W' (E ++ es) (M ++ bs):=fun i=>by
 have key:∀ b,M[i]?=some b→(M ++ bs)[i]?=some b∧∀ e,E[i]?=some e→(E ++ es)[i]?=some e:=fun b hb=>by
  have hlt:=(List.getElem?_eq_some_iff.1 hb).1
  have hl:=hM.len
  exact ⟨by rw [List.getElem?_append_left hlt]; exact hb,fun e he=>by rw [List.getElem?_append_left (by omega)]; exact he⟩
 split
 ·rename_i h
  exact .inr ⟨_,_,_,_,(key _ h).1,Nat.le_refl _,fun _ e he=>⟨e,(key _ h).2 e he,rfl,Nat.le_refl _,fun _ b hb=>⟨hb,hk b (Zaw.2 ⟨e,List.mem_of_getElem? he,hb⟩)⟩⟩⟩
 ·rename_i h
  exact (key _ h).1
 ·trivial
theorem Zj4 {W W' : World} {p:Addr} {u:Value} {q:Nat} (h:W'.heap[q]?=W.heap[q]?):(W'.setCell p u).heap[q]?=(W.setCell p u).heap[q]?:=by
 unfold World.setCell
 simp only [Array.getElem?_modify,h]
theorem ZJT.keep {W' : World} {E' : Env} {M' : Mem} {b:Blk} {e:EB} (g:Zbb W E W' E') (hm:ZaK W E M W' E' M') (hl:M.length=E.length) (h:ZJT X W E M b e) (hk:∀ q ∈ e.foot,W'.heap[q]?=W.heap[q]?):ZJT X W' E' M' b e:=by
 cases b with
 | box l =>
  obtain ⟨h1,cs,T,h2,h3⟩:=h
  exact ⟨h1,cs,T,by rw [hk _ (by simp [h1])]; exact h2,h3.mono g hm hl⟩
 | row t xs v c hh =>
  cases hh with
  | none=>exact Zc3.keep h hk
  | some p =>
   obtain ⟨k,o,j⟩:=p
   obtain ⟨b,l,cap,r,h1,h2,h3,h4,h5⟩:=h
   have hb:b ∈ e.foot:=by
    exact Zv1
   exact ⟨b,l,cap,r,h1,h2,h3,Zc3.keep h4 (fun q hq=>Zj4 (hk q hq)),h5.mono hm (fun e1 e2 he h=>by rw [ZnL (hk b hb),he]; exact h)⟩
 | mp xs =>
  obtain ⟨h1,es,ck,h2,h3⟩:=h
  exact ⟨h1,es,ck,by rw [hk _ (by simp [h1])]; exact h2,h3⟩
 | dead=>exact h
theorem Zfb {E E' : Env} {n:Nat} (h1:(foots E).Nodup) (h2:(foots E').Nodup) (hlt:∀ b ∈ foots E,b < n) (hge:∀ b ∈ foots E',n≤b):(foots (E ++ E')).Nodup:=by
 rw [ZaV,List.nodup_append]
 refine ⟨h1,h2,fun x hx y hy e=>?_⟩
 have:=hlt x hx
 have:=hge y hy
 omega
theorem ZzB (hM:RepM X W E M) (cs:Array Value) (T:TypeId) (l:List AC) (hl:Zbu X W E M l cs.toList) :
 Zbb W E (W.alloc (.cells cs T)) (E ++ [⟨W.heap.size,undef,[W.heap.size]⟩])∧ZaK W E M (W.alloc (.cells cs T)) (E ++ [⟨W.heap.size,undef,[W.heap.size]⟩]) (M ++ [.box l]) ∧
  RepM X (W.alloc (.cells cs T)) (E ++ [⟨W.heap.size,undef,[W.heap.size]⟩]) (M ++ [.box l]) ∧
  Zcd X (W.alloc (.cells cs T)) (E ++ [⟨W.heap.size,undef,[W.heap.size]⟩]) (M ++ [.box l]) (.c (.bp M.length 0)) (.pointer (some ⟨W.heap.size,0,none⟩)):=by
 have g:=Zqu hM (.cells cs T) ⟨W.heap.size,undef,[W.heap.size]⟩ (fun b hb=>by simpa using hb)
 have hm:=Zdo (W:=W) (W':=W.alloc (.cells cs T)) ⟨rfl,rfl,rfl,by simp,fun b hb _=>Below.heap_alloc W _ b hb,fun b hb=>.inl hb,fun _ e h=>⟨e,h,rfl⟩⟩ hM (fun b hb=>Below.heap_alloc W _ b (hM.lt b hb)) [.box l] [⟨W.heap.size,undef,[W.heap.size]⟩]
 refine ⟨g,hm,⟨by simp [hM.len],Zfb hM.nodup (by simp [foots]) hM.lt (fun b hb=>by simp [foots] at hb; omega),fun i b e hb he=>?_,fun b hb=>?_,fun b hb hf=>?_,fun b hb=>by rw [World.size_alloc]; have:=hM.xsz b hb; omega⟩,⟨⟨W.heap.size,undef,[W.heap.size]⟩,?_,rfl⟩⟩
 ·by_cases hi:i < M.length
  ·exact Zu7
  ·have hi' : i=M.length:=by
    have:=(List.getElem?_eq_some_iff.1 hb).1
    simp at this
    omega
   subst hi'
   rw [List.getElem?_append_right (Nat.le_refl _),Nat.sub_self] at hb
   rw [hM.len,List.getElem?_append_right (Nat.le_refl _),Nat.sub_self] at he
   simp at hb he
   subst hb
   subst he
   exact ⟨rfl,cs,T,heap_alloc_new W _,hl.mono g hm hM.len⟩
 ·exact Zvk
 ·exact Zvq
 ·exact Zv9
theorem ZpU {g o:Nat} {cur:Array Value} {T t:TypeId} {fr:Nat × Nat} {d:TypeDesc} (hg:W.heap[g]?=some (.cells cur T fr)) (hu:P.underlying t=some d) (hd:Zzy d=true) {i:TypeInfo} (hi:P.info? t=some i)
 (hl:o + i.size≤cur.size):(loadVar t ⟨g,o,none⟩).run P W=.ok (.agg ((cur.toList.drop o).take i.size).toArray) W:=by
 have hlen:((cur.toList.drop o).take i.size).length=i.size:=by simp; omega
 have hl' : (loadCells ⟨g,o,none⟩ ((cur.toList.drop o).take i.size).length).run P W=.ok ((cur.toList.drop o).take i.size).toArray W :=
  run_loadCells_list (P:=P) W ⟨g,o,none⟩ _ (fun j v hv=>by
   have hadd:(⟨g,o,none⟩:Addr).add j=⟨g,o + j,none⟩:=by unfold Addr.add; split <;> simp_all
   rw [hadd,cell_of_row W g (o + j) cur T fr hg]
   rw [List.getElem?_take] at hv
   split at hv
   ·simpa using hv
   ·cases hv)
 rw [hlen] at hl'
 have hagg:(isAgg t).run P W=.ok true W:=by
  exact ZoW
 have hsz:(sizeOf t).run P W=.ok i.size W:=by simp [sizeOf,typeInfo,hi]
 exact ZvR
theorem ZnP {g o:Nat} {cur:Array Value} {T t:TypeId} {fr:Nat × Nat} {d:TypeDesc} {v:Value} (hg:W.heap[g]?=some (.cells cur T fr)) (hu:P.underlying t=some d) (hd:Zzy d=false)
 (hv:cur.toList[o]?=some v):(loadVar t ⟨g,o,none⟩).run P W=.ok v W:=by
 have hagg:(isAgg t).run P W=.ok false W:=by
  exact ZoW
 unfold loadVar
 simp only [Sem.run_bind,hagg,Result.andThen_ok,Bool.false_eq_true,if_false]
 rw [run_load,cell_of_row W g o cur T fr hg]
 simp at hv
 rw [hv]
theorem ZzC {g o:Nat} {cur:Array Value} {T t:TypeId} {fr:Nat × Nat} {l:List AC} {v:AV} (hg:W.heap[g]?=some (.cells cur T fr)) (hl:Zbu X W E M l cur.toList) (h:Zf0 P t l o=some v) :
 ∃ u,(loadVar t ⟨g,o,none⟩).run P W=.ok u W∧Zcd X W E M v u:=by
 unfold Zf0 at h
 split at h
 ·rename_i d hd
  cases had:Zzy d with
  | true =>
   rw [had] at h
   simp only [cond_true] at h
   cases hb:Nat.ble (o + Zbg P t) l.length with
   | false=>rw [hb] at h; cases h
   | true =>
    rw [hb] at h
    obtain rfl:AV.ag _=v:=by simpa using h
    have hle:=Nat.le_of_ble_eq_true hb
    have hlen:=hl.len
    obtain ⟨i,hi⟩:∃ i,P.info? t=some i:=by
     unfold Program.underlying at hd
     cases hq:P.info? t with
     | none=>rw [hq] at hd; cases hd
     | some i=>exact ⟨i,rfl⟩
    have hs:Zbg P t=i.size:=by unfold Zbg; rw [hi]
    rw [hs] at hle ⊢
    simp at hlen
    exact ⟨_,ZpU hg hd had hi (by omega),_,rfl,(hl.drop o).take _⟩
  | false =>
   rw [had] at h
   simp only [cond_false] at h
   cases hc:l[o]? with
   | none=>rw [hc] at h; cases h
   | some c =>
    rw [hc] at h
    obtain rfl:AV.c c=v:=by simpa using h
    obtain ⟨u,h1,h2⟩:=hl.get hc
    exact ⟨u,ZnP hg hd had h1,h2⟩
 ·cases h
theorem ZFT {o:Nat} {t:TypeId} {l:List AC} {v:AV} {vs:List Value} (hl:Zbu X W E M l vs) (h:Zf0 P t l o=some v) :
 ∃ u,(part t vs.toArray o).run P W=.ok u W∧Zcd X W E M v u:=by
 unfold Zf0 at h
 split at h
 ·rename_i d hd
  cases had:Zzy d with
  | true =>
   rw [had] at h
   simp only [cond_true] at h
   cases hb:Nat.ble (o + Zbg P t) l.length with
   | false=>rw [hb] at h; cases h
   | true =>
    rw [hb] at h
    obtain rfl:AV.ag _=v:=by simpa using h
    obtain ⟨i,hi⟩:∃ i,P.info? t=some i:=by
     unfold Program.underlying at hd
     cases hq:P.info? t with
     | none=>rw [hq] at hd; cases hd
     | some i=>exact ⟨i,rfl⟩
    have hs:Zbg P t=i.size:=by unfold Zbg; rw [hi]
    rw [hs]
    have e:(vs.toArray.extract o (o + i.size))=((vs.drop o).take i.size).toArray:=by
     apply Array.ext'
     rw [Array.toList_extract]
     simp [List.extract_eq_take_drop]
    refine ⟨.agg ((vs.drop o).take i.size).toArray,?_,_,rfl,(hl.drop o).take _⟩
    rw [← e]
    cases d <;> simp [Zzy] at had <;> simp [part,isAgg,sizeOf,typeInfo,run_underlying hd,hi]
  | false =>
   rw [had] at h
   simp only [cond_false] at h
   cases hc:l[o]? with
   | none=>rw [hc] at h; cases h
   | some c =>
    rw [hc] at h
    obtain rfl:AV.c c=v:=by simpa using h
    obtain ⟨u,h1,h2⟩:=hl.get hc
    refine ⟨u,?_,h2⟩
    have h1' : vs[o]?=some u:=h1
    cases d <;> simp [Zzy] at had <;> simp [part,isAgg,run_underlying hd,h1']
 ·cases h
theorem Zyk {g o q:Nat} {t:TypeId} {l k:List AC} {vs:List Value} {u:Value} (hc:ZcB W g q vs) (hlen:vs.length=l.length) (h:Zf0 P t l o=some (.ag k)) (hu:(loadVar t ⟨g,q + o,none⟩).run P W=.ok u W) :
 ∃ ws:List Value,u=.agg ws.toArray∧ws.length=k.length∧∀ j v,ws[j]?=some v→W.cell? ⟨g,q + (o + j),none⟩=some v:=by
 unfold Zf0 at h
 split at h
 ·rename_i d hd
  cases had:Zzy d with
  | false =>
   rw [had] at h
   simp only [cond_false] at h
   cases hcc:l[o]? with
   | none=>rw [hcc] at h; cases h
   | some c'=>rw [hcc] at h; cases h
  | true =>
   rw [had] at h
   simp only [cond_true] at h
   cases hb:Nat.ble (o + Zbg P t) l.length with
   | false=>rw [hb] at h; cases h
   | true =>
    rw [hb] at h
    have hk:AV.ag ((l.drop o).take (Zbg P t))=AV.ag k:=Option.some.inj h
    injection hk with hk
    injection hk with hk
    have hle:=Nat.le_of_ble_eq_true hb
    obtain ⟨i,hi⟩:∃ i,P.info? t=some i:=by
     unfold Program.underlying at hd
     cases hq:P.info? t with
     | none=>rw [hq] at hd; cases hd
     | some i=>exact ⟨i,rfl⟩
    have hs:Zbg P t=i.size:=by unfold Zbg; rw [hi]
    rw [hs] at hle hk
    have hlen2:((vs.drop o).take i.size).length=i.size:=by simp; omega
    have hcell:∀ j v,((vs.drop o).take i.size)[j]?=some v→W.cell? ⟨g,q + (o + j),none⟩=some v:=fun j v hj=>by
     rw [List.getElem?_take] at hj
     split at hj
     ·exact (hc (o + j) v (by simpa using hj)).1
     ·cases hj
    have hl' : (loadCells ⟨g,q + o,none⟩ ((vs.drop o).take i.size).length).run P W=.ok ((vs.drop o).take i.size).toArray W :=
     run_loadCells_list (P:=P) W ⟨g,q + o,none⟩ _ (fun j v hv=>by
      have hadd:(⟨g,q + o,none⟩:Addr).add j=⟨g,q + (o + j),none⟩:=by unfold Addr.add; split <;> simp_all <;> omega
      rw [hadd]
      exact hcell j v hv)
    rw [hlen2] at hl'
    have hagg:(isAgg t).run P W=.ok true W:=by
     exact ZkN
    have hsz:(sizeOf t).run P W=.ok i.size W:=by simp [sizeOf,typeInfo,hi]
    unfold loadVar at hu
    simp only [Sem.run_bind,hagg,Result.andThen_ok,if_true,hsz,hl',Sem.run_pure] at hu
    injection hu with hu _
    exact ⟨_,hu.symm,by rw [hlen2,← hk]; simp; omega,hcell⟩
 ·cases h
theorem ZBk {g o q:Nat} {t:TypeId} {l:List AC} {c:AC} {vs:List Value} {u:Value} (hc:ZcB W g q vs) (hlen:vs.length=l.length) (h:Zf0 P t l o=some (.c c)) (hu:(loadVar t ⟨g,q + o,none⟩).run P W=.ok u W) :
 W.cell? ⟨g,q + o,none⟩=some u:=by
 unfold Zf0 at h
 split at h
 ·rename_i d hd
  cases had:Zzy d with
  | true =>
   rw [had] at h
   simp only [cond_true] at h
   cases hb:Nat.ble (o + Zbg P t) l.length with
   | false=>rw [hb] at h; cases h
   | true=>rw [hb] at h; cases h
  | false =>
   rw [had] at h
   simp only [cond_false] at h
   cases hcc:l[o]? with
   | none=>rw [hcc] at h; cases h
   | some c' =>
    have ho:o < vs.length:=by rw [hlen]; exact (List.getElem?_eq_some_iff.1 hcc).1
    have hv:=hc o _ (List.getElem?_eq_getElem ho)
    have hagg:(isAgg t).run P W=.ok false W:=by
     exact ZkN
    unfold loadVar at hu
    simp only [Sem.run_bind,hagg,Result.andThen_ok,Bool.false_eq_true,if_false] at hu
    rw [run_load,hv.1] at hu
    rw [hv.1]
    injection hu with hu _
    rw [hu]
 ·cases h
theorem Zls {g o q:Nat} {t:TypeId} {l:List AC} {v:AV} {vs:List Value} (hc:ZcB W g q vs) (hl:Zbu X W E M l vs) (h:Zf0 P t l o=some v) :
 ∃ u,(loadVar t ⟨g,q + o,none⟩).run P W=.ok u W∧Zcd X W E M v u:=by
 unfold Zf0 at h
 split at h
 ·rename_i d hd
  cases had:Zzy d with
  | true =>
   rw [had] at h
   simp only [cond_true] at h
   cases hb:Nat.ble (o + Zbg P t) l.length with
   | false=>rw [hb] at h; cases h
   | true =>
    rw [hb] at h
    obtain rfl:AV.ag _=v:=by simpa using h
    have hle:=Nat.le_of_ble_eq_true hb
    have hlen:=hl.len
    obtain ⟨i,hi⟩:∃ i,P.info? t=some i:=by
     unfold Program.underlying at hd
     cases hq:P.info? t with
     | none=>rw [hq] at hd; cases hd
     | some i=>exact ⟨i,rfl⟩
    have hs:Zbg P t=i.size:=by unfold Zbg; rw [hi]
    rw [hs] at hle ⊢
    have hlen2:((vs.drop o).take i.size).length=i.size:=by simp; omega
    have hl' : (loadCells ⟨g,q + o,none⟩ ((vs.drop o).take i.size).length).run P W=.ok ((vs.drop o).take i.size).toArray W :=
     run_loadCells_list (P:=P) W ⟨g,q + o,none⟩ _ (fun j v hv=>by
      have hadd:(⟨g,q + o,none⟩:Addr).add j=⟨g,q + (o + j),none⟩:=by unfold Addr.add; split <;> simp_all <;> omega
      rw [hadd]
      rw [List.getElem?_take] at hv
      split at hv
      ·exact (hc (o + j) v (by simpa using hv)).1
      ·cases hv)
    rw [hlen2] at hl'
    have hagg:(isAgg t).run P W=.ok true W:=by
     exact ZkN
    have hsz:(sizeOf t).run P W=.ok i.size W:=by simp [sizeOf,typeInfo,hi]
    refine ⟨_,?_,_,rfl,(hl.drop o).take _⟩
    exact ZvR
  | false =>
   rw [had] at h
   simp only [cond_false] at h
   cases hcc:l[o]? with
   | none=>rw [hcc] at h; cases h
   | some c =>
    rw [hcc] at h
    obtain rfl:AV.c c=v:=by simpa using h
    obtain ⟨u,h1,h2⟩:=hl.get hcc
    have hagg:(isAgg t).run P W=.ok false W:=by
     exact ZkN
    refine ⟨u,?_,h2⟩
    unfold loadVar
    simp only [Sem.run_bind,hagg,Result.andThen_ok,Bool.false_eq_true,if_false]
    rw [run_load,(hc o u h1).1]
 ·cases h
end
section
variable {P:Program} {X:List Nat} {W:World} {E:Env} {M:Mem} {a:Act} {tm:List AV} {o:Oper}
theorem ZdS {k:IntKind} {n:Int} {v:Value} (h:Zcd X W E M (.w (.c (.int k n))) v):v=.int k n∧(Lit.int k n).wf=true:=h
theorem Zsc {b:Bool} {v:Value} (h:Zcd X W E M (.w (.c (.bool b))) v):v=.bool b:=h
theorem Zqv {s:ByteArray} {v:Value} (h:Zcd X W E M (.w (.c (.str s))) v):v=.string s∧s.size≤maxLen:=h
theorem ZbE {v:AV} {u:Value} (hM:RepM X W E M) (s:Sem Value) (he:execOp a.eval o=(do pure (.value (← s)))) (hs:s.run P W=.ok u W) (hv:Zcd X W E M v u):Zdv X P o a W E M v M :=
 Zdv.stay hM (by rw [he]; simp [hs]) hv
theorem ZDr {g:Bool} {x y:AV} {u v:Value} (hx:Zcd X W E M x u) (hy:Zcd X W E M y v):Zcd X W E M (ZI8 g x y) (if g then u else v):=by
 unfold ZI8
 split
 ·cases g <;> assumption
 ·split
  ·rename_i h; subst h; cases g <;> assumption
  ·cases g <;> assumption
 ·cases g <;> assumption
 ·cases g <;> assumption
theorem Zyl {t:TypeId} (hu:P.underlying t=some .bool) (x y:Bool):(Op.equal t (.bool x) (.bool y)).run P W=.ok (x == y) W:=by
 unfold Op.equal
 exact run_equalIn_bool W _ t x y hu
theorem Zl0 {k:IntKind} {x:Int}:(Lit.int k x).wf=true↔k.min≤x∧x≤k.max:=by simp [Lit.wf]
theorem ZJb {k:IntKind} {x y:Int} (h:(Lit.int k x).wf=true):(Lit.int k (x.tmod y)).wf=true:=by
 rw [Zl0] at h ⊢
 have h0:k.min≤0∧0≤k.max:=by cases k <;> decide
 rcases Int.le_total 0 x with hx | hx
 ·have h1:=Int.tmod_nonneg y hx
  have h2:x.tmod y≤x:=by
   exact ZvO
  omega
 ·have h1:x.tmod y≤0:=by
   have:=Int.tmod_nonneg y (show 0≤-x by omega)
   rw [Int.neg_tmod] at this
   omega
  have h2:x≤x.tmod y:=by
   exact ZvO
  omega
theorem ZFU {op:BinOp} {t:TypeId} {k:IntKind} {x y:Int} {xo yo:Operand} (hx:(Lit.int k x).wf=true) (hn:(match op with | .shl=>False | .shr=>False | op=>(ZMs op k x y).1)) :
 ∃ u,(do eqGuard op t xo yo (.int k x) (.int k y); binOp op t (.int k x) (.int k y):Sem Value).run P W=.ok u W∧Zbo X W E M (ZMs op k x y).2 u:=by
 have hg:(eqGuard op t xo yo (.int k x) (.int k y)).run P W=.ok () W:=by
  exact ZkT
 simp only [Sem.run_bind,hg,Result.andThen_ok]
 cases op <;> simp only [ZMs] at hn ⊢ <;> try exact hn.elim
 case add=>exact ⟨_,by simp [binOp,Op.intArith],rfl,wf_wrap _ _⟩
 case sub=>exact ⟨_,by simp [binOp,Op.intArith],rfl,wf_wrap _ _⟩
 case mul=>exact ⟨_,by simp [binOp,Op.intArith],rfl,wf_wrap _ _⟩
 case quo=>exact ⟨_,by simp [binOp,Op.intDiv,hn],rfl,wf_wrap _ _⟩
 case rem=>exact ⟨_,by simp [binOp,Op.intDiv,hn],rfl,ZJb hx⟩
 case and=>exact ⟨_,by simp only [binOp,Op.intBits,ne_eq,not_true,if_false,Sem.run_pure],rfl,wf_wrap _ _⟩
 case or=>exact ⟨_,by simp only [binOp,Op.intBits,ne_eq,not_true,if_false,Sem.run_pure],rfl,wf_wrap _ _⟩
 case xor=>exact ⟨_,by simp only [binOp,Op.intBits,ne_eq,not_true,if_false,Sem.run_pure],rfl,wf_wrap _ _⟩
 case andNot=>exact ⟨_,by simp only [binOp,Op.intBits,ne_eq,not_true,if_false,Sem.run_pure],rfl,wf_wrap _ _⟩
 all_goals exact ⟨_,by simp [binOp,Op.intCmp],rfl⟩
theorem ZFV {op:BinOp} {t:TypeId} {x y:ByteArray} {xo yo:Operand} (hn:(ZMt op x y).1) :
 ∃ u,(do eqGuard op t xo yo (.string x) (.string y); binOp op t (.string x) (.string y):Sem Value).run P W=.ok u W∧Zbo X W E M (ZMt op x y).2 u:=by
 have hg:(eqGuard op t xo yo (.string x) (.string y)).run P W=.ok () W:=by
  exact ZkT
 have he:(x.toList == y.toList)=decide (x=y):=by
  exact Zvh
 simp only [Sem.run_bind,hg,Result.andThen_ok]
 cases op <;> simp only [ZMt] at hn ⊢ <;> try exact hn.elim
 case add =>
  refine ⟨.string (x ++ y),?_,rfl,by simpa using hn⟩
  have:¬ ((x.size + y.size:Nat):Int) > IntKind.i64.max:=by
   have:IntKind.i64.max=((maxLen:Nat):Int):=by decide
   rw [this]
   omega
  simp only [binOp,Op.stringOp,this,if_false,Sem.run_pure]
 all_goals exact ⟨_,by simp [binOp,Op.stringOp,he],rfl⟩
theorem Ztu {xs:Array Value} {t:TypeId} {n:Nat} {v:Value} {d:TypeDesc} (hu:P.underlying t=some d) (hd:Zzy d=false) (hv:xs[n]?=some v):(part t xs n).run P W=.ok v W:=by
 have hagg:(isAgg t).run P W=.ok false W:=by
  exact ZoW
 unfold part
 simp only [Sem.run_bind,hagg,Result.andThen_ok,Bool.false_eq_true,if_false,hv,Sem.run_pure]
theorem ZFW {d:Nat} {t:TypeId} {x y:AC} {u v:Value} (h:ZDm P t x y=true) (hx:Zbo X W E M x u) (hy:Zbo X W E M y v) :
 ∃ b:Bool,(Op.equalIn (d + 1) t u v).run P W=.ok b W∧(∀ l k,ZbM (x :: l) (y :: k)=(b && ZbM l k))∧∃ td,P.underlying t=some td∧Zzy td=false:=by
 unfold ZDm at h
 split at h
 ·rename_i k0 k p k' q hu
  obtain rfl:k=k':=by simpa using h
  obtain ⟨rfl,_⟩:=hx
  obtain ⟨rfl,_⟩:=hy
  exact ⟨p == q,run_equalIn_int W d t k k0 p q hu,fun l k=>rfl,_,hu,rfl⟩
 ·rename_i p q hu
  obtain rfl:u=.bool p:=hx
  obtain rfl:v=.bool q:=hy
  exact ⟨p == q,run_equalIn_bool' W d t p q hu,fun l k=>rfl,_,hu,rfl⟩
 ·rename_i p q hu
  obtain ⟨rfl,_⟩:=hx
  obtain ⟨rfl,_⟩:=hy
  refine ⟨p.toList == q.toList,run_equalIn_string W d t p q hu,fun l k=>?_,_,hu,rfl⟩
  have he:(p.toList == q.toList)=decide (p=q):=by
   exact Zvh
  rw [he]
  rfl
 ·cases h
theorem ZDs {d:Nat} {xs ys:Array Value}:∀ {fs:List Field} {n:Nat} {l k:List AC},Zdn P fs n l k=true →
 (∀ j c,l[j]?=some c→∃ v,xs[n + j]?=some v∧Zbo X W E M c v)→(∀ j c,k[j]?=some c→∃ v,ys[n + j]?=some v∧Zbo X W E M c v) →
 (Op.eqFields (d + 1) xs ys fs).run P W=.ok (ZbM l k) W
 | [],_,[],[],_,_,_=>rfl
 | [],_,_ :: _,_,h,_,_=>by simp [Zdn] at h
 | [],_,[],_ :: _,h,_,_=>by simp [Zdn] at h
 | _ :: _,_,[],_,h,_,_=>by simp [Zdn] at h
 | _ :: _,_,_ :: _,[],h,_,_=>by simp [Zdn] at h
 | f :: fs,n,x :: l,y :: k,h,hx,hy=>by
  unfold Zdn at h
  rw [Bool.and_eq_true,Bool.and_eq_true,Bool.and_eq_true] at h
  obtain ⟨⟨h1,h2,h3⟩,h4⟩:=h
  have h1:=Nat.eq_of_beq_eq_true h1
  obtain ⟨u,q1,q2⟩:=hx 0 x rfl
  obtain ⟨v,r1,r2⟩:=hy 0 y rfl
  obtain ⟨b,e1,e2,td,e3,e4⟩:=ZFW (d:=d) h3 q2 r2
  have hne : f.name ≠ "_" := by simpa using h2
  have p1:=Ztu (P:=P) (W:=W) (xs:=xs) (n:=n) e3 e4 q1
  have p2:=Ztu (P:=P) (W:=W) (xs:=ys) (n:=n) e3 e4 r1
  have ih:=ZDs (d:=d) (xs:=xs) (ys:=ys) h4 (fun j c hj=>by have:=hx (j + 1) c (by simpa using hj); rwa [show n + (j + 1)=n + 1 + j from by omega] at this) (fun j c hj=>by have:=hy (j + 1) c (by simpa using hj); rwa [show n + (j + 1)=n + 1 + j from by omega] at this)
  unfold Op.eqFields
  simp only [if_pos hne,h1,Sem.run_bind,p1,p2,Result.andThen_ok,e1,Sem.run_ite]
  rw [e2]
  cases b
  ·simp
  ·simpa using ih
theorem ZDt {l:List AC} {cs:List Value} (h:Zbu X W E M l cs):∀ j c,l[j]?=some c→∃ v,cs.toArray[0 + j]?=some v∧Zbo X W E M c v:=fun j c hj=>by
 obtain ⟨v,h1,h2⟩:=h.get hj
 exact ⟨v,by rw [Nat.zero_add,List.getElem?_toArray]; exact h1,h2⟩
theorem ZJc {k k' : IntKind} {p q:Int} {t:TypeId} {xo yo:Operand} (h:0≤q):(do eqGuard .shl t xo yo (.int k p) (.int k' q); binOp .shl t (.int k p) (.int k' q):Sem Value).run P W=.ok (.int k (Zpg k p q)) W:=by
 have h' : ¬ q < 0:=by omega
 simp [eqGuard,binOp,Op.shift,h',Zpg]
theorem ZJd {k k' : IntKind} {p q:Int} {t:TypeId} {xo yo:Operand} (h:0≤q):(do eqGuard .shr t xo yo (.int k p) (.int k' q); binOp .shr t (.int k p) (.int k' q):Sem Value).run P W=.ok (.int k (ZB7 k p q)) W:=by
 have h' : ¬ q < 0:=by omega
 simp [eqGuard,binOp,Op.shift,h',ZB7]
theorem Ztv {a b:Int} (hb:1≤b):(0≤a→0≤a.fdiv b∧a.fdiv b≤a)∧(a < 0→a≤a.fdiv b∧a.fdiv b < 0):=by
 rw [Int.fdiv_eq_ediv_of_nonneg _ (by omega)]
 refine ⟨fun h=>⟨Int.ediv_nonneg h (by omega),Int.ediv_le_self _ h⟩,fun h=>⟨?_,Int.ediv_neg_of_neg_of_pos h (by omega)⟩⟩
 have h1:=Int.emod_add_mul_ediv a b
 have h2:=Int.emod_nonneg a (show b ≠ 0 by omega)
 have h3:a / b < 0:=Int.ediv_neg_of_neg_of_pos h (by omega)
 have h4:b * (a / b)≤1 * (a / b):=Int.mul_le_mul_of_nonpos_right hb (by omega)
 have h5:=Int.emod_lt_of_pos a (show 0 < b by omega)
 have h6:(a + 1:Int)≤(a / b + 1) * b:=by
  rw [Int.add_mul,Int.mul_comm]; omega
 by_cases hlt:a / b < a
 ·have:(a / b + 1) * b≤a * b:=Int.mul_le_mul_of_nonneg_right (by omega) (by omega)
  have:a * b≤a * 1:=by
   have:=Int.mul_le_mul_of_nonpos_left (a:=a) (b:=b) (c:=1) (by omega) hb
   exact this
  omega
 ·omega
theorem ZLE {k:IntKind} {p:Int} (h:(Lit.int k p).wf=true) (q:Int):(Lit.int k (ZB7 k p q)).wf=true:=by
 have hb:(1:Int)≤2 ^ min q.toNat k.bits:=Int.le_of_lt_add_one (by have:=Int.pow_pos (n:=(2:Int)) (m:=min q.toNat k.bits) (by omega); omega)
 have hd:=Ztv (a:=p) hb
 unfold ZB7
 generalize p.fdiv (2 ^ min q.toNat k.bits)=r at hd
 rw [Zl0] at h ⊢
 have h0:k.min≤0∧0≤k.max:=by cases k <;> exact ⟨by decide,by decide⟩
 by_cases hp:0≤p
 ·have:=hd.1 hp; omega
 ·have:=hd.2 (by omega); omega
theorem ZFX {op:BinOp} {t:TypeId} {x y:AV} {u v:Value} {xo yo:Operand} (hx:Zcd X W E M x u) (hy:Zcd X W E M y v) (hn:(ZJU P op t x y).1) :
 ∃ r,(do eqGuard op t xo yo u v; binOp op t u v:Sem Value).run P W=.ok r W∧Zbo X W E M (ZJU P op t x y).2 r:=by
 unfold ZJU at hn ⊢
 split at hn
 ·rename_i k p k' q
  obtain ⟨rfl,hwx⟩:=ZdS hx
  obtain ⟨rfl,hwy⟩:=ZdS hy
  split at hn
  ·exact ⟨_,ZJc hn,rfl,wf_wrap _ _⟩
  ·exact ⟨_,ZJd hn,rfl,ZLE hwx _⟩
  ·rename_i o1 o2
   split at hn
   ·rename_i hk
    subst hk
    have h2:=ZFU (X:=X) (P:=P) (W:=W) (E:=E) (M:=M) (op:=op) (t:=t) (xo:=xo) (yo:=yo) (k:=k) (x:=p) (y:=q) hwx (by cases op <;> first | exact hn | exact absurd rfl o1 | exact absurd rfl o2)
    cases op <;> first | exact absurd rfl o1 | exact absurd rfl o2 | (simp only [if_true]; exact h2)
   ·exact hn.elim
 ·rename_i p q
  obtain ⟨rfl,_⟩:=Zqv hx
  obtain ⟨rfl,_⟩:=Zqv hy
  exact ZFV hn
 ·rename_i p q
  obtain rfl:=Zsc hx
  obtain rfl:=Zsc hy
  have hg:∀ op,(eqGuard op t xo yo (.bool p) (.bool q)).run P W=.ok () W:=fun op=>by
   exact ZkT
  simp only [Sem.run_bind,hg,Result.andThen_ok]
  cases op <;> simp only at hn ⊢ <;> try exact hn.elim
  ·exact ZvV
  ·exact ZvV
 ·rename_i l k
  obtain ⟨cs,rfl,hl⟩:=(hx:∃ cs,u=.agg cs.toArray∧Zbu X W E M l cs)
  obtain ⟨ds,rfl,hk⟩:=(hy:∃ cs,v=.agg cs.toArray∧Zbu X W E M k cs)
  have key:Zzz P t l k=true→P.eqGuardType P.depth t=false∧(Op.equalIn 10000 t (.agg cs.toArray) (.agg ds.toArray)).run P W=.ok (ZbM l k) W:=fun h=>by
   unfold Zzz at h
   split at h
   ·rename_i fs hu
    rw [Bool.and_eq_true,Bool.and_eq_true] at h
    have hf:P.fieldsOf t=fs:=by unfold Program.fieldsOf; rw [hu]
    refine ⟨by simpa using h.2.2,?_⟩
    rw [run_equalIn_struct W 9999 t cs.toArray ds.toArray (by rw [hf]; exact hu) (by simpa using h.2.1),hf]
    exact ZDs (d:=9998) h.1 (ZDt hl) (ZDt hk)
   ·cases h
  cases op <;> simp only at hn ⊢ <;> try exact hn.elim
  ·obtain ⟨k1,k2⟩:=key hn
   exact ⟨.bool (ZbM l k),by simp only [Sem.run_bind,run_eqGuard_agg W _ t xo yo _ _ k1,Result.andThen_ok,run_eql_struct,k2],rfl⟩
  ·obtain ⟨k1,k2⟩:=key hn
   exact ⟨.bool (!ZbM l k),by simp only [Sem.run_bind,run_eqGuard_agg W _ t xo yo _ _ k1,Result.andThen_ok,run_neq_struct,k2],rfl⟩
 ·exact hn.elim
theorem ZFY {op:BinOp} {t yt:TypeId} {x y:Operand} (hM:RepM X W E M) (ht:Zbv X W E M tm a.tmps.toList) (ho:o.op=.binOp op t x y yt) (hn:(ZJU P op t (evalA tm x) (evalA tm y)).1) :
 Zdv X P o a W E M (.c (ZJU P op t (evalA tm x) (evalA tm y)).2) M:=by
 obtain ⟨r,h1,h2⟩:=ZFX (xo:=x) (yo:=y) (Zam ht x) (Zam ht y) hn
 exact ZbE hM _ (by unfold execOp; rw [ho]) h1 h2
theorem does_load_box {t:TypeId} {x:Operand} {i q:Nat} {l:List AC} {v:AV} (hM:RepM X W E M) (ht:Zbv X W E M tm a.tmps.toList) (ho:o.op=.load t x) (hx:evalA tm x=.w (.c (.bp i q)))
 (hb:M[i]?=some (.box l)) (h:Zf0 P t l q=some v):Zdv X P o a W E M v M:=by
 have hp:=Zam ht x
 rw [hx] at hp
 obtain ⟨e,he,hv⟩:=(hp:Zhi E i _ q)
 obtain ⟨_,cs,T,hg,hl⟩:=hM.at_ i _ e hb he
 obtain ⟨u,h1,h2⟩:=ZzC (P:=P) hg hl h
 exact Zvx
theorem ZJe {L:Lnd} {t:Ty} {xs:List t.den} {k q:Nat} {v:Value} (hL:Zdu M L=true) (h:Zcd X W E M (.w (.c (.ep L t xs k q))) v):∃ b off cs G,v=.pointer (some ⟨b,off + k * t.n + q,none⟩)∧rep W (nth t xs k) cs G∧ZnK X W E M L G∧ZcB W b (off + k * t.n) cs:=by
 obtain ⟨_,h⟩:=(h:Zbo X W E M (.ep L t xs k q) v)
 obtain ⟨F,⟨b,off,G,rfl,e,hk,hr⟩,hf⟩:=Zf9 hL h
 have hx:=List.getElem?_eq_getElem hk
 obtain ⟨cs,Gk,h1,h2,h3⟩:=hr.get k _ hx
 have hn:nth t xs k=xs[k]:=by unfold nth; rw [List.getD_eq_getElem?_getD,hx]; rfl
 refine ⟨b,off,cs,Gk,e,by rw [hn]; exact h1,hf.sub (fun g hg=>by simp [h2 g hg]),?_⟩
 rw [Ty.n_eq] at h3
 exact h3
theorem does_load_ep {t:TypeId} {x:Operand} {L:Lnd} {t' : Ty} {xs:List t'.den} {k q:Nat} {v:AV} (hM:RepM X W E M) (ht:Zbv X W E M tm a.tmps.toList) (ho:o.op=.load t x) (hx:evalA tm x=.w (.c (.ep L t' xs k q))) (hL:Zdu M L=true)
 (h:Zf0 P t (ZeM L t' (nth t' xs k)) q=some v):Zdv X P o a W E M v M:=by
 have hp:=Zam ht x
 rw [hx] at hp
 obtain ⟨b,off,cs,G,hv,hr,hf,hc⟩:=ZJe hL hp
 obtain ⟨u,h1,h2⟩:=Zls (P:=P) hc (ZcR (M:=M) t' hr hf) h
 exact Zvx
theorem Zco {i v:Nat} {r:ZfD} (h:Zcn M i v=some r):M[i]?=some (.row r.t r.xs v r.c none):=by
 unfold Zcn at h
 split at h
 ·rename_i t xs cv cc hM
  cases hb:Nat.beq v cv with
  | false=>rw [hb] at h; cases h
  | true =>
   rw [hb] at h
   obtain rfl:=Option.some.inj h
   have e:=Nat.eq_of_beq_eq_true hb
   subst e
   exact hM
 ·cases h
theorem ZzD {i v:Nat} {r:ZfD} {e:EB} {F:List Nat} (h:Zcn M i v=some r) (he:E[i]?=some e) (hF:∀ b ∈ F,b ∈ e.foot):ZnK X W E M (.at i v r.c) F:=⟨r.t,r.xs,e,Zco h,he,hF⟩
theorem Zga (hM:RepM X W E M) {i v:Nat} {r:ZfD} {Q:EB→Prop} (h:Zcn M i v=some r) (hr:ZbL E M i v Q):∃ e,E[i]?=some e∧Q e∧Zc3 W (Zbd W r.t) r.t.n r.xs e.val e.foot:=by
 have hm:=Zco h
 unfold ZbL at hr
 rw [hm] at hr
 obtain ⟨e,h1,h2⟩:=hr.2 rfl
 exact ⟨e,h1,h2,hM.at_ i _ e hm h1⟩
theorem Zck {t:Ty} {xs:List t.den} {v:Value} {F:List Nat} (h:Zc3 W (Zbd W t) t.n xs v F):∃ A c,v=.slice A xs.length c:=by
 obtain ⟨T,cells,G,h,_⟩:=h
 exact ZvI
theorem Zsd {t:Ty} {xs:List t.den} {b l c k:Nat} {F:List Nat} (h:Zc3 W (Zbd W t) t.n xs (.slice (some ⟨b,0,none⟩) l c) F) (hk:k < xs.length) :
 ∃ cs G,Zbd W t (nth t xs k) cs G∧(∀ g ∈ G,g ∈ F)∧ZcB W b (k * t.n) cs:=by
 obtain ⟨T,cells,G,h1,h2,rfl⟩:=h
 have hl:xs.length=l:=by
  obtain ⟨A,c',e⟩:=Zck ⟨T,cells,G,h1,h2,rfl⟩
  injection e with _ e _
  exact e.symm
 subst hl
 obtain ⟨cur,q1,q2,_⟩:=ZdD h1
 have hx:=List.getElem?_eq_getElem hk
 have hn:nth t xs k=xs[k]:=by unfold nth; rw [List.getD_eq_getElem?_getD,hx]; rfl
 obtain ⟨c0,c1,c2,G0,G1,G2,e1,e2,e3,_,r1,_⟩:=h2.split (fun x cs F h=>Zbd.len t h) k hx
 refine ⟨c1,G1,by rw [hn]; exact r1,fun g hg=>by simp [e2,hg],fun j v hj=>?_⟩
 have hca:=ZfC (W:=W) (b:=b) (m:=xs.length * t.n) q1
 rw [q2] at hca
 have hj1:=(List.getElem?_eq_some_iff.1 hj).1
 have:=hca (c0.length + j) v (by rw [e1,List.append_assoc,List.getElem?_append_right (by omega),Nat.add_sub_cancel_left,List.getElem?_append_left hj1]; exact hj)
 rw [e3,Nat.zero_add] at this
 exact this
theorem Zlt:∀ (t:Ty) {x:t.den} {cs:List Value} {F:List Nat} {o:Nat} {r:ZfD},Zbd W t x cs F→ZbC t x o=some r→∃ u F1,cs[o]?=some u∧Zc3 W (Zbd W r.t) r.t.n r.xs u F1∧∀ b ∈ F1,b ∈ F
 | .int _,_,_,_,_,_,_,h=>by cases h
 | .bool,_,_,_,_,_,_,h=>by cases h
 | .str,_,_,_,_,_,_,h=>by cases h
 | .opq,_,_,_,_,_,_,h=>by cases h
 | .list a,xs,cs,F,o,r,⟨v,e,hl⟩,h=>by
  unfold ZbC at h
  cases ho:Nat.beq o 0 with
  | false=>rw [ho] at h; cases h
  | true =>
   rw [ho] at h
   obtain rfl:=Option.some.inj h
   obtain rfl:=Nat.eq_of_beq_eq_true ho
   exact ⟨v,F,by rw [e]; rfl,hl,fun b hb=>hb⟩
 | .prod a b,x,cs,F,o,r,⟨c1,c2,F1,F2,h1,h2,e1,e2⟩,h=>by
  unfold ZbC at h
  have hl:=Zbd.len a h1
  cases ho:Nat.blt o a.n with
  | true =>
   rw [ho] at h
   simp only [cond_true] at h
   have hlt:o < a.n:=Nat.le_of_ble_eq_true ho
   obtain ⟨u,G,q1,q2,q3⟩:=Zlt a h1 h
   exact ⟨u,G,by rw [e1,List.getElem?_append_left (by omega)]; exact q1,q2,fun b hb=>by rw [e2]; simp [q3 b hb]⟩
  | false =>
   rw [ho] at h
   simp only [cond_false] at h
   have hge:a.n≤o:=Nat.le_of_not_lt (fun hlt=>by
    have:Nat.blt o a.n=true:=Nat.ble_eq_true_of_le hlt
    rw [ho] at this; cases this)
   obtain ⟨u,G,q1,q2,q3⟩:=Zlt b h2 h
   exact ⟨u,G,by rw [e1,List.getElem?_append_right (by omega),hl]; exact q1,q2,fun b hb=>by rw [e2]; simp [q3 b hb]⟩
theorem Zym {i v c n k o:Nat} {r:ZfD} (h:Zb7 M i v c n k o=some r):∃ (t:Ty) (xs:List t.den),M[i]?=some (.row t xs v c none)∧n=t.n∧ZbC t (nth t xs k) o=some r:=by
 unfold Zb7 at h
 split at h
 ·rename_i t xs cv cc hM
  cases hb:(Nat.beq v cv && Nat.beq c cc) && Nat.beq n t.n with
  | false=>rw [hb] at h; cases h
  | true =>
   rw [hb] at h
   rw [Bool.and_eq_true,Bool.and_eq_true] at hb
   obtain ⟨⟨h1,h2⟩,h3⟩:=hb
   obtain rfl:=Nat.eq_of_beq_eq_true h1
   obtain rfl:=Nat.eq_of_beq_eq_true h2
   exact ⟨t,xs,hM,Nat.eq_of_beq_eq_true h3,h⟩
 ·cases h
theorem ZFZ (hM:RepM X W E M) {i v c n k o:Nat} {r:ZfD} {u:Value} (h:Zb7 M i v c n k o=some r) (hr:Zlr W E M i v c n k o u) :
 ∃ (t:Ty) (xs:List t.den) (e:EB) (b cap:Nat) (F1:List Nat),M[i]?=some (.row t xs v c none)∧E[i]?=some e∧n=t.n∧ZbC t (nth t xs k) o=some r∧k < xs.length∧e.val=.slice (some ⟨b,0,none⟩) xs.length cap ∧
   W.cell? ⟨b,k * n + o,none⟩=some u∧Zc3 W (Zbd W r.t) r.t.n r.xs u F1∧∀ q ∈ F1,q ∈ e.foot:=by
 obtain ⟨t,xs,hm,hn,hl⟩:=Zym h
 obtain ⟨b,h1,h2⟩:=hr
 unfold ZbL at h1
 rw [hm] at h1
 obtain ⟨e,he,l,cap,hev,hk⟩:=h1.2 rfl
 unfold Zc4 at h2
 rw [hm] at h2
 obtain ⟨e',F,he',⟨rfl,hc⟩,_⟩:=(h2.2 rfl).2 rfl
 have hol:Zc3 W (Zbd W t) t.n xs e.val e.foot:=hM.at_ i _ e hm he
 rw [hev] at hol
 obtain ⟨A,c',hsl⟩:=Zck hol
 injection hsl with _ hll _
 subst hll
 obtain ⟨cs,G,g1,g2,g3⟩:=Zsd (k:=k) hol hk
 obtain ⟨u',F1,k1,k2,k3⟩:=Zlt t g1 hl
 have hcu:=(g3 o u' k1).1
 rw [← hn,hc] at hcu
 obtain rfl:=Option.some.inj hcu
 exact ⟨t,xs,e,b,cap,F1,hm,he,hn,hl,hk,hev,hc,k2,fun q hq=>g2 q (k3 q hq)⟩
theorem ZzE (hM:RepM X W E M) {i v:Nat} {r:ZfD} {Q:EB→Prop} (h:ZiC M i v=some r) (hr:ZbL E M i v Q):∃ e hh,M[i]?=some (.row r.t r.xs v r.c hh)∧E[i]?=some e∧Q e∧∃ A c,e.val=.slice A r.xs.length c:=by
 unfold ZiC at h
 split at h
 ·rename_i t xs cv cc hh hm
  cases hb:Nat.beq v cv with
  | false=>rw [hb] at h; cases h
  | true =>
   rw [hb] at h
   obtain rfl:=Option.some.inj h
   obtain rfl:=Nat.eq_of_beq_eq_true hb
   unfold ZbL at hr
   rw [hm] at hr
   obtain ⟨e,h1,h2⟩:=hr.2 rfl
   refine ⟨e,hh,hm,h1,h2,?_⟩
   have hR:=hM.at_ i _ e hm h1
   cases hh with
   | none=>exact Zck (show Zc3 W (Zbd W t) t.n xs e.val e.foot from hR)
   | some p =>
    obtain ⟨k,o,j⟩:=p
    obtain ⟨b,l,cap,r,_,_,_,h4,_⟩:=hR
    have:=Zck h4
    rwa [List.length_set] at this
 ·cases h
theorem Zje (hM:RepM X W E M) {i:Nat} {e:EB} (he:E[i]?=some e):e.foot.Nodup:=by
 have h:=hM.nodup
 have:∀ {E:Env} {i:Nat} {e:EB},(foots E).Nodup→E[i]?=some e→e.foot.Nodup:=by
  intro E
  induction E with
  | nil=>intro i e _ h; simp at h
  | cons e' E ih =>
   intro i e hn h
   have hn:(e'.foot ++ foots E).Nodup:=hn
   cases i with
   | zero =>
    obtain rfl:e'=e:=by simpa using h
    exact (List.nodup_append.1 hn).1
   | succ i=>exact ih (List.nodup_append.1 hn).2.1 (by simpa using h)
 exact this h he
theorem ZbL.imp {Q Q' : EB→Prop} {i v:Nat} (h:ZbL E M i v Q) (hq:∀ e,Q e→Q' e):ZbL E M i v Q':=by
 unfold ZbL at h ⊢
 split at h
 ·exact ⟨h.1,fun he=>by obtain ⟨e,h1,h2⟩:=h.2 he; exact ⟨e,h1,hq e h2⟩⟩
 ·trivial
 ·exact h.elim
theorem Ztw {t:TypeId} {x:Operand} {i v n k q:Nat} {r:ZfD} {u:AV} (hM:RepM X W E M) (ht:Zbv X W E M tm a.tmps.toList) (ho:o.op=.load t x) (hx:evalA tm x=.w (.c (.rp i v n k q))) (hr:Zcn M i v=some r) (hn:n=r.t.n)
 (h:Zf0 P t (ZeM (.at i v r.c) r.t (nth r.t r.xs k)) q=some u):Zdv X P o a W E M (slV u i v r.c n k q) M:=by
 have hp:=Zam ht x
 rw [hx] at hp
 obtain ⟨_,hp⟩:=(hp:Zbo X W E M (.rp i v n k q) _)
 obtain ⟨e,he,⟨b,l,c,hev,hk,hv⟩,hol⟩:=Zga hM hr hp
 rw [hev] at hol
 obtain ⟨A,c',hsl⟩:=Zck hol
 injection hsl with _ hl _
 obtain ⟨cs,G,h1,h2,h3⟩:=Zsd (k:=k) hol (by omega)
 obtain ⟨G',r1,r2⟩:=Zbd.rep r.t h1
 obtain ⟨w,g1,g2⟩:=Zls (P:=P) (X:=X) h3 (ZcR (M:=M) r.t r1 (ZzD hr he (fun g hg=>h2 g (r2 g hg)))) h
 subst hn
 refine ZbE hM (Instr.loadAt t (a.eval x)) (by unfold execOp; rw [ho]) (by rw [hv]; simpa [Instr.loadAt,Instr.sureAddr] using g1) ?_
 have sl:∀ (p:Nat) (w:Value),w.oneCell'=true→W.cell? ⟨b,k * r.t.n + p,none⟩=some w→Zbo X W E M (.sl i v r.c r.t.n k p) w:=fun p w hw hcell=>by
  refine ⟨hw,b,?_,?_⟩
  ·unfold ZbL
   rw [Zco hr]
   exact ⟨Nat.le_refl _,fun _=>⟨e,he,l,c,hev,hk⟩⟩
  ·unfold Zc4
   rw [Zco hr]
   refine ⟨Nat.le_refl _,fun _=>⟨Nat.le_refl _,fun _=>⟨e,[b],he,⟨rfl,hcell⟩,fun z hz=>?_⟩⟩⟩
   obtain rfl:=List.mem_singleton.1 hz
   have hol' : Zc3 W (Zbd W r.t) r.t.n r.xs e.val e.foot:=hM.at_ i _ e (Zco hr) he
   obtain ⟨_,_,G',_,_,h6⟩:=hol'
   rw [h6,hev]
   simp [Value.ownBlock]
 have hcl:cs.length=(ZeM (.at i v r.c) r.t (nth r.t r.xs k)).length:=by rw [Zbd.len r.t h1]; exact (Zlp r.t _).symm
 unfold slV
 split
 ·exact sl q w g2.1 (ZBk (P:=P) (W:=W) (g:=b) (q:=k * r.t.n) h3 hcl h g1)
 ·rename_i l'
  obtain ⟨ws,hw,_,hcell⟩:=Zyk (P:=P) (W:=W) (g:=b) (q:=k * r.t.n) h3 hcl h g1
  obtain ⟨ws',hw',hrl⟩:=(g2:∃ cs,w=.agg cs.toArray∧Zbu X W E M l' cs)
  rw [hw] at hw'
  obtain rfl:ws=ws':=by
   have:=congrArg Value.cells hw'
   simpa [Value.cells] using this
  refine ⟨ws,hw,?_⟩
  have:∀ (l' : List AC) (ws:List Value) (p:Nat),Zbu X W E M l' ws→(∀ j v,ws[j]?=some v→W.cell? ⟨b,k * r.t.n + (p + j),none⟩=some v)→Zbu X W E M (slL i v r.c r.t.n k p l') ws:=by
   intro l'
   induction l' with
   | nil=>intro ws p h _; exact h
   | cons c0 l0 ih =>
    intro ws p ⟨v0,r0,e0,h0,h00⟩ hc
    have ht:=ih r0 (p + 1) h00 (fun j v hj=>by
     have:=hc (j + 1) v (by rw [e0]; simpa using hj)
     rwa [show p + (j + 1)=p + 1 + j by omega] at this)
    have h1:=hc 0 v0 (by rw [e0]; rfl)
    cases c0 with
    | hs L t xs=>exact ⟨v0,r0,e0,sl p v0 h0.1 h1,ht⟩
    | _=>exact ⟨v0,r0,e0,h0,ht⟩
  exact this l' ws q hrl (fun j v hj=>hcell j v hj)
 ·exact g2
theorem Ztx {t:TypeId} {x:Operand} {i v c n k o' m y q:Nat} {r:ZfD} {u:AV} (hM:RepM X W E M) (ht:Zbv X W E M tm a.tmps.toList) (ho:o.op=.load t x) (hx:evalA tm x=.w (.c (.sp i v c n k o' m y q))) (hr:Zb7 M i v c n k o'=some r) (hn:m=r.t.n)
 (h:Zf0 P t (ZeM (.at i v c) r.t (nth r.t r.xs y)) q=some u):Zdv X P o a W E M u M:=by
 have hp:=Zam ht x
 rw [hx] at hp
 obtain ⟨_,b2,l2,cap2,hin,hy,hv⟩:=(hp:Zbo X W E M (.sp i v c n k o' m y q) _)
 obtain ⟨tt,xs,e,b,cap,F1,k1,k2,k3,k4,k5,k6,k7,k8,k9⟩:=ZFZ hM hr hin
 obtain ⟨A,c',hsl⟩:=Zck k8
 injection hsl with _ hl _
 obtain ⟨cs,G,h1,h2,h3⟩:=Zsd (k:=y) k8 (by omega)
 obtain ⟨G',r1,r2⟩:=Zbd.rep r.t h1
 obtain ⟨w,g1,g2⟩:=Zls (P:=P) h3 (ZcR (M:=M) (L:=.at i v c) r.t r1 ⟨tt,xs,e,k1,k2,fun g hg=>k9 g (h2 g (r2 g hg))⟩) h
 subst hn
 exact ZbE hM (Instr.loadAt t (a.eval x)) (by unfold execOp; rw [ho]) (by rw [hv]; simpa [Instr.loadAt,Instr.sureAddr] using g1) g2
theorem ZcD:∀ {E:Env} {i j:Nat} {e e' : EB} {x:Nat},(foots E).Nodup→E[i]?=some e→E[j]?=some e'→i ≠ j→x ∈ e.foot→x ∈ e'.foot→False
 | [],_,_,_,_,_,_,h,_,_,_,_=>by simp at h
 | d :: E,0,0,_,_,_,_,_,_,h,_,_=>h rfl
 | d :: E,0,j + 1,e,e',x,hn,h1,h2,_,h3,h4=>by
  simp at h1 h2
  subst h1
  have hn' : (d.foot ++ foots E).Nodup:=hn
  rw [List.nodup_append] at hn'
  exact hn'.2.2 x h3 x (Zaw.2 ⟨e',List.mem_of_getElem? h2,h4⟩) rfl
 | d :: E,i + 1,0,e,e',x,hn,h1,h2,_,h3,h4=>by
  simp at h1 h2
  subst h2
  have hn' : (d.foot ++ foots E).Nodup:=hn
  rw [List.nodup_append] at hn'
  exact hn'.2.2 x h4 x (Zaw.2 ⟨e,List.mem_of_getElem? h1,h3⟩) rfl
 | d :: E,i + 1,j + 1,e,e',x,hn,h1,h2,hne,h3,h4=>by
  simp at h1 h2
  have hn' : (d.foot ++ foots E).Nodup:=hn
  rw [List.nodup_append] at hn'
  exact ZcD hn'.2.1 h1 h2 (by omega) h3 h4
theorem ZF0 {i q:Nat} {l l' : List AC} {e:EB} {cs:Array Value} {T:TypeId} {us:List Value} (hM:RepM X W E M) (hb:M[i]?=some (.box l)) (he:E[i]?=some e) (hf:e.foot=[e.blk]) (hg:W.heap[e.blk]?=some (.cells cs T (0,0)))
 (hl:Zbu X W E M l cs.toList) (hl' : Zbu X W E M l' us) (hle:q + l'.length≤l.length) :
 Zbb W E (W.setRow e.blk (cs.toList.take q ++ us ++ cs.toList.drop (q + us.length)).toArray) E∧ZaK W E M (W.setRow e.blk (cs.toList.take q ++ us ++ cs.toList.drop (q + us.length)).toArray) E (M.set i (.box (l.take q ++ l' ++ l.drop (q + l'.length)))) ∧
  RepM X (W.setRow e.blk (cs.toList.take q ++ us ++ cs.toList.drop (q + us.length)).toArray) E (M.set i (.box (l.take q ++ l' ++ l.drop (q + l'.length)))):=by
 have hmem:e.blk ∈ foots E:=Zaw.2 ⟨e,List.mem_of_getElem? he,by simp [hf]⟩
 have g:Zbb W E (W.setRow e.blk (cs.toList.take q ++ us ++ cs.toList.drop (q + us.length)).toArray) E :=
  ⟨rfl,rfl,rfl,by simp,fun b hbl hbn=>setRow_other W e.blk b _ (fun e'=>hbn (e' ▸ hmem)),fun b hb=>.inl hb,fun i e h=>⟨e,h,rfl⟩⟩
 have hil:i < M.length:=(List.getElem?_eq_some_iff.1 hb).1
 have m:ZaK W E M (W.setRow e.blk (cs.toList.take q ++ us ++ cs.toList.drop (q + us.length)).toArray) E (M.set i (.box (l.take q ++ l' ++ l.drop (q + l'.length)))):=fun j=>by
  by_cases hj:i=j
  ·subst hj
   rw [hb]
   trivial
  ·rw [List.getElem?_set_ne hj]
   split
   ·rename_i h
    exact .inr ⟨_,_,_,_,h,Nat.le_refl _,fun _ e1 he1=>⟨e1,he1,rfl,Nat.le_refl _,fun _ b hb=>⟨hb,setRow_other W e.blk b _ (fun e2=>by
     subst e2
     exact ZcD hM.nodup he he1 hj (by simp [hf]) hb)⟩⟩⟩
   ·rename_i h
    exact h
   ·trivial
 refine ⟨g,m,by simp [hM.len],hM.nodup,fun j b e' hbj hej=>?_,fun b hb=>by rw [size_setRow]; exact hM.lt b hb,hM.xlt,fun b hb=>by rw [size_setRow]; exact hM.xsz b hb⟩
 by_cases hj:i=j
 ·subst hj
  rw [List.getElem?_set_self hil] at hbj
  obtain rfl:e=e':=by rw [he] at hej; simpa using hej
  obtain rfl:=(Option.some.inj hbj).symm
  refine ⟨hf,_,T,setRow_heap W _ _ _ _ _ hg,?_⟩
  have hlen:=hl'.len
  have h3:Zbu X W E M (l.drop (q + l'.length)) (cs.toList.drop (q + us.length)):=by rw [hlen]; exact hl.drop _
  exact Zbu.mono g m hM.len (((hl.take q).append hl').append h3)
 ·rw [List.getElem?_set_ne hj] at hbj
  refine (hM.at_ j b e' hbj hej).keep g m hM.len (fun x hx=>setRow_other W e.blk x _ (fun e2=>?_))
  subst e2
  exact ZcD hM.nodup he hej hj (by simp [hf]) hx
theorem ZpV {t:TypeId} {x y:Operand} {i q:Nat} {l l' : List AC} (hM:RepM X W E M) (ht:Zbv X W E M tm a.tmps.toList) (ho:o.op=.store t x y) (hx:evalA tm x=.w (.c (.bp i q))) (hy:ZgV (evalA tm y)=some l')
 (hb:M[i]?=some (.box l)) (hs:l'.length=Zbg P t) (hpos:0 < Zbg P t) (hle:q + l'.length≤l.length):Zdv X P o a W E M .any (M.set i (.box (l.take q ++ l' ++ l.drop (q + l'.length)))):=by
 have hp:=Zam ht x
 rw [hx] at hp
 obtain ⟨e,he,hv⟩:=(hp:Zhi E i _ q)
 obtain ⟨hf,cs,T,hg,hl⟩:=hM.at_ i _ e hb he
 have hl':=Zea (Zam ht y) hy
 have hlen:=hl.len
 have hlen':=hl'.len
 obtain ⟨g,m,r⟩:=ZF0 hM hb he hf hg hl hl' hle
 obtain ⟨inf,hi⟩:∃ i,P.info? t=some i:=by
  unfold Zbg at hpos
  cases hq:P.info? t with
  | none=>rw [hq] at hpos; exact absurd hpos (Nat.lt_irrefl 0)
  | some i=>exact ⟨i,rfl⟩
 have hsz:Zbg P t=inf.size:=by unfold Zbg; rw [hi]
 have hst:=run_storeCells_at (P:=P) e.blk q T (a.eval y).cells.toList 0 cs W hg (by simp at hlen hlen' ⊢; omega) (fun v hv=>by
  have:=hl'.all
  exact List.all_eq_true.1 this v hv)
 refine ⟨undef,_,E, .inr ⟨?_,rfl⟩,g,m,r,trivial⟩
 unfold execOp
 simp only [ho,hv,Instr.storeAt,Instr.sureAddr,storeVar,sizeOf,typeInfo,Sem.run_bind,Sem.run_pure,Result.andThen_ok,run_program,hi,Sem.run_ite]
 rw [if_neg (by simp at hlen'; omega)]
 rw [hst]
 rfl
end
def ZDu (X:List Nat) (W:World) (E:Env) (M:Mem):Option AV→Option Value→Prop
 | none,none=>True
 | some x,some u=>Zcd X W E M x u
 | _,_=>False
section
variable {P:Program} {X:List Nat} {W:World} {E:Env} {M:Mem} {a:Act} {tm:List AV} {o:Oper}
theorem does_box {e:TypeId} {x:Operand} {l:List AC} (hM:RepM X W E M) (ht:Zbv X W E M tm a.tmps.toList) (ho:o.op=.box e x) (hx:ZgV (evalA tm x)=some l):Zdv X P o a W E M (.c (.bp M.length 0)) (M ++ [.box l]):=by
 obtain ⟨g,m,r,v⟩:=ZzB hM (a.eval x).cells e l (Zea (Zam ht x) hx)
 refine ⟨_,_,_, .inl ?_,g,m,r,v⟩
 unfold execOp
 simp only [ho,Instr.box,newVar,newRow,Sem.run_bind,run_newObj,Result.andThen_ok,Sem.run_pure,World.alloc_eq]
theorem ZBl {e:TypeId} {i:TypeInfo} {z:Value} (hM:RepM X W E M) (ho:o.op=.alloc e) (hi:P.info? e=some i) (hz:i.zero=some z) (hok:z.cells.toList.all Zhw=true):Zdv X P o a W E M (.c (.bp M.length 0)) (M ++ [.box (z.cells.toList.map ZDl)]):=by
 obtain ⟨g,m,r,v⟩:=ZzB hM z.cells e (z.cells.toList.map ZDl) (Zii hok)
 refine ⟨_,_,_, .inl ?_,g,m,r,v⟩
 unfold execOp
 simp only [ho,Instr.alloc,zeroValue,typeInfo,newVar,newRow,Sem.run_bind,run_program,run_newObj,Result.andThen_ok,Sem.run_pure,World.alloc_eq,hi,hz]
def ZF1 (M:Mem):AC→Prop
 | .bp _ _=>True
 | .ep L _ _ _ _=>Zdu M L=true
 | .rp i v _ _ _=>(ZiC M i v).isSome=true
 | .sp i v c n k o _ _ _=>(Zb7 M i v c n k o).isSome=true
 | _=>False
theorem ZLF (hM:RepM X W E M) {i v n k q:Nat} {u:Value} (hl:(ZiC M i v).isSome=true) (h:Zbo X W E M (.rp i v n k q) u):∃ b,u=.pointer (some ⟨b,k * n + q,none⟩) ∧
 ∀ (q' : Nat),Zbo X W E M (.rp i v n k q') (.pointer (some ⟨b,k * n + q',none⟩)):=by
 obtain ⟨r,hr⟩:=Option.isSome_iff_exists.1 hl
 obtain ⟨_,h⟩:=h
 obtain ⟨e,hh,hm,he,⟨b,l,c,hev,hk,hv⟩,_⟩:=ZzE hM hr h
 refine ⟨b,hv,fun q'=>⟨rfl,?_⟩⟩
 unfold ZbL
 rw [hm]
 exact ⟨Nat.le_refl _,fun _=>⟨e,he,b,l,c,hev,hk,rfl⟩⟩
theorem ZLG (hM:RepM X W E M) {i v c n k o m x q:Nat} {u:Value} (hl:(Zb7 M i v c n k o).isSome=true) (h:Zbo X W E M (.sp i v c n k o m x q) u):∃ b,u=.pointer (some ⟨b,x * m + q,none⟩) ∧
 ∀ (q' : Nat),Zbo X W E M (.sp i v c n k o m x q') (.pointer (some ⟨b,x * m + q',none⟩)):=by
 obtain ⟨_,b,l,cap,h1,h2,h3⟩:=h
 exact ⟨b,h3,fun q'=>⟨rfl,b,l,cap,h1,h2,rfl⟩⟩
theorem ZDv (hM:RepM X W E M) {c:AC} {v:Value} (hc:ZF1 M c) (h:Zbo X W E M c v):∃ b q,v=.pointer (some ⟨b,q,none⟩):=by
 unfold ZF1 at hc
 split at hc
 ·obtain ⟨e,_,h⟩:=h; exact ⟨_,_,h⟩
 ·obtain ⟨F,⟨b,off,G,_,e,_⟩,_⟩:=Zf9 hc h.2; exact ⟨_,_,e⟩
 ·obtain ⟨b,e,_⟩:=ZLF hM hc h; exact ⟨_,_,e⟩
 ·obtain ⟨b,e,_⟩:=ZLG hM hc h; exact ⟨_,_,e⟩
 ·exact hc.elim
theorem does_nilCheck {x:Operand} {c:AC} (hM:RepM X W E M) (ht:Zbv X W E M tm a.tmps.toList) (ho:o.op=.nilCheck x) (hx:evalA tm x=.c c)
 (hc:ZF1 M c∨∃ f l,c=.fn f l):Zdv X P o a W E M (.c c) M:=by
 have hp:=Zam ht x
 rw [hx] at hp
 have hp' : Zbo X W E M c (a.eval x):=hp
 refine Zdv.stay hM (u:=a.eval x) ?_ hp
 unfold execOp
 try simp only [Zz6]
 simp only [ho]
 rcases hc with hc | ⟨f,l,rfl⟩
 ·obtain ⟨b,q,h⟩:=ZDv hM hc hp'
  rw [h]; rfl
 ·obtain ⟨vs,h,_⟩:=hp'
  rw [h]; rfl
theorem does_not {t:TypeId} {x:Operand} {b:Bool} (hM:RepM X W E M) (ht:Zbv X W E M tm a.tmps.toList) (ho:o.op=.unOp .not t x) (hx:evalA tm x=.w (.c (.bool b))):Zdv X P o a W E M (.c (.bool (!b))) M:=by
 have hp:=Zam ht x
 rw [hx] at hp
 exact ZbE hM (Op.unary .not (a.eval x)) (by unfold execOp; rw [ho]) (u:=.bool (!b)) (by rw [Zsc hp]; rfl) rfl
theorem does_neg {t:TypeId} {x:Operand} {k:IntKind} {n:Int} (hM:RepM X W E M) (ht:Zbv X W E M tm a.tmps.toList) (ho:o.op=.unOp .neg t x) (hx:evalA tm x=.w (.c (.int k n))):Zdv X P o a W E M (.c (.int k (k.wrap (0 - n)))) M:=by
 have hp:=Zam ht x
 rw [hx] at hp
 exact ZbE hM (Op.unary .neg (a.eval x)) (by unfold execOp; rw [ho]) (u:=.int k (k.wrap (0 - n))) (by rw [(ZdS hp).1]; rfl) ⟨rfl,wf_wrap _ _⟩
theorem Zty {s d:TypeId} {x:Operand} {k k' : IntKind} {n:Int} (hM:RepM X W E M) (ht:Zbv X W E M tm a.tmps.toList) (ho:o.op=.convert s d x) (hd:P.underlying d=some (.int k)) (hs:(P.underlying s).isSome=true) (hx:evalA tm x=.w (.c (.int k' n))) :
 Zdv X P o a W E M (.c (.int k (k.wrap n))) M:=by
 have hp:=Zam ht x
 rw [hx] at hp
 obtain ⟨ds,hds⟩:=Option.isSome_iff_exists.1 hs
 refine ZbE hM (convert s d (a.eval x)) (by unfold execOp; rw [ho]) (u:=.int k (k.wrap n)) ?_ ⟨rfl,wf_wrap _ _⟩
 rw [(ZdS hp).1]
 unfold convert
 simp only [Sem.run_bind,run_underlying hds,run_underlying hd,Result.andThen_ok]
 rfl
theorem Zqw:∀ {l:List AV} {is:List Nat} {vs:List Value},ZnM l=some is→Zbv X W E M l vs→Zdm E is vs
 | [],is,vs,h,hr=>by
  obtain rfl:[]=is:=by simpa [ZnM] using h
  exact hr
 | x :: l,is,vs,h,⟨v,r,e,h1,h2⟩=>by
  unfold ZnM at h
  split at h
  ·simp_all
  ·rename_i i l' heq
   injection heq with h3 h4
   subst h3
   subst h4
   cases hq:ZnM l with
   | none=>rw [hq] at h; cases h
   | some js =>
    rw [hq] at h
    obtain rfl:i :: js=is:=by simpa using h
    exact ⟨v,r,e,h1,Zqw hq h2⟩
  ·cases h
theorem ZmP (ht:Zbv X W E M tm a.tmps.toList):∀ (l:List Operand),Zbv X W E M (l.map (evalA tm)) (l.map a.eval)
 | []=>rfl
 | x :: l=>⟨_,_,rfl,Zam ht x,ZmP ht l⟩
theorem does_makeFunc {f:FuncId} {first captured:Array Operand} {l:List Nat} (hM:RepM X W E M) (ht:Zbv X W E M tm a.tmps.toList) (ho:o.op=.makeFunc (.func f) first captured) (hf:first.toList=[]) (hc:ZnM (captured.toList.map (evalA tm))=some l) :
 Zdv X P o a W E M (.c (.fn f l)) M:=by
 have h1:=Zqw hc (ZmP ht captured.toList)
 refine Zdv.stay hM (u:=.func (.func f) #[] (captured.toList.map a.eval).toArray) ?_ ⟨_,rfl,h1⟩
 have hf' : first=#[]:=by simpa using hf
 unfold execOp
 have hc' : captured.map a.eval=(captured.toList.map a.eval).toArray:=by
  rw [← Array.toList_map]
 simp only [ho,Instr.makeFunc,hf',Array.map_empty,Sem.run_bind,Sem.run_pure,Result.andThen_ok,hc']
theorem Zej {s:TypeId} {x:Operand} {n:Nat} {f:Field} {fs:Array Field} {c c' : AC} (hM:RepM X W E M) (ht:Zbv X W E M tm a.tmps.toList) (ho:o.op=.fieldAddr s x n) (hs:P.underlying s=some (.struct fs)) (hf:fs[n]?=some f)
 (hz:Zbg P f.type ≠ 0) (hx:evalA tm x=.c c)
 (hg:ZF1 M c) (hc:match c with | .bp i q=>c'=.bp i (q + f.offset) | .ep L t xs k q=>c'=.ep L t xs k (q + f.offset) | .rp i v n k q=>c'=.rp i v n k (q + f.offset) | .sp i v cc n k o' m x q=>c'=.sp i v cc n k o' m x (q + f.offset) | _=>False):Zdv X P o a W E M (.c c') M:=by
 have hp:=Zam ht x
 rw [hx] at hp
 have hp' : Zbo X W E M c (a.eval x):=hp
 obtain ⟨inf,hi⟩:∃ i,P.info? f.type=some i:=by
  unfold Zbg at hz
  cases hq:P.info? f.type with
  | none=>rw [hq] at hz; exact absurd rfl hz
  | some i=>exact ⟨i,rfl⟩
 have hsz:inf.size ≠ 0:=by unfold Zbg at hz; rw [hi] at hz; exact hz
 have hadd:∀ b q,(⟨b,q,none⟩:Addr).add f.offset=⟨b,q + f.offset,none⟩:=fun b q=>by unfold Addr.add; split <;> simp_all
 have key:∀ b q,(Instr.fieldAt s (.pointer (some ⟨b,q,none⟩)) n).run P W=.ok (.pointer (some ⟨b,q + f.offset,none⟩)) W:=fun b q=>by
  unfold Instr.fieldAt
  simp only [Sem.run_bind,run_underlying hs,Result.andThen_ok,hf,Instr.sureAddr,Sem.run_pure,fieldPlace,sizeOf,typeInfo,run_program,hi,Sem.run_ite]
  rw [if_neg hsz]
  simp only [Sem.run_pure,Result.andThen_ok,hadd]
 cases c <;> simp only at hc
 ·subst hc
  obtain ⟨e,he,h⟩:=hp'
  exact ZbE hM (Instr.fieldAt s (a.eval x) n) (by unfold execOp; rw [ho]) (by rw [h]; exact key _ _) ⟨e,he,rfl⟩
 ·subst hc
  obtain ⟨F,⟨b,off,G,rfl,h,r⟩,hF⟩:=Zf9 hg hp'.2
  exact ZbE hM (Instr.fieldAt s (a.eval x) n) (by unfold execOp; rw [ho]) (by rw [h]; exact key _ _) ⟨rfl,Zj0 hF ⟨b,off,G,rfl,by rw [Nat.add_assoc],r⟩⟩
 ·subst hc
  obtain ⟨b,h,r⟩:=ZLF hM hg hp'
  exact Zvs
 ·subst hc
  obtain ⟨b,h,r⟩:=ZLG hM hg hp'
  exact Zvs
theorem ZgJ (hM:RepM X W E M) {c:AC} {v:Value} {L:Lnd} {q:ZfD} (h:Zfa M c=some (L,q)) (hr:Zbo X W E M c v):∃ A cap F,v=.slice A q.xs.length cap∧ZkY W q.xs A cap F∧ZnK X W E M L F:=by
 unfold Zfa at h
 split at h
 ·rename_i L' t xs
  cases hl:Zdu M L' with
  | false=>rw [hl] at h; cases h
  | true =>
   rw [hl] at h
   obtain ⟨rfl,rfl⟩:=Prod.mk.inj (Option.some.inj h)
   obtain ⟨F,⟨A,c,e,hs⟩,hF⟩:=Zf9 hl hr.2
   exact ⟨A,c,F,by simpa using e,hs,hF⟩
 ·rename_i i ver
  cases hq:Zcn M i ver with
  | none=>rw [hq] at h; cases h
  | some r =>
   rw [hq] at h
   obtain ⟨rfl,rfl⟩:=Prod.mk.inj (Option.some.inj h)
   obtain ⟨e,he,hv,hol⟩:=Zga hM hq hr.2
   obtain ⟨F',⟨A,c,e1,hs⟩,hF⟩:=Zbd.rep (.list r.t) (x:=r.xs) (cs:=[e.val]) ⟨e.val,rfl,hol⟩
   exact ⟨A,c,F',by rw [hv]; simpa using e1,hs,ZzD hq he hF⟩
 ·rename_i i ver c n k o
  cases hq:Zb7 M i ver c n k o with
  | none=>rw [hq] at h; cases h
  | some r =>
   rw [hq] at h
   obtain ⟨rfl,rfl⟩:=Prod.mk.inj (Option.some.inj h)
   obtain ⟨tt,xs,e,b,cap,F1,k1,k2,k3,k4,k5,k6,k7,k8,k9⟩:=ZFZ hM hq hr.2
   obtain ⟨F',⟨A,c,e1,hs⟩,hF⟩:=Zbd.rep (.list r.t) (x:=r.xs) (cs:=[v]) ⟨v,rfl,k8⟩
   exact ⟨A,c,F',by simpa using e1,hs,tt,xs,e,k1,k2,fun z hz=>k9 z (hF z hz)⟩
 ·cases h
theorem Zjf {t e:TypeId} {b off len c m:Nat} {k:IntKind} {n:Int} (hu:P.underlying t=some (.slice e)) (hs:Zbg P e=m) (hm:0 < m) (h0:0≤n) (h1:n < (len:Int)) :
 (Instr.indexAt t (.slice (some ⟨b,off,none⟩) len c) (.int k n)).run P W=.ok (.pointer (some ⟨b,off + n.toNat * m,none⟩)) W:=by
 obtain ⟨inf,hinf⟩:∃ i,P.info? e=some i:=by
  unfold Zbg at hs
  cases hq:P.info? e with
  | none=>rw [hq] at hs; exact absurd hs.symm (by simp; omega)
  | some i=>exact ⟨i,rfl⟩
 have hsz:inf.size=m:=by rw [← hs]; unfold Zbg; rw [hinf]
 unfold Instr.indexAt
 have hadd:(⟨b,off,none⟩:Addr).add (n.toNat * m)=⟨b,off + n.toNat * m,none⟩:=by unfold Addr.add; split <;> simp_all
 simp only [asIntOf,Sem.run_bind,Sem.run_pure,Result.andThen_ok,run_underlying hu,sizeOf,typeInfo,run_program,hinf,Sem.run_ite,hsz,hadd]
 rw [if_pos ⟨h0,h1⟩]
theorem ZgW (t:Ty):0 < t.n:=by rw [← Ty.n_eq]; exact GoRep.pos
theorem ZpW {t e:TypeId} {x i:Operand} {L:Lnd} {t' : Ty} {xs:List t'.den} {k:IntKind} {n:Int} (hM:RepM X W E M) (ht:Zbv X W E M tm a.tmps.toList) (ho:o.op=.indexAddr t x i) (hu:P.underlying t=some (.slice e))
 (hx:evalA tm x=.w (.c (.hs L t' xs))) (hi:evalA tm i=.w (.c (.int k n))) (hL:Zdu M L=true) (hs:Zbg P e=t'.n) (h0:0≤n) (h1:n < (xs.length:Int)):Zdv X P o a W E M (.c (.ep L t' xs n.toNat 0)) M:=by
 have hp:=Zam ht x
 rw [hx] at hp
 have hq:=Zam ht i
 rw [hi] at hq
 obtain ⟨A,c,F,hv,hsr,hF⟩:=ZgJ (c:=.hs L t' xs) (L:=L) (q:=⟨t',xs,0⟩) hM (by show (bif Zdu M L then some (L,(⟨t',xs,0⟩:ZfD)) else none)=_; rw [hL]; rfl) hp
 have hn:n.toNat < xs.length:=by omega
 obtain ⟨_,_,h3⟩:=hsr
 rcases h3 with ⟨h3,_⟩ | ⟨hne,b,off,G,rfl,rfl,hr⟩
 ·have h3:xs=[]:=h3
  rw [h3] at hn
  simp at hn
 ·refine ZbE hM (Instr.indexAt t (a.eval x) (a.eval i)) (by unfold execOp; rw [ho]) (u:=.pointer (some ⟨b,off + n.toNat * t'.n,none⟩)) ?_ ⟨rfl,Zj0 hF ⟨b,off,G,rfl,rfl,hn,hr⟩⟩
  rw [hv,(ZdS hq).1]
  exact Zjf hu hs (ZgW t') h0 h1
theorem Zse {t e:TypeId} {x i:Operand} {j v:Nat} {r:ZfD} {k:IntKind} {n:Int} (hM:RepM X W E M) (ht:Zbv X W E M tm a.tmps.toList) (ho:o.op=.indexAddr t x i) (hu:P.underlying t=some (.slice e))
 (hx:evalA tm x=.w (.c (.row j v))) (hi:evalA tm i=.w (.c (.int k n))) (hr:ZiC M j v=some r) (hs:Zbg P e=r.t.n) (h0:0≤n) (h1:n < (r.xs.length:Int)):Zdv X P o a W E M (.c (.rp j v r.t.n n.toNat 0)) M:=by
 have hp:=Zam ht x
 rw [hx] at hp
 have hq:=Zam ht i
 rw [hi] at hq
 obtain ⟨_,hp⟩:=(hp:Zbo X W E M (.row j v) _)
 obtain ⟨e',hh,hm,he,hv,A,cap,hA⟩:=ZzE hM hr hp
 have hn:n.toNat < r.xs.length:=by omega
 have hol:∃ (W1:World) (ys:List r.t.den),ys.length=r.xs.length∧Zc3 W1 (Zbd W1 r.t) r.t.n ys e'.val e'.foot:=by
  have hR:=hM.at_ j _ e' hm he
  cases hh with
  | none=>exact ⟨W,r.xs,rfl,hR⟩
  | some p=>obtain ⟨k,o,j⟩:=p; obtain ⟨b,l,cap,_,_,_,_,h4,_⟩:=hR; exact ⟨_,_,by rw [List.length_set],h4⟩
 obtain ⟨W1,ys,hyl,T,cells,G,ho1,ho2,ho3⟩:=hol
 rw [hyl] at ho1
 rcases ho1.2 with ⟨q1,q2⟩ | ⟨g,cap,cur,q1,_⟩
 ·omega
 ·refine ZbE hM (Instr.indexAt t (a.eval x) (a.eval i)) (by unfold execOp; rw [ho]) (u:=.pointer (some ⟨g,0 + n.toNat * r.t.n,none⟩)) ?_ ⟨rfl,?_⟩
  ·rw [hv,q1,(ZdS hq).1]
   exact Zjf hu hs (ZgW r.t) h0 h1
  ·unfold ZbL
   rw [hm]
   exact ⟨Nat.le_refl _,fun _=>⟨e',he,g,r.xs.length,cap,q1,hn,by rw [Nat.zero_add]; rfl⟩⟩
theorem Ztz {t e:TypeId} {x i:Operand} {j v c n' k' o' : Nat} {r:ZfD} {k:IntKind} {n:Int} (hM:RepM X W E M) (ht:Zbv X W E M tm a.tmps.toList) (ho:o.op=.indexAddr t x i) (hu:P.underlying t=some (.slice e))
 (hx:evalA tm x=.w (.c (.sl j v c n' k' o'))) (hi:evalA tm i=.w (.c (.int k n))) (hr:Zb7 M j v c n' k' o'=some r) (hs:Zbg P e=r.t.n) (h0:0≤n) (h1:n < (r.xs.length:Int)):Zdv X P o a W E M (.c (.sp j v c n' k' o' r.t.n n.toNat 0)) M:=by
 have hp:=Zam ht x
 rw [hx] at hp
 have hq:=Zam ht i
 rw [hi] at hq
 obtain ⟨_,hin⟩:=(hp:Zbo X W E M (.sl j v c n' k' o') _)
 obtain ⟨tt,xs,e',b,cap,F1,k1,k2,k3,k4,k5,k6,k7,k8,k9⟩:=ZFZ hM hr hin
 have hn:n.toNat < r.xs.length:=by omega
 obtain ⟨T,cells,G,ho1,ho2,ho3⟩:=k8
 rcases ho1.2 with ⟨q1,q2⟩ | ⟨g,cap,cur,q1,_⟩
 ·omega
 ·refine ZbE hM (Instr.indexAt t (a.eval x) (a.eval i)) (by unfold execOp; rw [ho]) (u:=.pointer (some ⟨g,0 + n.toNat * r.t.n,none⟩)) ?_ ⟨rfl,g,r.xs.length,cap,?_,hn,by rw [Nat.zero_add]; rfl⟩
  ·rw [q1,(ZdS hq).1]
   exact Zjf hu hs (ZgW r.t) h0 h1
  ·rw [← q1]; exact hin
theorem ZBm {t:TypeId} {x i:Operand} {s:ByteArray} {k:IntKind} {n:Int} (hM:RepM X W E M) (ht:Zbv X W E M tm a.tmps.toList) (ho:o.op=.index t x i) (hu:P.underlying t=some .string)
 (hx:evalA tm x=.w (.c (.str s))) (hi:evalA tm i=.w (.c (.int k n))) (h0:0≤n) (h1:n < (s.size:Int)):Zdv X P o a W E M (.c (.int .u8 (Zap s n.toNat))) M:=by
 have hp:=Zam ht x
 rw [hx] at hp
 have hq:=Zam ht i
 rw [hi] at hq
 have hn:n.toNat < s.size:=by omega
 have hb:Zap s n.toNat=(s[n.toNat].toNat:Nat):=by
  unfold Zap
  rw [List.getD_eq_getElem?_getD,List.getElem?_eq_getElem (by simpa using hn)]
  rfl
 refine ZbE hM (Instr.index t (a.eval x) (a.eval i)) (by unfold execOp; rw [ho]) (u:=.int .u8 (Zap s n.toNat)) ?_ ⟨rfl,?_⟩
 ·rw [(Zqv hp).1,(ZdS hq).1,hb]
  unfold Instr.index
  simp only [asIntOf,Sem.run_bind,Sem.run_pure,Result.andThen_ok,run_underlying hu,if_pos h0,ByteArray.getElem?_lt' s n.toNat hn]
 ·rw [hb,Zl0]
  have:=s[n.toNat].toNat_lt
  have hmm:IntKind.u8.min=0∧IntKind.u8.max=255:=by decide
  omega
theorem does_field {s:TypeId} {x:Operand} {f:Nat} {fd:Field} {l:List AC} {v:AV} (hM:RepM X W E M) (ht:Zbv X W E M tm a.tmps.toList) (ho:o.op=.field s x f) (hf:Zj1 P s f=some fd) (hx:evalA tm x=.w (.ag l))
 (h:Zf0 P fd.type l fd.offset=some v):Zdv X P o a W E M v M:=by
 have hp:=Zam ht x
 rw [hx] at hp
 obtain ⟨cs,hv,hl⟩:=(hp:∃ cs,a.eval x=.agg cs.toArray∧Zbu X W E M l cs)
 obtain ⟨u,h1,h2⟩:=ZFT (P:=P) (W:=W) hl h
 refine ZbE hM (Instr.field s (a.eval x) f) (by unfold execOp; rw [ho]) (u:=u) ?_ h2
 rw [hv]
 unfold Zj1 at hf
 split at hf
 ·rename_i fs hu
  simp [Instr.field,run_underlying hu,hf,asAgg,h1]
 ·cases hf
theorem does_extract {x:Operand} {n:Nat} {l:List AW} {w:AW} (hM:RepM X W E M) (ht:Zbv X W E M tm a.tmps.toList) (ho:o.op=.extract x n) (hx:evalA tm x=.tp l) (hw:l[n]?=some w):Zdv X P o a W E M (.w w) M:=by
 have hp:=Zam ht x
 rw [hx] at hp
 obtain ⟨vs,hv,hr⟩:=(hp:∃ vs,a.eval x=.tuple vs.toArray∧ZcC X W E M l vs)
 have get:∀ {l:List AW} {vs:List Value} {n:Nat},ZcC X W E M l vs→l[n]?=some w→∃ v,vs[n]?=some v∧Zhv X W E M w v:=by
  intro l
  induction l with
  | nil=>intro vs n _ h; simp at h
  | cons y l ih =>
   intro vs n hr h
   obtain ⟨v,r,e,h1,h2⟩:=hr
   cases n with
   | zero=>simp at h; subst h; exact ⟨v,by rw [e]; rfl,h1⟩
   | succ n =>
    simp at h
    obtain ⟨u,q1,q2⟩:=ih h2 h
    exact Zo4
 obtain ⟨v,h1,h2⟩:=get hr hw
 refine ZbE hM (Instr.extract (a.eval x) n) (by unfold execOp; rw [ho]) (u:=v) ?_ h2
 rw [hv]
 unfold Instr.extract
 simp [h1]
theorem Zyn {t ty:TypeId} {x:Operand} {u v:Value} {ts:Array TypeId} {xs:Array Operand} (hM:RepM X W E M) {r:AV} (hr:Zcd X W E M r u) (ho:o.op=.call ⟨.builtin .len,xs,ts⟩) (hts:ts.toList=[t]) (has:xs.toList=[x]) (hx:a.eval x=v)
 (h:(Builtin.len_ #[t] ty #[v]).run P W=.ok u W) (hty:ty=o.type):Zdv X P o a W E M r M:=by
 refine Zdv.stay hM (u:=u) ?_ hr
 have hts' : ts=#[t]:=by simpa using congrArg List.toArray hts
 have has' : xs=#[x]:=by simpa using congrArg List.toArray has
 subst hty
 unfold execOp
 simp only [ho,has',hts',resolve,invoke,builtin,Sem.run_bind,Sem.run_pure,Result.andThen_ok,List.map_toArray,List.map_cons,List.map_nil,hx,h]
theorem does_minmax {b:Builtin} {ts:Array TypeId} {xs:Array Operand} {k k' : IntKind} {p q r:Int} (hM:RepM X W E M) (ht:Zbv X W E M tm a.tmps.toList) (ho:o.op=.call ⟨.builtin b,xs,ts⟩) (has:xs.toList.map (evalA tm)=[.w (.c (.int k p)), .w (.c (.int k' q))])
 (hb:(b=.min∧r=if q < p then q else p)∨(b=.max∧r=if q > p then q else p)) (hk:k=k'):Zdv X P o a W E M (.c (.int k r)) M:=by
 subst hk
 obtain ⟨x,y,has',hx,hy⟩:∃ x y,xs.toList=[x,y]∧evalA tm x=.w (.c (.int k p))∧evalA tm y=.w (.c (.int k q)):=by
  cases hl:xs.toList with
  | nil=>rw [hl] at has; simp at has
  | cons x l =>
   cases l with
   | nil=>rw [hl] at has; simp at has
   | cons y l =>
    cases l with
    | nil=>rw [hl] at has; simp at has; exact ⟨x,y,rfl,has.1,has.2⟩
    | cons z l=>rw [hl] at has; simp at has
 have hp:=Zam ht x
 rw [hx] at hp
 have hq:=Zam ht y
 rw [hy] at hq
 have has'' : xs=#[x,y]:=by simpa using congrArg List.toArray has'
 obtain ⟨e1,w1⟩:=ZdS hp
 obtain ⟨e2,w2⟩:=ZdS hq
 refine Zdv.stay hM (u:=.int k r) ?_ ⟨rfl,?_⟩
 ·unfold execOp
  rcases hb with ⟨rfl,rfl⟩ | ⟨rfl,rfl⟩
  ·simp [ho,has'',resolve,invoke,builtin,e1,e2,Builtin.min_,Builtin.min2]
  ·simp [ho,has'',resolve,invoke,builtin,e1,e2,Builtin.max_,Builtin.max2]
 ·rcases hb with ⟨_,rfl⟩ | ⟨_,rfl⟩ <;> split <;> assumption
theorem does_min3 {ts:Array TypeId} {xs:Array Operand} {k k' k'' : IntKind} {p q r:Int} (hM:RepM X W E M) (ht:Zbv X W E M tm a.tmps.toList) (ho:o.op=.call ⟨.builtin .min,xs,ts⟩) (has:xs.toList.map (evalA tm)=[.w (.c (.int k p)), .w (.c (.int k' q)), .w (.c (.int k'' r))])
 (hk:k=k'∧k=k''):Zdv X P o a W E M (.c (.int k (if r < (if q < p then q else p) then r else (if q < p then q else p)))) M:=by
 obtain ⟨rfl,rfl⟩:=hk
 obtain ⟨x,y,z,has',hx,hy,hz⟩:∃ x y z,xs.toList=[x,y,z]∧evalA tm x=.w (.c (.int k p))∧evalA tm y=.w (.c (.int k q))∧evalA tm z=.w (.c (.int k r)):=by
  match hl:xs.toList with
  | []=>rw [hl] at has; simp at has
  | [_]=>rw [hl] at has; simp at has
  | [_,_]=>rw [hl] at has; simp at has
  | [x,y,z]=>rw [hl] at has; simp at has; exact ⟨x,y,z,rfl,has.1,has.2.1,has.2.2⟩
  | _ :: _ :: _ :: _ :: _=>rw [hl] at has; simp at has
 have hp:=Zam ht x
 rw [hx] at hp
 have hq:=Zam ht y
 rw [hy] at hq
 have hr:=Zam ht z
 rw [hz] at hr
 have has'' : xs=#[x,y,z]:=by simpa using congrArg List.toArray has'
 obtain ⟨e1,w1⟩:=ZdS hp
 obtain ⟨e2,w2⟩:=ZdS hq
 obtain ⟨e3,w3⟩:=ZdS hr
 refine Zdv.stay hM (u:=.int k (if r < (if q < p then q else p) then r else (if q < p then q else p))) ?_ ⟨rfl,?_⟩
 ·unfold execOp
  simp [ho,has'',resolve,invoke,builtin,e1,e2,e3,Builtin.min_,Builtin.min2]
  repeat' split
  all_goals first | rfl | (exfalso; omega)
 ·repeat' split
  all_goals assumption
theorem Zsf {lo:Option AV} {l:Int} {v:Option Value} (h:loI lo=some l) (hr:ZDu X W E M lo v) :
 (lo=none∧v=none∧l=0)∨∃ k,v=some (.int k l):=by
 unfold loI at h
 exact Zu0
theorem Zsg {n:Nat} {lo:Option AV} {l:Int} {v:Option Value} (h:hiI n lo=some l) (hr:ZDu X W E M lo v) :
 (lo=none∧v=none∧l=n)∨∃ k,v=some (.int k l):=by
 unfold hiI at h
 exact Zu0
theorem Zj5 {k:IntKind} {i:Int} {y:Nat} {c:BoundsCode} (h0:0≤i) (h1:i≤y):(Instr.sliceBound (.int k i) y c).run P W=.ok i.toNat W:=by
 unfold Instr.sliceBound
 simp only [asIntOf,Sem.run_bind,Sem.run_pure,Result.andThen_ok,Sem.run_ite]
 rw [if_pos ⟨h0,h1⟩]
theorem Zlu {b:Bool} {len cap:Nat} {lo hi:Option Value} {l h:Int} (hlo:(lo=none∧l=0)∨∃ k,lo=some (.int k l)) (hhi:(hi=none∧h=len)∨∃ k,hi=some (.int k h)) (h0:0≤l) (h1:l≤h) (h2:h≤cap) :
 (Instr.sliceBounds b len cap lo hi none).run P W=.ok (l.toNat,h.toNat,cap) W:=by
 unfold Instr.sliceBounds
 rcases hhi with ⟨rfl,rfl⟩ | ⟨kh,rfl⟩ <;> rcases hlo with ⟨rfl,rfl⟩ | ⟨kl,rfl⟩
 ·simp
 ·simp only [Sem.run_bind,Sem.run_pure,Result.andThen_ok,Option.isSome,Bool.false_eq_true,if_false]
  rw [Zj5 h0 (by omega)]
  simp
 ·simp only [Sem.run_bind,Sem.run_pure,Result.andThen_ok]
  rw [Zj5 (by omega) (by omega)]
  simp
 ·simp only [Sem.run_bind,Sem.run_pure,Result.andThen_ok,Option.isSome,Bool.false_eq_true,if_false]
  rw [Zj5 (by omega) (by omega)]
  simp only [Result.andThen_ok]
  rw [Zj5 h0 (by omega)]
  simp
theorem Zqx (ht:Zbv X W E M tm a.tmps.toList) (lo:Option Operand):ZDu X W E M (lo.map (evalA tm)) (lo.map a.eval):=by
 cases lo with
 | none=>trivial
 | some x=>exact Zam ht x
theorem ZbP.sub {t:Ty} {b:Nat}:∀ {xs:List t.den} {off:Nat} {G:List Nat} (l h:Nat),ZbP W b off xs G→l≤h→h≤xs.length →
 ∃ G',ZbP W b (off + l * GoRep.n t.den) ((xs.take h).drop l) G'∧∀ g ∈ G',g ∈ G
 | [],off,G,l,h,hr,h1,h2=>by
  obtain rfl:h=0:=by simpa using h2
  obtain rfl:l=0:=by omega
  exact ⟨[],rfl,by simp⟩
 | x :: xs,off,G,0,0,hr,h1,h2=>⟨[],rfl,by simp⟩
 | x :: xs,off,G,0,h + 1,hr,h1,h2=>by
  obtain ⟨cs,G1,G2,r1,r2,r3,rfl⟩:=hr
  obtain ⟨G',q1,q2⟩:=ZbP.sub 0 h r3 (Nat.zero_le _) (by simpa using h2)
  refine ⟨G1 ++ G',⟨cs,G1,G',r1,by simpa using r2,by simpa using q1,rfl⟩,fun g hg=>?_⟩
  rcases List.mem_append.1 hg with hg | hg
  ·simp [hg]
  ·simp [q2 g hg]
 | x :: xs,off,G,l + 1,h + 1,hr,h1,h2=>by
  obtain ⟨cs,G1,G2,r1,r2,r3,rfl⟩:=hr
  obtain ⟨G',q1,q2⟩:=ZbP.sub l h r3 (by omega) (by simpa using h2)
  refine ⟨G',?_,fun g hg=>by simp [q2 g hg]⟩
  rw [show off + (l + 1) * GoRep.n t.den=off + GoRep.n t.den + l * GoRep.n t.den from by rw [Nat.add_mul]; omega]
  simpa using q1
theorem ZpX {t:TypeId} {x:Operand} {lo hi:Option Operand} {s:ByteArray} (hM:RepM X W E M) (ht:Zbv X W E M tm a.tmps.toList) (ho:o.op=.slice t x lo hi none)
 (hu:P.underlying t=some .string) (hx:evalA tm x=.w (.c (.str s)))
 (hn:(ZlX (evalA tm x) (lo.map (evalA tm)) (hi.map (evalA tm))).1):Zdv X P o a W E M (.c (ZlX (evalA tm x) (lo.map (evalA tm)) (hi.map (evalA tm))).2) M:=by
 have hp:=Zam ht x
 have hlo:=Zqx (M:=M) ht lo
 have hhi:=Zqx (M:=M) ht hi
 unfold ZlX at hn ⊢
 rw [hx] at hp hn ⊢
 simp only at hn ⊢
 split at hn
 ·rename_i l h hl hh
  obtain ⟨h0,h1,h2⟩:=hn
  have q1:=Zsf hl hlo
  have q2:=Zsg hh hhi
  have hsl:=Zlu (P:=P) (W:=W) (b:=false) (len:=s.size) (cap:=s.size) (lo:=lo.map a.eval) (hi:=hi.map a.eval) (q1.imp (fun h=>⟨h.2.1,h.2.2⟩) id) (q2.imp (fun h=>⟨h.2.1,h.2.2⟩) id) h0 h1 h2
  obtain ⟨e1,w1⟩:=Zqv hp
  refine ZbE hM (Instr.sliceAt t (a.eval x) (lo.map a.eval) (hi.map a.eval) none) (by unfold execOp; rw [ho]; rfl) (u:=.string (s.extract l.toNat h.toNat)) ?_ ⟨rfl,?_⟩
  ·rw [e1]
   unfold Instr.sliceAt
   simp only [Sem.run_bind,run_underlying hu,Result.andThen_ok]
   unfold Instr.slice
   simp only [Sem.run_bind,run_underlying hu,Result.andThen_ok,Option.isSome,Bool.false_eq_true,if_false,Sem.run_pure,hsl]
  ·have:(s.extract l.toNat h.toNat).size≤s.size:=by simp; omega
   omega
 ·exact hn.elim
theorem ZBn {t e:TypeId} {x:Operand} {lo hi:Option Operand} {cc:AC} {L:Lnd} {q:ZfD} (hM:RepM X W E M) (ht:Zbv X W E M tm a.tmps.toList) (ho:o.op=.slice t x lo hi none)
 (hu:P.underlying t=some (.slice e)) (hx:evalA tm x=.w (.c cc)) (hr:Zfa M cc=some (L,q)) (hs:Zbg P e=q.t.n)
 (hn:(ZlX (.c (.hs L q.t q.xs)) (lo.map (evalA tm)) (hi.map (evalA tm))).1):Zdv X P o a W E M (.c (ZlX (.c (.hs L q.t q.xs)) (lo.map (evalA tm)) (hi.map (evalA tm))).2) M:=by
 have hp:=Zam ht x
 have hlo:=Zqx (M:=M) ht lo
 have hhi:=Zqx (M:=M) ht hi
 obtain ⟨t',xs,_⟩:=q
 unfold ZlX at hn ⊢
 rw [hx] at hp
 simp only at hn hs hr ⊢
 split at hn
 ·rename_i l h hl hh
  obtain ⟨h0,h1,h2⟩:=hn
  obtain ⟨A,c,F,hv,hsr,hF⟩:=ZgJ hM hr hp
  have q1:=Zsf hl hlo
  have q2:=Zsg hh hhi
  have hlc:xs.length≤c:=hsr.1
  have hsl:=Zlu (P:=P) (W:=W) (b:=true) (len:=xs.length) (cap:=c) (lo:=lo.map a.eval) (hi:=hi.map a.eval) (q1.imp (fun h=>⟨h.2.1,h.2.2⟩) id) (q2.imp (fun h=>⟨h.2.1,h.2.2⟩) id) h0 h1 (by omega)
  obtain ⟨inf,hinf⟩:∃ i,P.info? e=some i:=by
   have hpos:0 < Zbg P e:=by rw [hs]; exact ZgW t'
   unfold Zbg at hpos
   cases hq:P.info? e with
   | none=>rw [hq] at hpos; exact absurd hpos (Nat.lt_irrefl 0)
   | some i=>exact ⟨i,rfl⟩
  have hsz:inf.size=t'.n:=by rw [← hs]; unfold Zbg; rw [hinf]
  have hlen:((xs.take h.toNat).drop l.toNat).length=h.toNat - l.toNat:=by simp; omega
  refine ZbE hM (Instr.sliceAt t (a.eval x) (lo.map a.eval) (hi.map a.eval) none) (by unfold execOp; rw [ho]; rfl)
   (u:=.slice (if c=l.toNat then A else A.map (·.add (l.toNat * t'.n))) (h.toNat - l.toNat) (c - l.toNat)) ?_ ⟨rfl,?_⟩
  ·rw [hv]
   exact Zu8
  ·obtain ⟨z1,z2,z3⟩:=hsr
   have z2:c≤maxLen:=z2
   by_cases hemp:h.toNat - l.toNat=0
   ·have hnil:(xs.take h.toNat).drop l.toNat=[]:=List.eq_nil_of_length_eq_zero (by omega)
    rw [hnil,hemp]
    exact Zj0 (F:=[]) (hF.sub (fun _ h=>by cases h)) ⟨_,_,rfl,by simp,by omega, .inl ⟨rfl,rfl⟩⟩
   ·rcases z3 with ⟨z3,_⟩ | ⟨hne,b,off,G,rfl,rfl,hr⟩
    ·have z3:xs=[]:=z3
     subst z3
     simp at hlen; omega
    ·obtain ⟨G',g1,g2⟩:=hr.sub l.toNat h.toNat (by omega) (by show h.toNat≤xs.length; omega)
     rw [Ty.n_eq] at g1
     have hadd:(⟨b,off,none⟩:Addr).add (l.toNat * t'.n)=⟨b,off + l.toNat * t'.n,none⟩:=by unfold Addr.add; split <;> simp_all
     rw [if_neg (by omega)]
     simp only [Option.map_some,hadd]
     refine Zj0 (F:=b :: G') (hF.sub (fun q hq=>?_)) ⟨_,_,by rw [hlen],by omega,by omega, .inr ⟨fun e=>by rw [e] at hlen; simp at hlen; omega,b,_,G',rfl,rfl,g1⟩⟩
     rcases List.mem_cons.1 hq with rfl | hq
     ·simp
     ·simp [g2 q hq]
 ·exact hn.elim
end
end Go.Proofs.YtkeglpnnedflnaaGreatDoor
