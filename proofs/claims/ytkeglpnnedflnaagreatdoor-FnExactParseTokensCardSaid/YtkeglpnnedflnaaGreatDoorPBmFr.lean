import Derived.Test.YtkeglpnnedflnaaGreatDoorPBmM
import Derived.Test.YtkeglpnnedflnaaGreatDoorPTypes
set_option linter.unusedSimpArgs false
set_option linter.unusedVariables false
namespace Go.Proofs.YtkeglpnnedflnaaGreatDoor
open Go.ChangeShapes Go.WideShapes Go.ChangeAt Go.RowKit Go.Joins Go.Deep
open GoRep (rep bulk)
def ZOx {α:Type} (p:α→Prop) (l:List α):Prop:=∀ x ∈ l,p x
def WfT:(t:Ty)→t.den→Prop
 | .int k,x=>(Lit.int k x).wf=true
 | .bool,_=>True
 | .str,s=>ByteArray.size s≤maxLen
 | .opq,_=>True
 | .prod a b,x=>WfT a x.1∧WfT b x.2
 | .list a,xs=>List.length (α:=a.den) xs≤maxLen∧ZOx (α:=a.den) (WfT a) xs
def WfC:AC→Prop
 | .int k x=>(Lit.int k x).wf=true
 | .str s=>s.size≤maxLen
 | .hs .no t xs=>xs.length≤maxLen∧ZOx (WfT t) xs
 | .ep .no t xs _ _=>ZOx (WfT t) xs
 | _=>True
def WfL:List AC→Prop
 | []=>True
 | c :: l=>WfC c∧WfL l
def WfW:AW→Prop
 | .c a=>WfC a
 | .ag l=>WfL l
def WfA:List AW→Prop
 | []=>True
 | x :: l=>WfW x∧WfA l
theorem ZDw {α:Type} [GoRep α] {W:World} {p:α→Prop} (hp:∀ x cs F,rep W x cs F→p x) {b:Nat}:∀ {xs:List α} {off:Nat} {G:List Nat},ZbP W b off xs G→∀ x ∈ xs,p x
 | [],_,_,_,x,hx=>by simp at hx
 | y :: xs,_,_,⟨cs,G1,G2,h1,_,h3,_⟩,x,hx=>by
  rcases List.mem_cons.1 hx with rfl | hx
  ·exact hp _ _ _ h1
  ·exact ZDw hp h3 x hx
theorem Zqy {W:World}:∀ (t:Ty) {x:t.den} {cs:List Value} {F:List Nat},rep W x cs F→WfT t x
 | .int _,_,_,_,h=>h.2.1
 | .bool,_,_,_,_=>trivial
 | .str,_,_,_,h=>h.2.1
 | .opq,_,_,_,_=>trivial
 | .prod a b,_,_,_,⟨_,_,_,_,h1,h2,_,_⟩=>⟨Zqy a h1,Zqy b h2⟩
 | .list a,xs,_,_,⟨A,c,_,h1,h2,h3⟩=>by
  refine ⟨Nat.le_trans h1 h2,fun x hx=>?_⟩
  rcases h3 with ⟨rfl,_⟩ | ⟨_,b,off,G,_,_,hr⟩
  ·simp at hx
  ·exact ZDw (fun x cs F h=>Zqy a h) hr x hx
section
variable {P:Program} {X:List Nat} {W:World} {E:Env} {M:Mem}
theorem ZDx:∀ {c:AC} {v:Value},Zbo X W E M c v→WfC c
 | .int _ _,_,h=>h.2
 | .bool _,_,_=>trivial
 | .str _,_,h=>h.2
 | .opq _,_,_=>trivial
 | .hs .no t xs,v,⟨_,F,h,_⟩=>Zqy (.list t) h
 | .hs (.at _ _ _) _ _,_,_=>trivial
 | .bp _ _,_,_=>trivial
 | .ep .no t xs k o,v,⟨_,F,⟨b,off,G,_,_,_,h⟩,_⟩=>fun x hx=>ZDw (fun x cs F h=>Zqy t h) h x hx
 | .ep (.at _ _ _) _ _ _ _,_,_=>trivial
 | .row _ _,_,_=>trivial
 | .rp _ _ _ _ _,_,_=>trivial
 | .sl _ _ _ _ _ _,_,_=>trivial
 | .sp _ _ _ _ _ _ _ _ _,_,_=>trivial
 | .tl _ _ _ _,_,_=>trivial
 | .mp _,_,_=>trivial
 | .junk,_,_=>trivial
 | .fn _ _,_,_=>trivial
 | .raw _,_,_=>trivial
theorem Zyo:∀ {l:List AC} {vs:List Value},Zbu X W E M l vs→WfL l
 | [],_,_=>trivial
 | _ :: _,_,⟨_,_,_,h1,h2⟩=>⟨ZDx h1,Zyo h2⟩
theorem Zj6:∀ {l:List AW} {vs:List Value},ZcC X W E M l vs→WfA l
 | [],_,_=>trivial
 | .c _ :: _,_,⟨_,_,_,h1,h2⟩=>⟨ZDx h1,Zj6 h2⟩
 | .ag _ :: _,_,⟨_,_,_,⟨_,_,h1⟩,h2⟩=>⟨Zyo h1,Zj6 h2⟩
theorem ZBo {r res:AV} {new:Mem} {us:List (Option Nat)} {v:Value} (hM:RepM X W E M) (hr:Zcd X W E M r v) (hn:(Zl4 M new r res).need) (hus:us=(Zl4 M new r res).used) :
 Zb8 X X W E M new us 0 (Zl4 M new r res).used∧Zcd X W (pickE E us) new res v:=by
 have hV:Zl4 M new r res=Zl2 M new [] r res→Zb8 X X W E M new us 0 (Zl4 M new r res).used∧Zcd X W (pickE E us) new res v:=fun e=>by
  rw [e] at hn hus ⊢
  exact ZqV (X':=X) (us:=us) (acc:=[]) hM (fun b hb=>.inl hb) (fun q u h=>by simp at h) hn hr (fun q u h=>by rw [hus]; simpa using h)
 cases r with
 | w a =>
  cases res with
  | w b =>
   have e:Zl4 M new (.w a) (.w b)=ZcS M new [] a b:=rfl
   rw [e] at hn hus ⊢
   exact ZlF (X':=X) (us:=us) (acc:=[]) hM (fun b hb=>.inl hb) (fun q u h=>by simp at h) hn hr (fun q u h=>by rw [hus]; simpa using h)
  | tp l=>exact hV rfl
  | any=>exact hV rfl
 | tp l=>exact hV rfl
 | any=>exact hV rfl
theorem ZJf {W0:World} {res r:AV} {new:Mem} {v:Value} {T:Tab P} (hM:RepM X W E M) (hg:Zbb W0 [] W E) (hr:Zcd X W E M r v) (h:ZMF res new r M):∃ E',Zbb W0 [] W E'∧RepM X W E' new∧Zcd X W E' new res v:=by
 obtain ⟨hn,hc⟩:=h
 obtain ⟨us,hus⟩:∃ us,us=(Zl4 M new r res).used:=⟨_,rfl⟩
 rw [← hus] at hc
 rw [Bool.and_eq_true] at hc
 have hlen:=Nat.eq_of_beq_eq_true hc.1
 obtain ⟨hu,hv⟩:=ZBo hM hr hn hus
 rw [← hus] at hu
 have hu:Zb8 X X W E M new us 0 us:=hu
 refine ⟨pickE E us,⟨hg.os,hg.tape,hg.output,hg.size,hg.keep,fun b hb=>hg.new b (Zda b hb),fun i e h=>by simp at h⟩,Zoo hM hu hlen hc.2 (fun b hb hf=>hM.xlt b hb (Zda b hf)) hM.xsz,hv⟩
theorem Zqz:∀ {l:Mem} {k j:Nat} {c:List AC},l[j]?=some (.box c)→k + j ∈ ZtD k l
 | [],_,_,_,h=>by simp at h
 | .box _ :: l,k,0,c,h=>List.mem_cons_self
 | b :: l,k,j + 1,c,h=>by
  have:=Zqz (l:=l) (k:=k + 1) (j:=j) (c:=c) (by simpa using h)
  rw [show k + 1 + j=k + (j + 1) by omega] at this
  cases b <;> first | exact List.mem_cons_of_mem _ this | exact this
 | .row _ _ _ _ none :: l,k,0,c,h=>by cases h
 | .mp _ :: l,k,0,c,h=>by cases h
 | .dead :: l,k,0,c,h=>by cases h
theorem ZtA {us:List (Option Nat)} {l:List Nat} (h:ZLK us l=true) {j:Nat} (hj:j ∈ l):us[j]?=some (some j):=by
 have h1:=List.all_eq_true.1 h j hj
 unfold ZDC at h1
 split at h1
 ·rename_i i hi
  rw [hi,Nat.eq_of_beq_eq_true h1]
 ·cases h1
theorem ZtB {X' : List Nat} {new:Mem} {us:List (Option Nat)} (hM:RepM X W E M) (hX:∀ b ∈ X',b ∈ X∨b ∈ foots E):∀ {ps:List (AW × AW)} {acc:List (Option Nat)},(∀ (q:Nat) (u:Option Nat),acc[q]?=some u→us[q]?=some u)→(Zjg M new acc ps).need →
 (∀ (q:Nat) (u:Option Nat),(Zjg M new acc ps).used[q]?=some u→us[acc.length + q]?=some u)→(∀ p ∈ ps,∃ v,Zhv X W E M p.1 v)→Zb8 X X' W E M new us acc.length (Zjg M new acc ps).used
 | [],_,_,_,_,_=>trivial
 | p :: ps,acc,hacc,⟨h1,h2⟩,hus,hv=>by
  have hus:∀ (q:Nat) (u:Option Nat),((ZcS M new acc p.1 p.2).used ++ (Zjg M new (acc ++ (ZcS M new acc p.1 p.2).used) ps).used)[q]?=some u→us[acc.length + q]?=some u:=hus
  have hu1:∀ (q:Nat) (u:Option Nat),(ZcS M new acc p.1 p.2).used[q]?=some u→us[acc.length + q]?=some u:=fun q u hq=>hus q u (by rw [List.getElem?_append_left (List.getElem?_eq_some_iff.1 hq).1]; exact hq)
  have hacc2:∀ (q:Nat) (u:Option Nat),(acc ++ (ZcS M new acc p.1 p.2).used)[q]?=some u→us[q]?=some u:=fun q u hq=>by
   exact Zh3
  obtain ⟨v,hv1⟩:=hv p List.mem_cons_self
  obtain ⟨q1,_⟩:=ZlF hM hX hacc h1 hv1 hu1
  have p1:=ZtB hM hX hacc2 h2 (fun q u hq=>by
   have:=hus ((ZcS M new acc p.1 p.2).used.length + q) u (by rw [List.getElem?_append_right (by omega),Nat.add_sub_cancel_left]; exact hq)
   rwa [List.length_append,Nat.add_assoc]) (fun p hp=>hv p (List.mem_cons_of_mem _ hp))
  rw [List.length_append] at p1
  exact q1.app p1
theorem pairs_name:∀ {ins:List MTy} {k:Nat} {p:AW × AW},p ∈ ZmD k ins→(∃ j,p.1=.c (.bp j 0)∧j < k + (ins.map MTy.nb).sum)∨(∃ j ∈ inpM k ins,p.1=.c (.row j 0))∨p.1=.c (.raw (.slice none 0 0))
 | [],_,_,h=>by simp [ZmD] at h
 | y :: l,k,p,h=>by
  have seq_lt:∀ (n k j:Nat),j ∈ seqN k n→j < k + n:=by
   intro n
   induction n with
   | zero=>intro k j h; simp [seqN] at h
   | succ n ih =>
    intro k j h
    rcases List.mem_cons.1 h with rfl | h
    ·omega
    ·have:=ih (k + 1) j h; omega
  have up:∀ {n:Nat} {inp:List Nat},n=y.nb→inpM k (y :: l)=inp ++ inpM (k + n) l→p ∈ ZmD (k + n) l→(∃ j,p.1=.c (.bp j 0)∧j < k + ((y :: l).map MTy.nb).sum)∨(∃ j ∈ inpM k (y :: l),p.1=.c (.row j 0))∨p.1=.c (.raw (.slice none 0 0)):=fun {n inp} hn hi hp=>by
   rcases pairs_name hp with ⟨j,h1,h2⟩ | ⟨j,h1,h2⟩ | h
   ·exact .inl ⟨j,h1,by rw [List.map_cons,List.sum_cons,← hn]; omega⟩
   ·exact .inr (.inl ⟨j,by rw [hi]; exact List.mem_append_right _ h1,h2⟩)
   ·exact .inr (.inr h)
  cases y with
  | a y=>exact up (n:=0) (inp:=[]) rfl rfl h
  | m t =>
   exact Zvi
  | e t =>
   rcases List.mem_cons.1 h with rfl | h
   ·exact .inr (.inl ⟨k,List.mem_cons_self,rfl⟩)
   ·exact up (inp:=[k]) rfl rfl h
  | q g t =>
   rcases List.mem_append.1 h with h | h
   ·obtain ⟨j,hj,rfl⟩:=List.mem_map.1 h
    exact .inr (.inl ⟨j,List.mem_append_left _ hj,rfl⟩)
   ·exact up (inp:=seqN k t.nl) rfl rfl h
  | g g t =>
   rcases List.mem_append.1 h with h | h
   ·obtain ⟨j,hj,rfl⟩:=List.mem_map.1 h
    exact .inr (.inr rfl)
   ·exact up (inp:=[]) rfl rfl h
  | b t =>
   exact Zvi
  | f g c =>
   rcases List.mem_append.1 h with h | h
   ·obtain ⟨j,hj,rfl⟩:=List.mem_map.1 h
    refine .inl ⟨j,rfl,?_⟩
    have:=seq_lt _ _ _ hj
    rw [List.map_cons,List.sum_cons]
    show j < k + (c.length + _)
    omega
   ·exact up (inp:=[]) rfl rfl h
theorem Zsh:∀ {l:List ZLH} {x:ZJi l},(ZMv l x).length=l.length
 | [],_=>rfl
 | .b t :: l,x=>congrArg (· + 1) (Zsh (l:=l) (x:=x.2))
 | .ptr j :: l,x=>congrArg (· + 1) (Zsh (l:=l) (x:=(x:ZJi l)))
theorem Zgb:∀ {t:Ty} {x:t.den},(ZhA t x).length=t.nl
 | .int _,_=>rfl
 | .bool,_=>rfl
 | .str,_=>rfl
 | .opq,_=>rfl
 | .prod a b,x=>(List.length_append).trans (congr (congrArg Nat.add (Zgb (t:=a))) (Zgb (t:=b)))
 | .list _,_=>rfl
theorem Zj7 {k:Nat}:∀ {y:MTy} {x:y.D},(preM1 k y x).length=y.nb
 | .a _,_=>rfl
 | .m t,x=>congrArg (· + 1) (Zgb (t:=t))
 | .e _,_=>rfl
 | .q _ t,x=>Zgb (t:=t)
 | .g _ t,x=>Zgb (t:=t)
 | .b _,_=>rfl
 | .f _ l,x=>Zsh (l:=l)
theorem ZzF:∀ {ins:List MTy} {k:Nat} {x:MD ins},(ZgX k ins x).length=(ins.map MTy.nb).sum
 | [],_,_=>rfl
 | y :: l,k,x=>by
  show (preM1 k y x.1 ++ ZgX (k + y.nb) l x.2).length=_
  rw [List.length_append,Zj7,ZzF,List.map_cons,List.sum_cons]
theorem Zlv:∀ {t:Ty} {x:t.den} {b:Blk},b ∈ ZhA t x→∃ (t' : Ty) (xs:List t'.den),b=.row t' xs 0 0 none
 | .int _,_,_,h=>by simp [ZhA] at h
 | .bool,_,_,h=>by simp [ZhA] at h
 | .str,_,_,h=>by simp [ZhA] at h
 | .opq,_,_,h=>by simp [ZhA] at h
 | .prod a b,x,_,h=>(List.mem_append.1 h).elim (Zlv (t:=a)) (Zlv (t:=b))
 | .list a,xs,_,h=>⟨a,xs,List.mem_singleton.1 h⟩
theorem ZzG:∀ {n k j:Nat},j ∈ seqN k n→k≤j∧j < k + n
 | 0,_,_,h=>by simp [seqN] at h
 | n + 1,k,j,h=>by
  rcases List.mem_cons.1 h with rfl | h
  ·omega
  ·have:=ZzG h; omega
theorem Zsi:∀ {ins:List MTy} {k:Nat} {x:MD ins} {i:Nat},i ∈ inpM k ins→k≤i∧∃ (t:Ty) (xs:List t.den) (v c:Nat),(ZgX k ins x)[i - k]?=some (.row t xs v c none)
 | [],_,_,_,h=>by simp [inpM] at h
 | y :: l,k,x,i,h=>by
  have up:i ∈ inpM (k + y.nb) l→k≤i∧∃ (t:Ty) (xs:List t.den) (v c:Nat),(ZgX k (y :: l) x)[i - k]?=some (.row t xs v c none):=fun h=>by
   obtain ⟨h1,t,xs,v,c,h2⟩:=Zsi (x:=x.2) h
   refine ⟨by omega,t,xs,v,c,?_⟩
   show (preM1 k y x.1 ++ ZgX (k + y.nb) l x.2)[i - k]?=_
   rw [List.getElem?_append_right (by rw [Zj7]; omega),Zj7,← h2]
   congr 1
   omega
  have here:i ∈ seqN k y.nb→(∀ b ∈ preM1 k y x.1,∃ (t' : Ty) (xs:List t'.den),b=.row t' xs 0 0 none)→k≤i∧∃ (t:Ty) (xs:List t.den) (v c:Nat),(ZgX k (y :: l) x)[i - k]?=some (.row t xs v c none):=fun h hb=>by
   obtain ⟨h1,h2⟩:=ZzG h
   refine ⟨h1,?_⟩
   have hl:i - k < (preM1 k y x.1).length:=by rw [Zj7]; omega
   obtain ⟨t,xs,e⟩:=hb _ (List.getElem_mem hl)
   refine ⟨t,xs,0,0,?_⟩
   show (preM1 k y x.1 ++ ZgX (k + y.nb) l x.2)[i - k]?=_
   rw [List.getElem?_append_left hl,List.getElem?_eq_getElem hl,e]
  cases y with
  | e t =>
   rcases List.mem_cons.1 h with h | h
   ·exact here (by rw [h]; exact List.mem_cons_self) (fun b hb=>⟨t,_,List.mem_singleton.1 hb⟩)
   ·exact up h
  | q g t =>
   rcases List.mem_append.1 h with h | h
   ·exact here h (fun b hb=>Zlv (t:=t) hb)
   ·exact up h
  | a _=>exact up h
  | m _=>exact up h
  | g _ _=>exact up h
  | b _=>exact up h
  | f _ _=>exact up h
def WfB:Blk→Prop
 | .row t xs _ _ none=>WfT (.list t) xs
 | .box l=>WfL l
 | _=>True
def WfM:Mem→Prop
 | []=>True
 | b :: l=>WfB b∧WfM l
theorem ZF2 {t:Ty} {xs:List t.den} {v:Value} {F:List Nat} (h:Zc3 W (Zbd W t) t.n xs v F):WfT (.list t) xs:=by
 obtain ⟨F',h1,_⟩:=Zbd.rep (.list t) (x:=xs) (cs:=[v]) ⟨v,rfl,h⟩
 exact Zqy (.list t) h1
theorem ZJg {b:Blk} {e:EB} (h:ZJT X W E M b e):WfB b:=by
 cases b with
 | row t xs v c hh =>
  cases hh with
  | none=>exact ZF2 h
  | some _=>trivial
 | box l=>obtain ⟨_,cs,T,_,h⟩:=h; exact Zyo h
 | mp _=>trivial
 | dead=>trivial
theorem ZJh (hM:RepM X W E M):WfM M:=by
 have:∀ b ∈ M,WfB b:=fun b hb=>by
  obtain ⟨i,hi⟩:=List.mem_iff_getElem?.1 hb
  have hl:i < E.length:=by rw [← hM.len]; exact (List.getElem?_eq_some_iff.1 hi).1
  exact ZJg (hM.at_ i b _ hi (List.getElem?_eq_getElem hl))
 clear hM
 induction M with
 | nil=>trivial
 | cons b l ih=>exact ⟨this b List.mem_cons_self,ih (fun b hb=>this b (List.mem_cons_of_mem _ hb))⟩
theorem Zfc {T:Tab P} {L:Nat→List AV→Mem→Zbe} {f:FuncId} {fn:Func} {args:List AW} {res:AV} {new:Mem} (hf:P.funcs[f]?=some fn) (hC:(T.C=none∧T.n0=0)∧T.inp=[]) (h:WfA args→ZBu T L fn args [] (ZMF res new)):Zaq P f args res new:=fun X W vs hsz hgl hr =>
 (Zjn (E0:=[]) hf ⟨.inl hC.1.1,hC.1.2,(fun i hi=>by rw [hC.2] at hi; cases hi),hgl⟩ (h (Zj6 hr)) (ZE8 hsz) hr (fun i hi=>by rw [hC.2] at hi; cases hi)).mono fun e W' hq=>by
  exact Zvp
theorem Zfd {T:Tab P} {L:Nat→List AV→Mem→Zbe} {f:FuncId} {fn:Func} {args:List AW} {res:AV} {vs:List Value} (hf:P.funcs[f]?=some fn) (hn0:T.n0=0∧T.inp=[]) (hT:∀ c,T.C=some c→ZMx X W c) (hsz:∀ b ∈ X,b < W.heap.size) (hgl:ZiD W []) (hr:ZcC X W [] [] args vs)
 (h:WfA args→ZBu T L fn args [] (ZMF res [])) :
 Calls P f vs.toArray W (fun e W'=>∃ v E',e=.returned v∧Zbb W [] W' E'∧RepM X W' E' []∧Zcd X W' E' [] res v) :=
 (Zjn (E0:=[]) hf ⟨.inr ⟨rfl,hT⟩,hn0.1,(fun i hi=>by rw [hn0.2] at hi; cases hi),hgl⟩ (h (Zj6 hr)) (ZE8 hsz) hr (fun i hi=>by rw [hn0.2] at hi; cases hi)).mono fun e W' hq=>by
  exact Zvp
theorem Zce {T:Tab P} {L:Nat→List AV→Mem→Zbe} {f:FuncId} {fn:Func} {ins:List MTy} {x y:MD ins} {res:AV} {new:Mem} (hf:P.funcs[f]?=some fn) (hC:T.C=none) (hn0:T.n0=(ZgX 0 ins x).length) (hinp:T.inp=inpM 0 ins)
 (hsame:Zff (ZgX 0 ins x) (ZdR 0 ins y ++ new)=true)
 (h:WfA (Zdw 0 ins x)→WfM (ZgX 0 ins x)→ZBu T L fn (Zdw 0 ins x) (ZgX 0 ins x) (ZRU ins (ZdR 0 ins y ++ new) res)):ZdE P f (Zdw 0 ins x) (ZgX 0 ins x) (ZdR 0 ins y ++ new) (inpM 0 ins) res:=fun X W E0 vs hgl hM0 hr=>by
 have hrow:∀ i ∈ T.inp,∃ (t:Ty) (xs:List t.den) (v c:Nat),(ZgX 0 ins x)[i]?=some (.row t xs v c none):=fun i hi=>by
  rw [hinp] at hi
  obtain ⟨_,h⟩:=Zsi (x:=x) hi
  exact h
 have hl0:(ZgX 0 ins x).length=E0.length:=hM0.len
 refine (Zjn (T:=T) hf ⟨.inl hC,by rw [hn0,hl0],(fun i hi=>by
  obtain ⟨t,xs,v,c,h⟩:=hrow i hi
  rw [← hl0]
  exact (List.getElem?_eq_some_iff.1 h).1),hgl⟩ (h (Zj6 hr) (ZJh hM0)) hM0 hr hrow).mono fun e W' hq=>?_
 obtain ⟨v,E',M',r,rfl,hs,m,hv,hn,hchk⟩:=hq
 obtain ⟨qm,hqm⟩:∃ qm,qm=ZdR 0 ins y ++ new:=⟨_,rfl⟩
 rw [← hqm] at hn hchk hsame ⊢
 obtain ⟨us1,hus1⟩:∃ us1,us1=(Zjg M' qm [] (ZmD 0 ins)).used:=⟨_,rfl⟩
 rw [← hus1] at hn hchk
 obtain ⟨us2,hus2⟩:∃ us2,us2=(Zl2 M' qm us1 r res).used:=⟨_,rfl⟩
 rw [← hus2] at hchk
 simp only [Bool.and_eq_true] at hchk
 obtain ⟨⟨c1,c2⟩,c3,c4⟩:=hchk
 have c1:=Nat.eq_of_beq_eq_true c1
 have hlE:∀ j,j < (ZgX 0 ins x).length→∃ ej e0,E'[j]?=some ej∧E0[j]?=some e0∧ej.blk=e0.blk:=fun j hj=>by
  have h0:E0[j]?=some (E0[j]'(by omega)):=List.getElem?_eq_getElem (by omega)
  obtain ⟨ej,q1,q2⟩:=hs.g.blk j _ h0
  exact ⟨ej,_,q1,h0,q2⟩
 have hu1:Zb8 X X W' E' M' qm (us1 ++ us2) 0 us1:=by
  have:=ZtB (X':=X) (us:=us1 ++ us2) (acc:=[]) m (fun b hb=>.inl hb) (fun q u h=>by simp at h) hn.1 (fun q u h=>by rw [← hus1] at h; rw [List.length_nil,Nat.zero_add,List.getElem?_append_left (List.getElem?_eq_some_iff.1 h).1]; exact h) (fun p hp=>by
   rcases pairs_name hp with ⟨j,h1,h2⟩ | ⟨j,h1,h2⟩ | h1
   ·rw [h1]
    obtain ⟨ej,e0,q1,_⟩:=hlE j (by rw [ZzF]; omega)
    exact ⟨_,ej,q1,rfl⟩
   ·rw [h2]
    have hv0:=List.all_eq_true.1 c4 j h1
    rcases hs.kept j (by rw [hinp]; exact h1) with hd | ⟨t,xs,v',c,hh,k1,_⟩
    ·rw [hd] at hv0; cases hv0
    ·rw [k1] at hv0
     cases hh with
     | some _=>cases hv0
     | none =>
     obtain rfl:=Nat.eq_of_beq_eq_true (show Nat.beq v' 0=true from hv0)
     obtain ⟨_,t2,xs2,v2,c2,h3⟩:=Zsi (x:=x) h1
     obtain ⟨ej,e0,q1,_⟩:=hlE j (by have:=(List.getElem?_eq_some_iff.1 h3).1; omega)
     have hol:Zc3 W' (Zbd W' t) t.n xs ej.val ej.foot:=m.at_ j _ ej k1 q1
     obtain ⟨A,c',hsl⟩:=Zck hol
     refine ⟨ej.val,by rw [hsl]; rfl,?_⟩
     unfold ZbL
     rw [k1]
     exact ⟨Nat.le_refl _,fun _=>⟨ej,q1,rfl⟩⟩
   ·rw [h1]
    exact ⟨.slice none 0 0,rfl,rfl⟩)
  rw [← hus1] at this
  exact this
 obtain ⟨hu2,hv2⟩:=ZqV (X':=X) (us:=us1 ++ us2) (acc:=us1) m (fun b hb=>.inl hb) (fun q u h=>by rw [List.getElem?_append_left (List.getElem?_eq_some_iff.1 h).1]; exact h) hn.2 hv (fun q u h=>by rw [← hus2] at h; rw [List.getElem?_append_right (by omega),Nat.add_sub_cancel_left]; exact h)
 rw [← hus2] at hu2
 have hu:Zb8 X X W' E' M' qm (us1 ++ us2) 0 (us1 ++ us2):=hu1.app (by rw [Nat.zero_add]; exact hu2)
 refine ⟨v,pickE E' (us1 ++ us2),rfl,⟨hs.g.os,hs.g.tape,hs.g.output,hs.g.size,hs.g.keep,fun b hb=>hs.g.new b (Zda b hb)⟩,fun i l e0 hb he0=>?_,fun i hi e0 he0=>?_,Zoo m hu c1 c2 (fun b hb hf=>m.xlt b hb (Zda b hf)) m.xsz,hv2⟩
 ·have hq:∃ l',qm[i]?=some (.box l'):=Zjp hsame hb
  obtain ⟨l',hq⟩:=hq
  have hin:i ∈ ZtD 0 qm:=by have:=Zqz (k:=0) hq; rwa [Nat.zero_add] at this
  have hus:=ZtA c3 (List.mem_append_left _ hin)
  obtain ⟨ej,e0',q1,q2,q3⟩:=hlE i (List.getElem?_eq_some_iff.1 hb).1
  rw [he0] at q2
  obtain rfl:=Option.some.inj q2
  exact ⟨ej,Zdp hus q1,q3⟩
 ·have hus:=ZtA c3 (List.mem_append_right _ hi)
  have hv0:=List.all_eq_true.1 c4 i hi
  rcases hs.kept i (by rw [hinp]; exact hi) with hd | ⟨t,xs,v',c,hh,k1,k2⟩
  ·rw [hd] at hv0; cases hv0
  ·rw [k1] at hv0
   cases hh with
   | some _=>cases hv0
   | none =>
   obtain rfl:=Nat.eq_of_beq_eq_true (show Nat.beq v' 0=true from hv0)
   obtain ⟨ej,q1,q2⟩:=k2 rfl e0 he0
   exact ⟨ej,Zdp hus q1,q2⟩
theorem RV.of_b {f:FuncId} {args:List AW} {c:AC} {w:World} {vs:List Value} {u:Value} (h:Zaq P f args (.c c) []) (hgl:ZiD w []) (hr:ZcC [] w [] [] args vs) (hc:∀ W' E' v,Zbo [] W' E' [] c v→v=u):Calls P f vs.toArray w (RV u w) :=
 (h [] w vs (by simp) hgl hr).mono fun e W' hq=>by
  obtain ⟨v,E',rfl,g,m,hv⟩:=hq
  obtain rfl:=hc _ _ _ hv
  exact ⟨rfl,Zia g.below⟩
theorem ZBp {w:World} (t:Ty) {xs:List t.den} {v:Value} (h:ZHX w xs [v]):Zhv [] w [] [] (.c (.hs .no t xs)) v:=by
 obtain ⟨F,h⟩:=h
 exact ⟨by have:=GoRep.one h; simpa using this,F,h,fun b hb=>⟨by simp [foots],GoRep.lt h b hb⟩⟩
end
theorem ZmQ {b:Bool} {p q:Prop}:(bif b then p else q)↔((b=true→p)∧(b=false→q)):=by cases b <;> simp
def frC (n:Nat) (M:Mem):AC→AC
 | .int k x=>.int k x
 | .bool b=>.bool b
 | .str s=>.str s
 | .row i 0=>match M[i]? with
  | some (.row t xs 0 0 none)=>bif Nat.ble n i then .hs .no t xs else .junk
  | _=>.junk
 | _=>.junk
def frW (n:Nat) (M:Mem):AW→AW
 | .c a=>.c (frC n M a)
 | .ag l=>.ag (l.map (frC n M))
def frV (n:Nat) (M:Mem):AV→AV
 | .w x=>.w (frW n M x)
 | .tp l=>.tp (l.map (frW n M))
 | .any=>.any
section
variable {X:List Nat} {W:World} {E:Env} {M:Mem} {P:Program}
theorem ZDy {n:Nat} (hM:RepM X W E M):∀ {c:AC} {v:Value},Zbo X W E M c v→Zbo X W (E.take n) (M.take n) (frC n M c) v:=fun {c v} h=>by
 have one:=Zbo.one h
 cases c with
 | int k x=>exact h
 | bool b=>exact h
 | str s=>exact h
 | row i ver =>
  cases ver with
  | succ _=>exact one
  | zero =>
   show Zbo X W (E.take n) (M.take n) (match M[i]? with
    | some (.row t xs 0 0 none)=>bif Nat.ble n i then .hs .no t xs else .junk
    | _=>.junk) v
   split
   ·rename_i t xs hi
    cases hn:Nat.ble n i with
    | false=>exact one
    | true =>
     have hn:=Nat.le_of_ble_eq_true hn
     obtain ⟨_,h2⟩:=h
     unfold ZbL at h2
     rw [hi] at h2
     obtain ⟨e,he,rfl⟩:=h2.2 rfl
     obtain ⟨F,r1,r2⟩:=Zbd.rep (.list t) (x:=xs) ⟨e.val,rfl,hM.at_ i _ e hi he⟩
     have hfe:∀ b ∈ F,b ∈ foots E:=fun b hb=>Zaw.2 ⟨e,List.mem_of_getElem? he,r2 b hb⟩
     refine ⟨one,F,r1,fun b hb=>⟨⟨fun hq=>?_,fun hx=>hM.xlt b hx (hfe b hb)⟩,hM.lt b (hfe b hb)⟩⟩
     have hnd:=hM.nodup
     rw [← List.take_append_drop n E,ZaV,List.nodup_append] at hnd
     refine hnd.2.2 b hq b (Zaw.2 ⟨e,List.mem_of_getElem? (i:=i - n) ?_,r2 b hb⟩) rfl
     rw [List.getElem?_drop,show n + (i - n)=i by omega]
     exact he
   ·exact one
 | _=>exact one
theorem ZDz {n:Nat} (hM:RepM X W E M):∀ {l:List AC} {vs:List Value},Zbu X W E M l vs→Zbu X W (E.take n) (M.take n) (l.map (frC n M)) vs
 | [],_,h=>h
 | _ :: _,_,⟨v,r,e,h1,h2⟩=>⟨v,r,e,ZDy hM h1,ZDz hM h2⟩
theorem ZDA {n:Nat} (hM:RepM X W E M):∀ {x:AW} {v:Value},Zhv X W E M x v→Zhv X W (E.take n) (M.take n) (frW n M x) v
 | .c _,_,h=>ZDy hM h
 | .ag _,_,⟨cs,e,h⟩=>⟨cs,e,ZDz hM h⟩
theorem ZzH {n:Nat} (hM:RepM X W E M):∀ {l:List AW} {vs:List Value},ZcC X W E M l vs→ZcC X W (E.take n) (M.take n) (l.map (frW n M)) vs
 | [],_,h=>h
 | _ :: _,_,⟨v,r,e,h1,h2⟩=>⟨v,r,e,ZDA hM h1,ZzH hM h2⟩
theorem ZDB {n:Nat} (hM:RepM X W E M):∀ {x:AV} {v:Value},Zcd X W E M x v→Zcd X W (E.take n) (M.take n) (frV n M x) v
 | .w _,_,h=>ZDA hM h
 | .tp _,_,⟨vs,e,h⟩=>⟨vs,e,ZzH hM h⟩
 | .any,_,_=>trivial
end
theorem Zaq.free {P:Program} {f:FuncId} {args:List AW} {r:AV} {new:Mem} (h:Zaq P f args r new):Zaq P f args (frV 0 new r) []:=fun X W vs hX hgl hr=>(h X W vs hX hgl hr).mono fun e W' q=>by
 obtain ⟨v,E',he,g,hM,hv⟩:=q
 have hv':=ZDB (n:=0) hM hv
 rw [List.take_zero,List.take_zero] at hv'
 exact ⟨v,[],he,⟨g.os,g.tape,g.output,g.size,fun b hb _=>g.keep b hb (by simp [foots]),fun b hb=>by simp [foots] at hb,fun i e h=>by simp at h⟩,ZE8 hM.xsz,hv'⟩
theorem ZdE.free {P:Program} {f:FuncId} {args:List AW} {pm qm new:Mem} {inp:List Nat} {r:AV} (hl:qm.length=pm.length) (hk:qm.all (okB qm.length)=true) (hin:∀ i ∈ inp,i < qm.length) (h:ZdE P f args pm (qm ++ new) inp r):ZdE P f args pm (qm ++ []) inp (frV qm.length (qm ++ new) r):=fun X W E vs hgl hM hr=>(h X W E vs hgl hM hr).mono fun e W' q=>by
 obtain ⟨v,E',he,g,hb,hi,hM',hv⟩:=q
 have hm:=ZzS hM' hk
 have hv':=ZDB (n:=qm.length) hM' hv
 rw [List.take_left] at hv'
 rw [List.append_nil]
 have hcut:∀ (i:Nat) (e' : EB),i < qm.length→E'[i]?=some e'→(E'.take qm.length)[i]?=some e':=fun i e' hlt h=>by rw [List.getElem?_take,if_pos hlt]; exact h
 refine ⟨v,E'.take qm.length,he,⟨g.os,g.tape,g.output,g.size,g.keep,fun b hb=>g.new b (Zgf _ b hb)⟩,fun i l e0 h1 h2=>?_,fun i hi' e0 h2=>?_,hm,hv'⟩
 ·obtain ⟨e',q1,q2⟩:=hb i l e0 h1 h2
  exact ⟨e',hcut i e' (by rw [hl]; exact (List.getElem?_eq_some_iff.1 h1).1) q1,q2⟩
 ·obtain ⟨e',q1,q2⟩:=hi i hi' e0 h2
  exact ⟨e',hcut i e' (hin i hi') q1,q2⟩
def ZOy {P:Program} (e:Zct P) (hl:∀ x y,(ZdR 0 e.ins x).length=(ZgX 0 e.ins y).length) (hk:∀ x,(ZdR 0 e.ins x).all (okB (ZdR 0 e.ins x).length)=true) (hin:∀ x,∀ i ∈ inpM 0 e.ins,i < (ZdR 0 e.ins x).length):Zct P :=
 ⟨e.f,e.ins,e.pre,e.post,fun x=>frV (ZdR 0 e.ins (e.post x)).length (ZdR 0 e.ins (e.post x) ++ e.new x) (e.res x),fun _=>[],fun x hx=>(e.ok x hx).free (hl _ _) (hk _) (hin _),e.ent⟩
end Go.Proofs.YtkeglpnnedflnaaGreatDoor
