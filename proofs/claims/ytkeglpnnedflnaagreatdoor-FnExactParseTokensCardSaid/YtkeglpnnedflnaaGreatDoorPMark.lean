import Derived.Test.YtkeglpnnedflnaaGreatDoorPRep
namespace Go.Proofs.YtkeglpnnedflnaaGreatDoor
open Go.ChangeShapes Go.WideShapes Go.ChangeAt Go.RowKit Go.Joins Go.Deep
open GoRep (rep bulk)
section
variable {α:Type} [GoRep α]
theorem ZbP.move {w w' : World} {b:Nat} {xs:List α}:∀ {off:Nat} {G:List Nat},ZbP w b off xs G →
 (∀ o,off≤o→o < off + xs.length * GoRep.n α→w'.cell? ⟨b,o,none⟩=w.cell? ⟨b,o,none⟩∧w'.frozen? ⟨b,o,none⟩=w.frozen? ⟨b,o,none⟩) →
 (∀ g ∈ G,w'.heap[g]?=w.heap[g]?)→ZbP w' b off xs G:=by
 induction xs with
 | nil=>intro off G h _ _; exact h
 | cons x xs ih =>
  intro off G h hb hG
  obtain ⟨cs,G1,G2,h1,h2,h3,rfl⟩:=h
  have hl:=GoRep.len h1
  have hlen:(x :: xs).length * GoRep.n α=GoRep.n α + xs.length * GoRep.n α:=by rw [List.length_cons,Nat.add_mul]; omega
  refine ⟨cs,G1,G2,GoRep.keep h1 (fun g hg=>hG g (by simp [hg])),fun j u hj=>?_,ih h3 (fun o ho1 ho2=>hb o (by omega) (by omega)) (fun g hg=>hG g (by simp [hg])),rfl⟩
  have hjl:j < cs.length:=(List.getElem?_eq_some_iff.1 hj).1
  obtain ⟨e1,e2⟩:=hb (off + j) (by omega) (by omega)
  rw [e1,e2]
  exact h2 j u hj
end
def dgt (n:Nat):UInt8:=UInt8.ofNat (48 + n % 10)
theorem ZuL (a b:List UInt8):(⟨a.toArray⟩ ++ ⟨b.toArray⟩:ByteArray)=⟨(a ++ b).toArray⟩:=by
 apply ByteArray.ext
 simp
def ZBW (k:Nat):List UInt8:=if k=0 then [] else ZBW (k / 10) ++ [dgt k]
termination_by k
decreasing_by omega
theorem ZuM:ZBW 0=[]:=by unfold ZBW; simp
theorem ZAe {k:Nat} (h:k ≠ 0):ZBW k=ZBW (k / 10) ++ [dgt k]:=by rw [ZBW]; simp [h]
theorem ZAf (k:Nat):(ZBW k).length≤k:=by
 induction k using Nat.strongRecOn with
 | _ k ih =>
  by_cases h:k=0
  ·subst h; simp [ZuM]
  ·rw [ZAe h]
   have:=ih (k / 10) (by omega)
   simp
   omega
def ZiF (k:Int):ByteArray:=⟨(109 :: (if k≤0 then [48] else ZBW k.toNat)).toArray⟩
class GoMark (α:Type) where
 mrk:α→Int→α
 cnt:α→Nat
 mrkI:α→Int→α
 cntI:α→Nat
open GoMark (mrk cnt mrkI cntI)
instance:GoMark Int:=⟨fun _ k=>k,fun _=>1,fun x _=>x,fun _=>0⟩
instance:GoMark Bool:=⟨fun _ k=>decide (k % 3=0),fun _=>1,fun x _=>x,fun _=>0⟩
instance:GoMark ByteArray:=⟨fun _ k=>ZiF k,fun _=>1,fun x _=>x,fun _=>0⟩
instance {α β:Type} [GoMark α] [GoMark β]:GoMark (α × β) :=
 ⟨fun x k=>(mrk x.1 k,mrk x.2 (k + cnt x.1)),fun x=>cnt x.1 + cnt x.2,fun x k=>(mrkI x.1 k,mrkI x.2 (k + cntI x.1)),fun x=>cntI x.1 + cntI x.2⟩
def markL {α:Type} [GoMark α]:List α→Int→List α
 | [],_=>[]
 | x :: xs,k=>mrk x k :: markL xs (k + cnt x)
def cntL {α:Type} [GoMark α]:List α→Nat
 | []=>0
 | x :: xs=>cnt x + cntL xs
instance {α:Type} [GoMark α]:GoMark (List α):=⟨markL,cntL,markL,cntL⟩
section
variable {α:Type} [GoMark α]
theorem ZkH (xs:List α):∀ k,(markL xs k).length=xs.length:=by
 induction xs with
 | nil=>intro k; rfl
 | cons x xs ih=>intro k; simp [markL,ih]
theorem ZoL (xs ys:List α):cntL (xs ++ ys)=cntL xs + cntL ys:=by
 induction xs with
 | nil=>simp [cntL]
 | cons x xs ih=>simp [cntL,ih]; omega
theorem ZuN (xs ys:List α):∀ k,markL (xs ++ ys) k=markL xs k ++ markL ys (k + cntL xs):=by
 induction xs with
 | nil=>intro k; simp [markL,cntL]
 | cons x xs ih=>intro k; simp [markL,cntL,ih]; congr 1; omega
theorem ZEy (xs:List α):∀ (k:Int) (i:Nat) (x:α),xs[i]?=some x→(markL xs k)[i]?=some (mrk x (k + cntL (xs.take i))):=by
 induction xs with
 | nil=>intro k i x h; simp at h
 | cons y xs ih =>
  intro k i x h
  cases i with
  | zero=>simp at h; subst h; simp [markL,cntL]
  | succ i =>
   simp at h
   simp only [markL,List.getElem?_cons_succ,List.take_succ_cons,cntL]
   rw [ih _ i x h]
   congr 2
   omega
end
section
variable {α:Type} [GoRep α]
end
structure Zcv (F:List Nat) (w w' : World):Prop where
 os:w'.os=w.os
 tape:w'.tape=w.tape
 output:w'.output=w.output
 size:w.heap.size≤w'.heap.size
 block:∀ k,k < w.heap.size→k ∉ F→w'.heap[k]?=w.heap[k]?
theorem Zcv.refl (F:List Nat) (w:World):Zcv F w w:=⟨rfl,rfl,rfl,Nat.le_refl _,fun _ _ _=>rfl⟩
theorem Zcv.trans {F:List Nat} {a b c:World} (h:Zcv F a b) (k:Zcv F b c):Zcv F a c :=
 ⟨k.os.trans h.os,k.tape.trans h.tape,k.output.trans h.output,Nat.le_trans h.size k.size,fun i hi hn=>(k.block i (Nat.lt_of_lt_of_le hi h.size) hn).trans (h.block i hi hn)⟩
theorem Zcv.mono {F G:List Nat} {a b:World} (h:Zcv F a b) (hs:∀ x ∈ F,x ∈ G):Zcv G a b:=⟨h.os,h.tape,h.output,h.size,fun i hi hn=>h.block i hi (fun hf=>hn (hs i hf))⟩
theorem Zcv.ext {F:List Nat} {a b:World} (h:Zcv F a b) (E:Array Obj) (d:Nat):Zcv F a (ext b E d) :=
 h.trans ⟨rfl,rfl,rfl,by simp,fun k hk _=>ZcA b E d hk⟩
theorem Zcv.alloc {F:List Nat} {a b:World} (h:Zcv F a b) (o:Obj):Zcv F a (b.alloc o) :=
 h.trans ⟨rfl,rfl,rfl,by simp,fun k hk _=>Below.heap_alloc b o k hk⟩
theorem Zcv.set {F:List Nat} {a b:World} (h:Zcv F a b) {p:Addr} (hp:p.block ∈ F) (u:Value):Zcv F a (b.setCell p u) :=
 h.trans ⟨rfl,rfl,rfl,by simp [World.setCell],fun k _ hn=>Below.heap_setCell b p u k (fun e=>hn (e ▸ hp))⟩
theorem Zcv.drew {F:List Nat} {a b:World} (h:Zcv F a b):Zcv F a b.drew:=⟨h.os,h.tape,h.output,h.size,h.block⟩
theorem Zcv.of_below {F:List Nat} {a b:World} (h:Below a.heap.size a b):Zcv F a b:=⟨h.os,h.tape,h.output,h.size,fun k hk _=>h.block k hk⟩
theorem Zcv.rep {α:Type} [GoRep α] {F G:List Nat} {a b:World} (h:Zcv F a b) {x:α} {cs:List Value} (hr:GoRep.rep a x cs G) (hd:∀ g ∈ G,g ∉ F):GoRep.rep b x cs G :=
 GoRep.keep hr (fun g hg=>h.block g (GoRep.lt hr g hg) (hd g hg))
theorem Zcv.below {F:List Nat} {w a b:World} (hw:Below w.heap.size w a) (h:Zcv F a b) (hF:∀ f ∈ F,w.heap.size≤f):Below w.heap.size w b :=
 hw.trans ⟨h.os,h.tape,h.output,h.size,fun k hk=>h.block k (Nat.lt_of_lt_of_le hk hw.size) (fun hf=>by have:=hF k hf; omega)⟩
theorem ZkY.at_ {α:Type} [GoRep α] {w:World} {xs:List α} {A:Option Addr} {c:Nat} {F:List Nat} (h:ZkY w xs A c F) {k:Nat} (hk:k < xs.length) :
 ∃ b off x cs Gk,A=some ⟨b,off,none⟩∧xs[k]?=some x∧rep w x cs Gk∧(∀ g ∈ Gk,g ∈ F)∧b ∈ F∧b < w.heap.size∧ZcB w b (off + k * GoRep.n α) cs:=by
 obtain ⟨_,_,h3⟩:=h
 rcases h3 with ⟨rfl,_⟩ | ⟨hx,b,off,G,rfl,rfl,hr⟩
 ·simp at hk
 ·have hx':=List.getElem?_eq_getElem hk
  obtain ⟨cs,Gk,h1,h2,h3⟩:=hr.get k _ hx'
  exact ⟨b,off,_,cs,Gk,rfl,hx',h1,fun g hg=>by simp [h2 g hg],by simp,hr.blk hx,h3⟩
def ZL2 (arr:Array Value) (p:Nat):List Value→Array Value
 | []=>arr
 | c :: cs=>ZL2 (arr.setIfInBounds p c) (p + 1) cs
theorem ZbP.append {α:Type} [GoRep α] {w:World} {b:Nat} {ys:List α} {H:List Nat} {xs:List α}:∀ {off:Nat} {G:List Nat},ZbP w b off xs G→ZbP w b (off + xs.length * GoRep.n α) ys H→ZbP w b off (xs ++ ys) (G ++ H):=by
 induction xs with
 | nil=>intro off G h h2; rw [show G=[] from h]; simpa using h2
 | cons x xs ih =>
  intro off G h h2
  obtain ⟨cs,A,B,a1,a2,a3,rfl⟩:=h
  refine ⟨cs,A,B ++ H,a1,a2,ih a3 ?_,by simp⟩
  rw [show off + GoRep.n α + xs.length * GoRep.n α=off + (x :: xs).length * GoRep.n α from by rw [List.length_cons,Nat.add_mul]; omega]
  exact h2
theorem ZBX {k:Int} (h:k≤4611686018427387904):(ZiF k).size≤maxLen:=by
 have h2:=ZAf k.toNat
 have e:(ZiF k).size=(109 :: (if k≤0 then [48] else ZBW k.toNat)).length:=by simp [ZiF,ByteArray.size]
 rw [e]
 unfold maxLen
 split
 ·simp
 ·simp only [List.length_cons]; omega
end Go.Proofs.YtkeglpnnedflnaaGreatDoor
