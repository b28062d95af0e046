import Derived.Test.YtkeglpnnedflnaaGreatDoorPTypes
namespace Go.Proofs.YtkeglpnnedflnaaGreatDoor
open Go.ChangeShapes Go.WideShapes Go.ChangeAt Go.RowKit Go.Joins Go.Deep
open GoRep (rep bulk)
def Abv (w W:World):Prop:=∃ (E:Array Obj) (d:Nat),W=ext w E d
theorem Abv.refl (w:World):Abv w w:=⟨#[],w.drawn,by simp [ext]⟩
theorem Abv.ext {w W:World} (h:Abv w W) (E:Array Obj) (d:Nat):Abv w (ext W E d):=by
 obtain ⟨E0,d0,rfl⟩:=h
 exact ⟨_,_,Zpb _ _ _ _ _⟩
theorem Abv.alloc {w W:World} (h:Abv w W) (o:Obj):Abv w (W.alloc o):=by
 obtain ⟨E0,d0,rfl⟩:=h
 exact ⟨_,_,Zwo _ _ _ _⟩
theorem Abv.drew {w W:World} (h:Abv w W):Abv w W.drew:=by
 obtain ⟨E0,d0,rfl⟩:=h
 exact ⟨_,_,ZGN _ _ _⟩
theorem Abv.drewN {w W:World} (h:Abv w W) (n:Nat):Abv w (W.drewN n):=by
 obtain ⟨E0,d0,rfl⟩:=h
 exact ⟨_,_,ZEJ _ _ _ _⟩
theorem Abv.cell {w W:World} (h:Abv w W) {b:Nat} (hb:b < w.heap.size) (o:Nat):W.cell? ⟨b,o,none⟩=w.cell? ⟨b,o,none⟩:=by
 obtain ⟨E0,d0,rfl⟩:=h
 exact Zp4 _ _ _ _ _ hb
theorem Abv.trans {w W X:World} (h:Abv w W) (k:Abv W X):Abv w X:=by
 obtain ⟨E0,d0,rfl⟩:=k
 exact h.ext _ _
def ZaM {α:Type} (p:α→Bool) (xs:List α):Int:=match xs.findIdx? p with | some i=>i | none=>-1
section
variable {α:Type} {p:α→Bool} {xs:List α} {k:Nat} {x:α}
theorem ZEv (h:(xs.take k).any p=false) (hx:xs[k]?=some x) (hp:p x=true):ZaM p xs=k:=by
 have h2:xs.findIdx? p=some k:=by
  rw [List.findIdx?_eq_some_iff_getElem]
  obtain ⟨hk,rfl⟩:=List.getElem?_eq_some_iff.1 hx
  refine ⟨hk,hp,fun j hj=>?_⟩
  rw [List.any_eq_false] at h
  have:=h xs[j] (List.mem_take_iff_getElem.2 ⟨j,by omega,rfl⟩)
  simpa using this
 simp [ZaM,h2]
theorem ZuJ (h:xs.any p=false):ZaM p xs=-1:=by
 have h2:xs.findIdx? p=none:=by
  rw [List.findIdx?_eq_none_iff]
  rw [List.any_eq_false] at h
  intro y hy
  simpa using h y hy
 simp [ZaM,h2]
theorem ZL1 (hx:xs[k]?=some x) (hp:p x=true):xs.any p=true:=by
 rw [List.any_eq_true]
 exact ⟨x,List.mem_of_getElem? hx,hp⟩
theorem ZoK (xs:List α):0≤ZaM p xs↔xs.any p=true:=by
 cases h:xs.any p
 ·rw [ZuJ h]; simp
 ·cases h2:xs.findIdx? p with
  | none =>
   rw [List.findIdx?_eq_none_iff] at h2
   rw [List.any_eq_true] at h
   obtain ⟨y,hy,hp⟩:=h
   rw [h2 y hy] at hp
   cases hp
  | some i=>simp [ZaM,h2]
theorem ZEw (xs:List α) : -1≤ZaM p xs∧ZaM p xs < xs.length:=by
 unfold ZaM
 cases h2:xs.findIdx? p with
 | none=>simp; omega
 | some i =>
  have:=List.findIdx?_eq_some_iff_getElem.1 h2
  obtain ⟨hi,_⟩:=this
  simp
  omega
end
def Zb5 {α:Type} (p:α→α→Bool):List α→List α→Bool
 | [],[]=>true
 | x :: xs,y :: ys=>p x y && Zb5 p xs ys
 | _,_=>false
section
variable {α:Type} {p:α→α→Bool}
theorem ZsK:∀ {xs ys:List α},¬ xs.length=ys.length→Zb5 p xs ys=false
 | [],[],h=>by simp at h
 | [],_ :: _,_=>rfl
 | _ :: _,[],_=>rfl
 | x :: xs,y :: ys,h=>by
  rw [Zb5,ZsK (xs:=xs) (ys:=ys) (by simpa using h)]
  simp
theorem ZEx:∀ {xs ys:List α} {k:Nat} {x y:α},xs[k]?=some x→ys[k]?=some y→p x y=false→Zb5 p xs ys=false
 | [],_,_,_,_,h,_,_=>by simp at h
 | _ :: _,[],_,_,_,_,h,_=>by simp at h
 | a :: xs,b :: ys,0,x,y,h1,h2,h=>by
  simp at h1 h2
  subst h1
  subst h2
  simp [Zb5,h]
 | a :: xs,b :: ys,k + 1,x,y,h1,h2,h=>by
  simp at h1 h2
  rw [Zb5,ZEx h1 h2 h]
  simp
theorem ZuK:∀ {xs ys:List α} {k:Nat} {x y:α},Zb5 p (xs.take k) (ys.take k)=true→xs[k]?=some x→ys[k]?=some y→p x y=true→Zb5 p (xs.take (k + 1)) (ys.take (k + 1))=true
 | [],_,_,_,_,_,h,_,_=>by simp at h
 | _ :: _,[],_,_,_,_,_,h,_=>by simp at h
 | a :: xs,b :: ys,0,x,y,_,h1,h2,h=>by
  simp at h1 h2
  subst h1
  subst h2
  simp [Zb5,h]
 | a :: xs,b :: ys,k + 1,x,y,h0,h1,h2,h=>by
  simp at h1 h2
  rw [List.take_succ_cons,List.take_succ_cons,Zb5,Bool.and_eq_true] at h0
  rw [List.take_succ_cons,List.take_succ_cons,Zb5,h0.1,ZuK h0.2 h1 h2 h]
  rfl
end
def eqB {α:Type} [DecidableEq α] (x y:α):Bool:=decide (x=y)
theorem ZaN {α:Type} [DecidableEq α] {x y:α}:eqB x y=true↔x=y:=by simp [eqB]
theorem ZaI {α:Type} [DecidableEq α] {x y:α}:eqB x y=false↔¬ x=y:=by simp [eqB]
end Go.Proofs.YtkeglpnnedflnaaGreatDoor
