import Derived.Test.YtkeglpnnedflnaaGreatDoorPBlOk
import Derived.Test.YtkeglpnnedflnaaGreatDoorPRep
import Derived.Laws.IdiomStrings
import Derived.Test.YtkeglpnnedflnaaGreatDoorPBmTy
set_option linter.unusedSimpArgs false
set_option linter.unusedVariables false
set_option maxRecDepth 100000
namespace Go.Proofs.YtkeglpnnedflnaaGreatDoor
open Go.ChangeShapes Go.WideShapes Go.ChangeAt Go.RowKit Go.Joins Go.Deep
open GoRep (rep bulk)
def Zy1 (s:ByteArray) (arr:Array Value) (k:Nat):Prop:=s.size≤arr.size∧∀ j,j < s.size→arr[j]?=some (.int .u8 (if j < k then upI (Zap s j) else Zap s j))
theorem Zpe (s:ByteArray) (cap:Nat):Zy1 s (bytesRow s cap) 0:=by
 refine ⟨by unfold bytesRow; rw [Array.size_append,Array.size_map]; show s.data.size≤_; omega,fun j hj=>?_⟩
 rw [bytesRow_at s cap j hj,if_neg (Nat.not_lt_zero j)]
 unfold Zap
 rw [List.getD_eq_getElem?_getD,List.getElem?_eq_getElem (by simpa using hj)]
 simp
theorem ZB3 {s:ByteArray} {arr:Array Value} {k:Nat} (h:Zy1 s arr k) (hk:k < s.size) (hu:upI (Zap s k)=Zap s k):Zy1 s arr (k + 1):=by
 refine ⟨h.1,fun j hj=>?_⟩
 rw [h.2 j hj]
 by_cases h1:j < k
 ·rw [if_pos h1,if_pos (by omega)]
 ·by_cases h2:j=k
  ·subst h2
   rw [if_neg h1,if_pos (by omega),hu]
  ·rw [if_neg h1,if_neg (by omega)]
theorem Zwq {s:ByteArray} {arr:Array Value} {k:Nat} (h:Zy1 s arr k) (hk:k < s.size):Zy1 s (arr.setIfInBounds k (.int .u8 (upI (Zap s k)))) (k + 1):=by
 refine ⟨by rw [Array.size_setIfInBounds]; exact h.1,fun j hj=>?_⟩
 rw [Array.getElem?_setIfInBounds]
 by_cases h2:k=j
 ·subst h2
  rw [if_pos rfl,if_pos (by have:=h.1; omega),if_pos (by omega)]
 ·rw [if_neg h2,h.2 j hj]
  by_cases h1:j < k
  ·rw [if_pos h1,if_pos (by omega)]
  ·rw [if_neg h1,if_neg (by omega)]
theorem Zpf (w:World) (c:Array Value) (T:TypeId) (f:Nat × Nat) (k:Nat) (v:Value):(w.alloc (.cells c T f)).setCell ⟨w.heap.size,k,none⟩ v=w.alloc (.cells (c.setIfInBounds k v) T f):=by
 have h:∀ (a:Array Obj) (o o' : Obj) (g:Obj→Obj),g o=o'→(a.push o).modify a.size g=a.push o':=fun a o o' g h=>by
  apply Array.ext_getElem?
  intro i
  rw [Array.getElem?_modify]
  by_cases hi:a.size=i
  ·subst hi
   simp [h]
  ·rw [if_neg hi,Array.getElem?_push,Array.getElem?_push,if_neg (Ne.symm hi),if_neg (Ne.symm hi)]
 exact congrArg (fun h=>({ w with heap:=h }:World)) (h w.heap _ _ _ rfl)
set_option maxHeartbeats 4000000 in
theorem ZB4 (s:ByteArray) (w:World) (hs:s.size≤maxLen):Calls Tryz.prog 39 #[.string s] w (fun e w'=>e=.returned (.string (upT s))∧Below w.heap.size w w'):=by
 have hz:s.size≤9223372036854775807:=hs
 have hcv:∀ W:World,(convert 9 22 (.string s)).run Tryz.prog W=.ok (.slice (some ⟨W.heap.size,0,none⟩) s.size (grownCap W s.size 0 5)) (W.drew.alloc (.cells (bytesRow s (grownCap W s.size 0 5)) 5 ((bytesRow s (grownCap W s.size 0 5)).size,(bytesRow s (grownCap W s.size 0 5)).size + 1))) :=
  fun W=>run_bytes_of_string W _ _ _ s Tryz.underlying9 Tryz.underlying22 Tryz.underlying5
 go_enter Tryz.func39,Tryz.ntmps39
 go_wp2
 clear hcv
 obtain ⟨cap,hcap⟩:∃ cap,grownCap w s.size 0 5=cap:=⟨_,rfl⟩
 simp only [hcap]
 go_loopw [10] (fun i wr=>∃ (k:Nat) (arr:Array Value) (d:Nat),k≤s.size∧i=.int .i64 k∧wr=ext (w.alloc (.cells arr 5 (arr.size,arr.size + 1))) #[] d∧Zy1 s arr k) (fun i _=>s.size - (intOf i).toNat)
 case atStart=>exact ⟨0,_,w.drawn + 1,Nat.zero_le _,rfl,by simp [ext]; rfl,Zpe s cap⟩
 case round =>
  obtain ⟨k,arr,d,hk,rfl,rfl,hu⟩:=hrel
  have HU:=Lib.hid hu
  by_cases hlt:k < s.size
  ·have hb:=ZjJ s k
   obtain ⟨x,hx⟩:∃ x,Zap s k=x:=⟨_,rfl⟩
   have HX:=Lib.hid hx
   rw [hx] at hb
   have a0:arr[k]?=some (.int .u8 x):=by rw [hu.2 k hlt,if_neg (Nat.lt_irrefl k),hx]
   have hsz:k < arr.size:=by have:=hu.1; omega
   have g0:(ext (w.alloc (.cells arr 5 (arr.size,arr.size + 1))) #[] d).heap[w.heap.size]?=some (.cells arr 5 (arr.size,arr.size + 1)):=by
    exact Zo7
   have c0:(ext (w.alloc (.cells arr 5 (arr.size,arr.size + 1))) #[] d).cell? ⟨w.heap.size,k,none⟩=some (.int .u8 x):=by
    unfold World.cell?
    rw [g0]
    exact a0
   have f0:(ext (w.alloc (.cells arr 5 (arr.size,arr.size + 1))) #[] d).frozen? ⟨w.heap.size,k,none⟩=false:=by
    unfold World.frozen?
    rw [g0]
    simp
    omega
   clear g0
   clear hu hx
   go_wp2
   ·refine ⟨⟨k + 1,arr.setIfInBounds k (.int .u8 (x - 97 + 65)),d,by omega,by simp,?_,?_⟩,by simp [intOf]; omega⟩
    ·rw [Zpf,Array.size_setIfInBounds]
    ·have h:=Zwq HU.out hlt
     rw [HX.out,show upI x=x - 97 + 65 by unfold upI; rw [if_pos (by omega)]; omega] at h
     exact h
   all_goals exact Zvw
  ·exact ZuT
theorem ZEY (s:ByteArray):Zaq Tryz.prog 39 [.c (.str s)] (.c (.str (upT s))) []:=by
 intro X W vs hX hgl hr
 obtain ⟨v,r,rfl,⟨rfl,hw⟩,hn⟩:=hr
 obtain rfl:r=[]:=hn
 refine (ZB4 s W hw).mono fun e W' he=>?_
 exact Zu3
def Zfx:ZaD Tryz.prog:=⟨39,[.v Zah],fun x=>True,fun x=>.c (.str (upT x.1)),fun _=>[],fun x _=>ZEY x.1,Tryz.call39⟩
set_option maxHeartbeats 4000000 in
theorem Zy2 (s:ByteArray) (w:World) (hs:s.size≤maxLen):Calls Tryz.prog 37 #[.string s] w (fun e w'=>e=.returned (.string (upT s))∧Below w.heap.size w w'):=by
 have hz:s.size≤9223372036854775807:=hs
 have hcv:∀ W:World,(convert 9 22 (.string s)).run Tryz.prog W=.ok (.slice (some ⟨W.heap.size,0,none⟩) s.size (grownCap W s.size 0 5)) (W.drew.alloc (.cells (bytesRow s (grownCap W s.size 0 5)) 5 ((bytesRow s (grownCap W s.size 0 5)).size,(bytesRow s (grownCap W s.size 0 5)).size + 1))) :=
  fun W=>run_bytes_of_string W _ _ _ s Tryz.underlying9 Tryz.underlying22 Tryz.underlying5
 go_enter Tryz.func37,Tryz.ntmps37
 go_wp2
 clear hcv
 obtain ⟨cap,hcap⟩:∃ cap,grownCap w s.size 0 5=cap:=⟨_,rfl⟩
 simp only [hcap]
 go_loopw [4] (fun i wr=>∃ (k:Nat) (arr:Array Value) (d:Nat),k≤s.size∧i=.int .i64 k∧wr=ext (w.alloc (.cells arr 5 (arr.size,arr.size + 1))) #[] d∧Zy1 s arr k) (fun i _=>s.size - (intOf i).toNat)
 case atStart=>exact ⟨0,_,w.drawn + 1,Nat.zero_le _,rfl,by simp [ext]; rfl,Zpe s cap⟩
 case round =>
  obtain ⟨k,arr,d,hk,rfl,rfl,hu⟩:=hrel
  have HU:=Lib.hid hu
  by_cases hlt:k < s.size
  ·have hb:=ZjJ s k
   obtain ⟨x,hx⟩:∃ x,Zap s k=x:=⟨_,rfl⟩
   have HX:=Lib.hid hx
   rw [hx] at hb
   have a0:arr[k]?=some (.int .u8 x):=by rw [hu.2 k hlt,if_neg (Nat.lt_irrefl k),hx]
   have hsz:k < arr.size:=by have:=hu.1; omega
   have g0:(ext (w.alloc (.cells arr 5 (arr.size,arr.size + 1))) #[] d).heap[w.heap.size]?=some (.cells arr 5 (arr.size,arr.size + 1)):=by
    exact Zo7
   have c0:(ext (w.alloc (.cells arr 5 (arr.size,arr.size + 1))) #[] d).cell? ⟨w.heap.size,k,none⟩=some (.int .u8 x):=by
    unfold World.cell?
    rw [g0]
    exact a0
   have f0:(ext (w.alloc (.cells arr 5 (arr.size,arr.size + 1))) #[] d).frozen? ⟨w.heap.size,k,none⟩=false:=by
    unfold World.frozen?
    rw [g0]
    simp
    omega
   clear g0
   clear hu hx
   go_wp2
   ·refine ⟨⟨k + 1,arr.setIfInBounds k (.int .u8 (x - 32)),d,by omega,by simp,?_,?_⟩,by simp [intOf]; omega⟩
    ·rw [Zpf,Array.size_setIfInBounds]
    ·have h:=Zwq HU.out hlt
     rw [HX.out,show upI x=x - 32 by unfold upI; rw [if_pos (by omega)]] at h
     exact h
   all_goals exact Zvw
  ·exact ZuT
theorem ZEZ (s:ByteArray):Zaq Tryz.prog 37 [.c (.str s)] (.c (.str (upT s))) []:=by
 intro X W vs hX hgl hr
 obtain ⟨v,r,rfl,⟨rfl,hw⟩,hn⟩:=hr
 obtain rfl:r=[]:=hn
 refine (Zy2 s W hw).mono fun e W' he=>?_
 exact Zu3
def Zk2:ZaD Tryz.prog:=⟨37,[.v Zah],fun x=>True,fun x=>.c (.str (upT x.1)),fun _=>[],fun x _=>ZEZ x.1,Tryz.call37⟩
end Go.Proofs.YtkeglpnnedflnaaGreatDoor
