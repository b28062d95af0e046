import Derived.Test.YtkeglpnnedflnaaGreatDoorPTypes
import Derived.Laws.BytesArg
import Derived.Test.YtkeglpnnedflnaaGreatDoorPLawA
set_option maxRecDepth 100000
namespace Go.Proofs.YtkeglpnnedflnaaGreatDoor
open Go.ChangeShapes Go.WideShapes Go.ChangeAt Go.RowKit Go.Joins Go.Deep
open GoRep (rep bulk)
open GoMark (mrk cnt mrkI cntI)
theorem ZGD (W:World) (b:Nat) (hb:b=W.heap.size) (m:Int) (h0:0≤m) :
 (convert 22 9 (.slice (some ⟨b,0,none⟩) 1 1)).run Tryz.prog (W.alloc (.cells #[.int .u8 (48 + m % 10)] 5)) =
  .ok (.string ⟨#[dgt m.toNat]⟩) (W.alloc (.cells #[.int .u8 (48 + m % 10)] 5)):=by
 subst hb
 have h:=run_convert_bytes_arg (P:=Tryz.prog) (W.alloc (.cells #[.int .u8 (48 + m % 10)] 5)) 22 5 Tryz.underlying22 Tryz.underlying5 W.heap.size 0 1 1 [48 + m % 10] rfl
  (fun i hi=>by
   obtain rfl:i=0:=by omega
   simp) 9 Tryz.underlying9
 have e:strOfNums [48 + m % 10]=⟨#[dgt m.toNat]⟩:=by
  unfold strOfNums dgt
  have e1:(48 + m % 10).toNat=48 + m.toNat % 10:=by omega
  simp only [List.map_cons,List.map_nil,e1]
 rw [h,e]
set_option maxHeartbeats 400000 in
theorem ZBY (k:Int) (w:World) (h0:0≤k) (h1:k≤4611686018427387904) :
 Calls Tryz.prog 73 #[.int .i64 k] w (RV (.string (ZiF k)) w):=by
 by_cases hk:k≤0
 ·have H:=Lib.hid (show ZiF k=⟨#[109,48]⟩ by simp [ZiF,hk])
  go_enter Tryz.func73,Tryz.ntmps73
  go_wp2
  go_ret
  exact RV.mk (ZEI H.out.symm) (by repeat (first | exact Below.refl _ _ | refine ZGM ?_ _ | refine Zwp ?_ _ _ | refine Below.drew ?_ | assumption | refine ZJB ?_ (by assumption)))
 ·go_enter Tryz.func73,Tryz.ntmps73
  go_wp2
  go_loopw [0,3] (fun i s wr=>∃ (m:Int) (l:List UInt8) (E:Array Obj) (d:Nat),0≤m∧m≤k∧ZBW k.toNat=ZBW m.toNat ++ l∧i=.int .i64 m∧s=.string ⟨l.toArray⟩∧wr=ext w E d) (fun i _ _=>(intOf i).toNat)
  case atStart=>exact ⟨k,[],#[],w.drawn,h0,by omega,by simp,rfl,rfl,by simp [ext]⟩
  case round =>
   obtain ⟨m,l,E,d,hm0,hmk,hd,rfl,rfl,rfl⟩:=hrel
   have HD:=Lib.hid hd
   clear hd
   by_cases hlt:0 < m
   ·have hcv:=ZGD (ext w E d) (w.heap.size + E.size) (by simp) m hm0
    have HP:=Lib.hid (ZAe (k:=m.toNat) (by omega))
    have hll:l.length≤4611686018427387904:=by
     exact Zvy
    have HK:=Lib.hid (show ZBW k.toNat=ZBW (m / 10).toNat ++ (dgt m.toNat :: l) by
     rw [HD.out,HP.out,show (m / 10).toNat=m.toNat / 10 from by omega]; simp)
    go_wp2
    go_roundw
    case rel=>exact ⟨m / 10,dgt m.toNat :: l,_,d,by omega,by omega,HK.out,rfl,congrArg Value.string (ZuL [dgt m.toNat] l),Zwo _ _ _ _⟩
    case measure=>simp [intOf]; omega
   ·have hm:m=0:=by omega
    subst hm
    have HM:=Lib.hid (show ZiF k=⟨(109 :: l).toArray⟩ by unfold ZiF; rw [if_neg (by omega),HD.out]; simp [ZuM])
    have hll:l.length≤4611686018427387904:=by
     exact Zvy
    go_wp2
    go_ret
    refine RV.mk (ZEI ?_) (by repeat (first | exact Below.refl _ _ | refine ZGM ?_ _ | refine Zwp ?_ _ _ | refine Below.drew ?_ | assumption | refine ZJB ?_ (by assumption)))
    rw [HM.out]
    exact ZuL [109] l
set_option linter.unusedSimpArgs false
set_option linter.unusedVariables false
abbrev ZEz (k:Int):Prop:=0≤k∧k≤4611686018427387904
theorem ZoM (W:World) (E:Array Obj) (d:Nat):Zbb W [] (ext W E d) []:=by
 have h:=Zwp (Below.refl W.heap.size W) E d
 exact ⟨h.os,h.tape,h.output,h.size,fun k hk _=>h.block k hk,fun b hb=>by simp [foots] at hb,fun i e he=>by simp at he⟩
theorem ZuO (k:Int) (h:ZEz k):Zaq Tryz.prog 73 [.c (.int .i64 k)] (.c (.str (ZiF k))) []:=by
 intro X W vs hX _ hr
 obtain ⟨v,r,rfl,⟨rfl,hw⟩,hn⟩:=hr
 obtain rfl:r=[]:=hn
 refine (ZBY k W h.1 h.2).mono fun e W' he=>?_
 obtain ⟨rfl,E,d,rfl⟩:=he
 refine ⟨_,[],rfl,ZoM W E d,⟨rfl,by simp [foots],fun i b e hb=>by simp at hb,by simp [foots],by simp [foots],fun b hb=>Nat.lt_of_lt_of_le (hX b hb) (ZoM W E d).size⟩,rfl,ZBX h.2⟩
def Zh1:ZaD Tryz.prog:=⟨73,[.v ZaF],fun x=>ZEz x.1,fun x=>.c (.str (ZiF x.1)),fun _=>[],fun x hx=>ZuO x.1 hx,Tryz.call73⟩
end Go.Proofs.YtkeglpnnedflnaaGreatDoor
