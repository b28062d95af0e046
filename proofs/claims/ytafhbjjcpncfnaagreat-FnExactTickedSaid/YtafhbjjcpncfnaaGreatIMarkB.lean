import Derived.Test.YtafhbjjcpncfnaaGreatITypes
import Derived.Laws.BytesArg
import Derived.Test.YtafhbjjcpncfnaaGreatILawA
set_option maxRecDepth 100000
namespace Go.Proofs.YtafhbjjcpncfnaaGreat
open Go.ChangeShapes Go.WideShapes Go.ChangeAt Go.RowKit Go.Joins Go.Deep
open GoRep (rep bulk)
open GoMark (mrk cnt mrkI cntI)
theorem ZLt (W:World) (b:Nat) (hb:b=W.heap.size) (m:Int) (h0:0≤m) :
 (convert 175 9 (.slice (some ⟨b,0,none⟩) 1 1)).run Tryz.prog (W.alloc (.cells #[.int .u8 (48 + m % 10)] 5)) =
  .ok (.string ⟨#[dgt m.toNat]⟩) (W.alloc (.cells #[.int .u8 (48 + m % 10)] 5)):=by
 subst hb
 have h:=run_convert_bytes_arg (P:=Tryz.prog) (W.alloc (.cells #[.int .u8 (48 + m % 10)] 5)) 175 5 Tryz.underlying175 Tryz.underlying5 W.heap.size 0 1 1 [48 + m % 10] rfl
  (fun i hi=>by
   obtain rfl:i=0:=by omega
   simp) 9 Tryz.underlying9
 have e:strOfNums [48 + m % 10]=⟨#[dgt m.toNat]⟩:=by
  unfold strOfNums dgt
  have e1:(48 + m % 10).toNat=48 + m.toNat % 10:=by omega
  simp only [List.map_cons,List.map_nil,e1]
 rw [h,e]
set_option maxHeartbeats 400000 in
theorem ZHa (k:Int) (w:World) (h0:0≤k) (h1:k≤4611686018427387904) :
 Calls Tryz.prog 58 #[.int .i64 k] w (RV (.string (Zcs k)) w):=by
 by_cases hk:k≤0
 ·have H:=Lib.hid (show Zcs k=⟨#[109,48]⟩ by simp [Zcs,hk])
  go_enter Tryz.func58,Tryz.ntmps58
  go_wp2
  go_ret
  exact RV.mk (ZJt H.out.symm) (by repeat (first | exact Below.refl _ _ | refine ZLv ?_ _ | refine ZAK ?_ _ _ | refine Below.drew ?_ | assumption | refine ZMK ?_ (by assumption)))
 ·go_enter Tryz.func58,Tryz.ntmps58
  go_wp2
  go_loopw [0,3] (fun i s wr=>∃ (m:Int) (l:List UInt8) (E:Array Obj) (d:Nat),0≤m∧m≤k∧ZG8 k.toNat=ZG8 m.toNat ++ l∧i=.int .i64 m∧s=.string ⟨l.toArray⟩∧wr=ext w E d) (fun i _ _=>(intOf i).toNat)
  case atStart=>exact ⟨k,[],#[],w.drawn,h0,by omega,by simp,rfl,rfl,by simp [ext]⟩
  case round =>
   obtain ⟨m,l,E,d,hm0,hmk,hd,rfl,rfl,rfl⟩:=hrel
   have HD:=Lib.hid hd
   clear hd
   by_cases hlt:0 < m
   ·have hcv:=ZLt (ext w E d) (w.heap.size + E.size) (by simp) m hm0
    have HP:=Lib.hid (ZFf (k:=m.toNat) (by omega))
    have hll:l.length≤4611686018427387904:=by
     exact ZzX
    have HK:=Lib.hid (show ZG8 k.toNat=ZG8 (m / 10).toNat ++ (dgt m.toNat :: l) by
     rw [HD.out,HP.out,show (m / 10).toNat=m.toNat / 10 from by omega]; simp)
    go_wp2
    go_roundw
    case rel=>exact ⟨m / 10,dgt m.toNat :: l,_,d,by omega,by omega,HK.out,rfl,congrArg Value.string (ZyL [dgt m.toNat] l),ZAJ _ _ _ _⟩
    case measure=>simp [intOf]; omega
   ·have hm:m=0:=by omega
    subst hm
    have HM:=Lib.hid (show Zcs k=⟨(109 :: l).toArray⟩ by unfold Zcs; rw [if_neg (by omega),HD.out]; simp [ZyM])
    have hll:l.length≤4611686018427387904:=by
     exact ZzX
    go_wp2
    go_ret
    refine RV.mk (ZJt ?_) (by repeat (first | exact Below.refl _ _ | refine ZLv ?_ _ | refine ZAK ?_ _ _ | refine Below.drew ?_ | assumption | refine ZMK ?_ (by assumption)))
    rw [HM.out]
    exact ZyL [109] l
set_option linter.unusedSimpArgs false
set_option linter.unusedVariables false
abbrev Zgu (k:Int):Prop:=0≤k∧k≤4611686018427387904
theorem Zrp (W:World) (E:Array Obj) (d:Nat):ZbU W [] (ext W E d) []:=by
 have h:=ZAK (Below.refl W.heap.size W) E d
 exact ⟨h.os,h.tape,h.output,h.size,fun k hk _=>h.block k hk,fun b hb=>by simp [foots] at hb,fun i e he=>by simp at he⟩
theorem ZyO (k:Int) (h:Zgu k):Zao Tryz.prog 58 [.c (.int .i64 k)] (.c (.str (Zcs k))) []:=by
 intro X W vs hX _ hr
 obtain ⟨v,r,rfl,⟨rfl,hw⟩,hn⟩:=hr
 obtain rfl:r=[]:=hn
 refine (ZHa k W h.1 h.2).mono fun e W' he=>?_
 obtain ⟨rfl,E,d,rfl⟩:=he
 refine ⟨_,[],rfl,Zrp W E d,⟨rfl,by simp [foots],fun i b e hb=>by simp at hb,by simp [foots],by simp [foots],fun b hb=>Nat.lt_of_lt_of_le (hX b hb) (Zrp W E d).size⟩,rfl,ZG9 h.2⟩
def Zck:ZaE Tryz.prog:=⟨58,[.v Zax],fun x=>Zgu x.1,fun x=>.c (.str (Zcs x.1)),fun _=>[],fun x hx=>ZyO x.1 hx,Tryz.call58⟩
end Go.Proofs.YtafhbjjcpncfnaaGreat
