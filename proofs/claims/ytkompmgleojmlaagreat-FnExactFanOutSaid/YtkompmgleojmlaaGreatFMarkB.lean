import Derived.Test.YtkompmgleojmlaaGreatFTypes
import Derived.Laws.BytesArg
import Derived.Test.YtkompmgleojmlaaGreatFLawA
set_option maxRecDepth 100000
namespace Go.Proofs.YtkompmgleojmlaaGreat
open Go.ChangeShapes Go.WideShapes Go.ChangeAt Go.RowKit Go.Joins Go.Deep
open GoRep (rep bulk)
open GoMark (mrk cnt mrkI cntI)
theorem ZGY (W:World) (b:Nat) (hb:b=W.heap.size) (m:Int) (h0:0≤m) :
    (convert 216 9 (.slice (some ⟨b,0,none⟩) 1 1)).run Tryz.prog (W.alloc (.cells #[.int .u8 (48 + m % 10)] 5)) =
      .ok (.string ⟨#[dgt m.toNat]⟩) (W.alloc (.cells #[.int .u8 (48 + m % 10)] 5)):=by
  subst hb
  have h:=run_convert_bytes_arg (P:=Tryz.prog) (W.alloc (.cells #[.int .u8 (48 + m % 10)] 5)) 216 5 Tryz.underlying216 Tryz.underlying5 W.heap.size 0 1 1 [48 + m % 10] rfl
    (fun i hi=>by
      obtain rfl:i=0:=by omega
      simp) 9 Tryz.underlying9
  have e:strOfNums [48 + m % 10]=⟨#[dgt m.toNat]⟩:=by
    unfold strOfNums dgt
    have e1:(48 + m % 10).toNat=48 + m.toNat % 10:=by omega
    simp only [List.map_cons,List.map_nil,e1]
  rw [h,e]
set_option maxHeartbeats 400000 in
theorem ZCP (k:Int) (w:World) (h0:0≤k) (h1:k≤4611686018427387904) :
    Calls Tryz.prog 130 #[.int .i64 k] w (RV (.string (Zb3 k)) w):=by
  by_cases hk:k≤0
  · have H:=Lib.hid (show Zb3 k=⟨#[109,48]⟩ by simp [Zb3,hk])
    go_enter Tryz.func130,Tryz.ntmps130
    go_wp2
    go_ret
    exact RV.mk (ZE9 H.out.symm) (by repeat (first | exact Below.refl _ _ | refine ZH7 ?_ _ | refine ZA0 ?_ _ _ | refine Below.drew ?_ | assumption | refine ZJa ?_ (by assumption)))
  · go_enter Tryz.func130,Tryz.ntmps130
    go_wp2
    go_loopw [0,3] (fun i s wr=>∃ (m:Int) (l:List UInt8) (E:Array Obj) (d:Nat),0≤m∧m≤k∧ZCN k.toNat=ZCN m.toNat ++ l∧i=.int .i64 m∧s=.string ⟨l.toArray⟩∧wr=ext w E d) (fun i _ _=>(intOf i).toNat)
    case atStart=>exact ⟨k,[],#[],w.drawn,h0,by omega,by simp,rfl,rfl,by simp [ext]⟩
    case round =>
      obtain ⟨m,l,E,d,hm0,hmk,hd,rfl,rfl,rfl⟩:=hrel
      have HD:=Lib.hid hd
      clear hd
      by_cases hlt:0 < m
      · have hcv:=ZGY (ext w E d) (w.heap.size + E.size) (by simp) m hm0
        have HP:=Lib.hid (ZAY (k:=m.toNat) (by omega))
        have hll:l.length≤4611686018427387904:=by
          exact ZwB
        have HK:=Lib.hid (show ZCN k.toNat=ZCN (m / 10).toNat ++ (dgt m.toNat :: l) by
          rw [HD.out,HP.out,show (m / 10).toNat=m.toNat / 10 from by omega]; simp)
        go_wp2
        go_roundw
        case rel=>exact ⟨m / 10,dgt m.toNat :: l,_,d,by omega,by omega,HK.out,rfl,congrArg Value.string (ZvA [dgt m.toNat] l),Zxh _ _ _ _⟩
        case measure=>simp [intOf]; omega
      · have hm:m=0:=by omega
        subst hm
        have HM:=Lib.hid (show Zb3 k=⟨(109 :: l).toArray⟩ by unfold Zb3; rw [if_neg (by omega),HD.out]; simp [ZvB])
        have hll:l.length≤4611686018427387904:=by
          exact ZwB
        go_wp2
        go_ret
        refine RV.mk (ZE9 ?_) (by repeat (first | exact Below.refl _ _ | refine ZH7 ?_ _ | refine ZA0 ?_ _ _ | refine Below.drew ?_ | assumption | refine ZJa ?_ (by assumption)))
        rw [HM.out]
        exact ZvA [109] l
set_option linter.unusedSimpArgs false
set_option linter.unusedVariables false
abbrev Zfx (k:Int):Prop:=0≤k∧k≤4611686018427387904
theorem Zpr (W:World) (E:Array Obj) (d:Nat):Zbz W [] (ext W E d) []:=by
  have h:=ZA0 (Below.refl W.heap.size W) E d
  exact ⟨h.os,h.tape,h.output,h.size,fun k hk _=>h.block k hk,fun b hb=>by simp [foots] at hb,fun i e he=>by simp at he⟩
theorem ZvD (k:Int) (h:Zfx k):Zat Tryz.prog 130 [.c (.int .i64 k)] (.c (.str (Zb3 k))) []:=by
  intro X W vs hX _ hr
  obtain ⟨v,r,rfl,⟨rfl,hw⟩,hn⟩:=hr
  obtain rfl:r=[]:=hn
  refine (ZCP k W h.1 h.2).mono fun e W' he=>?_
  obtain ⟨rfl,E,d,rfl⟩:=he
  refine ⟨_,[],rfl,Zpr W E d,⟨rfl,by simp [foots],fun i b e hb=>by simp at hb,by simp [foots],by simp [foots],fun b hb=>Nat.lt_of_lt_of_le (hX b hb) (Zpr W E d).size⟩,rfl,ZCO h.2⟩
def Zb0:ZaI Tryz.prog:=⟨130,[.v ZaC],fun x=>Zfx x.1,fun x=>.c (.str (Zb3 x.1)),fun _=>[],fun x hx=>ZvD x.1 hx,Tryz.call130⟩
end Go.Proofs.YtkompmgleojmlaaGreat
