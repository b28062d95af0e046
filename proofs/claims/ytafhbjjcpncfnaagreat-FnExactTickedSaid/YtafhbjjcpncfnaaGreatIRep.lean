import Derived.Test.YtafhbjjcpncfnaaGreatProg
import Derived.KernelRfl
import GoSem.Claim
import GoSem.ClaimJoined
import GoSem.ClaimMapViews
import Derived.JoinedTies
import Derived.WalkKit
import Derived.ProofKit
import Derived.OpenShut
import Derived.BigQuiet
import Derived.StillTailTactics
import Derived.RegionTactic
import Derived.Deep.RegionHeld3
import Derived.Deep.RegionWith
import Derived.ChangeAlike
import Derived.Deep.QuietTactic
import Derived.Lib.Hide
import Derived.WalkLawsBesides
import Derived.WalkSpells
import Derived.Lib.SmallJoins
import Derived.Deep.Slices
import Derived.Deep.Draws
import Derived.Laws.OwnMore
import Derived.ShutString
namespace Go.Proofs.YtafhbjjcpncfnaaGreat
theorem ZyP {P:Prop} (h:P:=by
 obtain ⟨w4,E4,rfl,g5,m4,hv4⟩:=h
 obtain rfl:=ZAP m4
 have hwf:(Lit.int .i64 (boxW L v)).wf=true:=hv4.2
 obtain rfl:w4=.int .i64 (boxW L v):=hv4.1
 have g6:=g4.trans g5
 have k4:W4.heap[b1]?=some (.cells Z 138 (0,0)):=(g5.keep b1 (Nat.lt_of_lt_of_le z2 g3.size) (by simp [foots])).trans ((g3.keep b1 z2 (by simp [foots])).trans K2.out)
 have l0:W4.cell? ⟨b1,0,none⟩=some (.string ⟨#[]⟩):=ZcQ k4 (by rw [KZ.out]; rfl)
 have l1:W4.cell? ⟨b1,1,none⟩=some (.int .i64 0):=ZcQ k4 (by rw [KZ.out]; rfl)
 have l2:W4.cell? ⟨b1,2,none⟩=some (.int .i64 0):=ZcQ k4 (by rw [KZ.out]; rfl)
 have l3:W4.cell? ⟨b1,3,none⟩=some (.slice none 0 0):=ZcQ k4 (by rw [KZ.out]; rfl)
 have fz:∀ o,W4.frozen? ⟨b1,o,none⟩=false:=fun o=>by simp [World.frozen?,k4]
 clear m4
 have K4:=Lib.hid k4
 clear k4
 by_cases hneg:boxW L v < 0
 ·go_wp2_with fail
  obtain ⟨kf,gf,_⟩:=ZwE (x0:=.string ⟨#[]⟩) (x1:=.int .i64 0) (x2:=.int .i64 0) (x3:=.slice none 0 0) (by have:=K4.out; rw [KZ.out] at this; exact this) g6 zb
  obtain ⟨Wf,hWf⟩:∃ Wf,Wf=((((W4.setCell ⟨b1,0,none⟩ (.string ⟨#[]⟩)).setCell ⟨b1,1,none⟩ (.int .i64 0)).setCell ⟨b1,2,none⟩ (.int .i64 0)).setCell ⟨b1,3,none⟩ (.slice none 0 0)):=⟨_,rfl⟩
  rw [← hWf] at kf gf ⊢
  clear hWf l0 l1 l2 l3
  have l0:Wf.cell? ⟨b1,0,none⟩=some (.string ⟨#[]⟩):=ZcQ kf rfl
  have l1:Wf.cell? ⟨b1,1,none⟩=some (.int .i64 0):=ZcQ kf rfl
  have l2:Wf.cell? ⟨b1,2,none⟩=some (.int .i64 0):=ZcQ kf rfl
  have l3:Wf.cell? ⟨b1,3,none⟩=some (.slice none 0 0):=ZcQ kf rfl
  have hbx:Zlu st v n=(Zq8,false):=by
   unfold Zlu
   rw [← KL.out,if_pos hneg]
  rw [hbx]
  obtain ⟨E',x1,x2,x3⟩:=ZHH (X:=X) (ms:=[]) (sv:=.slice none 0 0) (F:=[]) gf ⟨0,[],[],World.ownsRow_nil _ 0 0 _,⟨rfl,rfl⟩,rfl⟩ List.nodup_nil (fun b hb=>by cases hb) hsz
  refine bodyPost_ret (v:=.tuple #[.agg #[.string ⟨#[]⟩, .int .i64 0, .int .i64 0, .slice none 0 0], .bool false]) ?_ rfl ⟨_,E',rfl,x1,x2,⟨_,rfl,_,_,rfl,⟨_,rfl,_,_,rfl,⟨rfl,Nat.zero_le _⟩,_,_,rfl,⟨rfl,rfl⟩,_,_,rfl,⟨rfl,rfl⟩,_,_,rfl,x3,rfl⟩,_,_,rfl,rfl,rfl⟩⟩
  rw [results_cell_tmp rfl]
  go_simp
 ·have hw:=Zri L v
  obtain ⟨k,hk⟩:∃ k:Nat,boxW L v=(k:Int):=⟨(boxW L v).toNat,by omega⟩
  have hkl:k < @List.length ZaO L:=by omega
  rcases H3.out.2 with ⟨_,y2⟩ | ⟨g,cap,cur,y1,y2,y3,y4,y5,y6,y7⟩
  ·exact absurd y2 (show @List.length ZaO L ≠ 0 by omega)
  obtain ⟨rfl,rfl⟩:A3=some ⟨g,0,none⟩∧c3=cap:=by
   have h:=H6.out
   rw [y1] at h
   injection h with e1 e2 e3
   exact ⟨e1.symm,e3.symm⟩
  have hg3:g < W3.heap.size:=(Array.getElem?_eq_some_iff.1 y3).1
  have hxk:L[k]?=some (Zab L k):=Zat (t:=Zaj) hkl
  obtain ⟨c0,cx,cy,G0,G1,G2,t1,t2,t3,t4,t5,t6⟩:=H4.out.split (n:=Zaj.n) (fun x cs F h=>Zbv.len Zaj h) k hxk
  obtain ⟨ca,cb,Fa,Fb,⟨rfl,wa,rfl⟩,⟨cc,cd,Fc,Fd,⟨rfl,wb,rfl⟩,⟨ce,cf,Fe,Ff,⟨rfl,wc,rfl⟩,⟨sv,rfl,hsv⟩,rfl,rfl⟩,rfl,rfl⟩,rfl,rfl⟩:=t5
  have t3:c0.length=k * 4:=t3
  have hcur:∀ q u,q < 4→[Value.string (Zab L k).1, .int .i64 (Zab L k).2.1, .int .i64 (Zab L k).2.2.1,sv][q]?=some u→W3.cell? ⟨g,k * 4 + q,none⟩=some u:=fun q u hq hu=>by
   have h1:(cur.toList.take (@List.length ZaO L * 4))[k * 4 + q]?=some u:=by
    rw [show List.take (@List.length ZaO L * 4) cur.toList=cells from y7,t1,List.append_assoc,List.getElem?_append_right (by omega),t3,Nat.add_sub_cancel_left,List.getElem?_append_left (by show q < 4; exact hq)]
    exact hu
   rw [List.getElem?_take] at h1
   split at h1
   ·exact ZcQ y3 (by simpa using h1)
   ·cases h1
  obtain ⟨As,ns,cs',hse⟩:∃ A n c,sv=.slice A n c:=by
   obtain ⟨Tm,cm,Gm,r1,r2,r3⟩:=id hsv
   obtain ⟨A,c,r4,_⟩:=Zg4 (t:=ZaR) r1
   exact ⟨A,_,c,r4⟩
  subst hse
  have n0:W4.cell? ⟨g,k * 4,none⟩=some (.string (Zab L k).1):=(Zdo (g5.keep g hg3 (by simp [foots]))).trans (hcur 0 _ (by omega) rfl)
  have n1:W4.cell? ⟨g,k * 4 + 1,none⟩=some (.int .i64 (Zab L k).2.1):=(Zdo (g5.keep g hg3 (by simp [foots]))).trans (hcur 1 _ (by omega) rfl)
  have n2:W4.cell? ⟨g,k * 4 + 2,none⟩=some (.int .i64 (Zab L k).2.2.1):=(Zdo (g5.keep g hg3 (by simp [foots]))).trans (hcur 2 _ (by omega) rfl)
  have n3:W4.cell? ⟨g,k * 4 + 3,none⟩=some (.slice As ns cs'):=(Zdo (g5.keep g hg3 (by simp [foots]))).trans (hcur 3 _ (by omega) rfl)
  have i0:(0:Int)≤(k:Int):=by omega
  have i1:(k:Int) < (@List.length ZaO L:Int):=by omega
  have hfoot:foots [e3]=e3.val.ownBlock.toList ++ (G0 ++ G1 ++ G2):=by simp [foots,H5.out,t2]
  have hin:∀ b ∈ G1,b ∈ foots [e3]:=fun b hb=>by rw [hfoot]; simp [hb]
  have hnf:G1.Nodup:=by
   have:=H1.out.nodup
   rw [hfoot,List.nodup_append] at this
   have:=this.2.1
   rw [List.nodup_append] at this
   have:=this.1
   rw [List.nodup_append] at this
   simpa using this.2.1
  have hge2:∀ b ∈ G1,W2.heap.size≤b:=fun b hb=>(g3.new b (hin b hb)).resolve_left (by simp [foots])
  have hlt3:∀ b ∈ G1,b < W3.heap.size:=fun b hb=>H1.out.lt b (hin b hb)
  have hneg2:¬ ((k:Int) < 0):=by omega
  have M1:=Lib.hid hk
  have M2:=Lib.hid hsv
  have M3:=Lib.hid hneg
  have M4:=Lib.hid hge2
  have M5:=Lib.hid hlt3
  rw [hk]
  clear hcur y1 y2 y3 y4 y5 y6 y7 t1 t2 t3 t4 t6 hfoot hin hk hsv hneg hge2 hlt3 hw
  go_wp2_with fail
  obtain ⟨kf,gf,hq⟩:=ZwE (x0:=.string (Zab L k).1) (x1:=.int .i64 (Zab L k).2.1) (x2:=.int .i64 (Zab L k).2.2.1) (x3:=.slice As ns cs') (by have:=K4.out; rw [KZ.out] at this; exact this) g6 zb
  obtain ⟨Wf,hWf⟩:∃ Wf,Wf=((((W4.setCell ⟨b1,0,none⟩ (.string (Zab L k).1)).setCell ⟨b1,1,none⟩ (.int .i64 (Zab L k).2.1)).setCell ⟨b1,2,none⟩ (.int .i64 (Zab L k).2.2.1)).setCell ⟨b1,3,none⟩ (.slice As ns cs')):=⟨_,rfl⟩
  rw [← hWf] at kf gf hq ⊢
  clear hWf l0 l1 l2 l3
  have l0:Wf.cell? ⟨b1,0,none⟩=some (.string (Zab L k).1):=ZcQ kf rfl
  have l1:Wf.cell? ⟨b1,1,none⟩=some (.int .i64 (Zab L k).2.1):=ZcQ kf rfl
  have l2:Wf.cell? ⟨b1,2,none⟩=some (.int .i64 (Zab L k).2.2.1):=ZcQ kf rfl
  have l3:Wf.cell? ⟨b1,3,none⟩=some (.slice As ns cs'):=ZcQ kf rfl
  have hbx:Zlu st v n=(Zab L k,true):=by
   unfold Zlu
   rw [← KL.out,if_neg (Int.not_lt.2 M3.out),M1.out,Int.toNat_natCast]
  rw [hbx]
  have hof:Zcj Wf (Zbv Wf ZaR) ZaR.n (Zab L k).2.2.2 (.slice As ns cs') G1:=by
   obtain ⟨v0,hv0,ho0⟩:=Zbv.keep (W':=Wf) (.list ZaR) (x:=(Zab L k).2.2.2) (cs:=[.slice As ns cs']) (F:=G1) ⟨_,rfl,M2.out⟩ (fun b hb=>(hq b (fun e=>by have:=M4.out b hb; omega)).trans (g5.keep b (M5.out b hb) (by simp [foots])))
   obtain rfl:_=v0:=List.head_eq_of_cons_eq hv0
   exact ho0
  obtain ⟨E',x1,x2,x3⟩:=ZHH (X:=X) (ms:=(Zab L k).2.2.2) (sv:=.slice As ns cs') (F:=G1) gf hof hnf (fun b hb=>Nat.le_trans g2.size (M4.out b hb)) hsz
  refine bodyPost_ret (v:=.tuple #[.agg #[.string (Zab L k).1, .int .i64 (Zab L k).2.1, .int .i64 (Zab L k).2.2.1, .slice As ns cs'], .bool true]) ?_ rfl ⟨_,E',rfl,x1,x2,⟨_,rfl,_,_,rfl,⟨_,rfl,_,_,rfl,⟨rfl,wa⟩,_,_,rfl,⟨rfl,wb⟩,_,_,rfl,⟨rfl,wc⟩,_,_,rfl,x3,rfl⟩,_,_,rfl,rfl,rfl⟩⟩
  rw [results_cell_tmp rfl]
  go_simp):P:=h
theorem ZmQ {P:Prop} (h:P:=by
 simp only [Zbu,ZbS,Zbn,Bool.not_true,Bool.not_false,Zeg,eq_self]
 repeat' (first | apply And.intro | intro _)
 all_goals first
  | trivial
  | omega
  | assumption
  | exact hp1.1
  | exact hp2.1
  | exact hp1.2 _ (by assumption)
  | exact hp2.2 _ (by assumption)
  | exact ⟨0,Nat.zero_le _,rfl,Eq.mpr (Za6 (t:=Zak)) rfl⟩
  | (unfold rowMax; omega)
  | (show 0 + _≤rowMax; unfold rowMax; omega)
  | exact List.take_of_length_le (by omega)
  | (rename_i y hy hlt; exact ⟨y + 1,by omega,by omega,Zbs (by unfold maxLen; omega),Eq.mpr (Za6 (t:=Zak)) (ZkV (Int.ofNat_lt.1 hlt))⟩)
  | (show List.length (List.take _ _) + 1≤rowMax; rw [List.length_take]; unfold rowMax; omega)
  | (rename_i y hy hlt; have h:=hp2 _ (List.mem_of_getElem? (Zat (t:=Zak) (Int.ofNat_lt.1 hlt))); unfold rowMax; first | exact Nat.le_trans h (by decide) | (show 0 + _≤_; rw [Nat.zero_add]; exact Nat.le_trans h (by decide)))):P:=h
theorem ZeW {P:Prop} (h:P:=by
 first
  | (with_reducible rfl)
  | (refine Eq.trans ?_ (ZwD _ _ (by omega)).symm; with_reducible rfl)
  | (repeat' (refine Prod.ext ?_ ?_)
     all_goals first
      | (with_reducible rfl)
      | (simp only [GXA]; first | done | omega | (congr 1; done) | (congr 1; omega) | (rw [Zan (by omega),decide_eq_decide]; omega))
      | rfl)):P:=h
theorem ZcG {P:Prop} (h:P:=by
 simp only [SIA,eq_self]
 repeat' (first | apply And.intro | intro _)
 all_goals (first | trivial | omega)):P:=h
theorem ZeX {P:Prop} (h:P:=by
 repeat' (first | apply And.intro | intro _)
 all_goals first
  | trivial
  | omega
  | contradiction
  | (refine ⟨k + 1,hlt,by omega,?_,?_⟩ <;> first | omega | exact Zbs (by unfold maxLen; omega))
  | exact Eq.symm (by assumption)
  | (exfalso; simp_all; done)):P:=h
theorem Zet {P:Prop} (h:P:=by
 simp only [SIA,eq_self]
 repeat' (first | apply And.intro | intro _)
 all_goals (first | trivial | (rw [Bool.eq_iff_iff]; simp_all [Prod.ext_iff,EQA]; done) | (simp_all [Prod.ext_iff,EQA]; done) | omega)):P:=h
theorem ZyQ {P:Prop} (h:P:=by
 simp only [Zbu,ZbS,Zbn,Bool.not_true,Bool.not_false,Zeg,eq_self]
 have hml:List.length log≤maxLen:=hwf.2.1.1
 unfold maxLen at hml
 refine ⟨hpre,⟨(0,l),⟨Nat.zero_le _,hpre,rfl⟩,rfl,rfl⟩,fun ⟨k,ys⟩ ⟨h1,h2,h3⟩=>⟨fun hlt=>?_,fun hge=>?_⟩⟩
 ·have hlt:k < log.length:=by simpa using hlt
  have hd:Zdk ys (List.drop k log)=if ZfP ys (Zac log k)=true then Zdk (ZeU ys (Zac log k)) (List.drop (k + 1) log) else (ys,false):=by
   rw [List.drop_eq_getElem_cons hlt,← Zcb (t:=Zag) (List.getElem?_eq_getElem hlt)]
   rfl
  have h3:Zdk ys (List.drop k log)=Zdk l log:=h3
  rw [hd] at h3
  have h2:ZbZ ys:=h2
  have hp:∀ h:ZfP ys (Zac log k)=true,apB ys (Zac log k)=ZeU ys (Zac log k):=fun h=>by
   unfold apB
   rw [h]
   rfl
  first
   | refine ⟨⟨Int.natCast_nonneg _,by show ((k:Nat):Int) < _; omega⟩,fun hf=>?_,fun hf=>⟨hf,fun r1 _=>⟨(k + 1,ZeU ys (Zac log k)),⟨hlt,Zle hf,?_⟩,?_,Zbs (by show k + 1≤_; unfold maxLen; omega),rfl⟩⟩⟩
   | refine ⟨⟨Int.natCast_nonneg _,by show ((k:Nat):Int) < _; omega⟩,h2,fun hf=>?_,fun hf=>⟨(k + 1,ZeU ys (Zac log k)),⟨hlt,Zle hf,?_⟩,?_,Zbs (by show k + 1≤_; unfold maxLen; omega),hp hf⟩⟩
  ·have hf:ZfP ys (Zac log k)=false:=hf
   rw [if_neg (by rw [hf]; decide)] at h3
   rw [← h3]
   exact ⟨rfl,rfl⟩
  ·have hf:ZfP ys (Zac log k)=true:=hf
   rw [if_pos hf] at h3
   exact h3
  ·show _ - (k + 1) < _ - k
   omega
 ·obtain rfl:k=log.length:=by have:¬ ((k:Nat):Int) < _:=hge; omega
  have h3:Zdk ys (List.drop log.length log)=Zdk l log:=h3
  rw [List.drop_length] at h3
  rw [← h3]
  exact ⟨rfl,rfl⟩):P:=h
theorem ZyR {P:Prop} (h:P:=by
 refine Eq.mpr (β:=T8 (pt ((cB false (Zaz s).1∧cI 0 (Zaz s).2.1∧cI 0 (Zaz s).2.2.1∧cI 0 (Zaz s).2.2.2.1∧(Zaz s).2.2.2.2.1=[]∧cB false (Zaz s).2.2.2.2.2.1.1∧(Zaz s).2.2.2.2.2.1.2=[]∧cS (⟨#[]⟩:ByteArray) (Zaz s).2.2.2.2.2.2.1∧cS (⟨#[]⟩:ByteArray) (Zaz s).2.2.2.2.2.2.2.1∧(Zaz s).2.2.2.2.2.2.2.2.1.1=[]∧cB false (Zaz s).2.2.2.2.2.2.2.2.1.2.1∧cB false (Zaz s).2.2.2.2.2.2.2.2.1.2.2∧cS (⟨#[]⟩:ByteArray) (Zaz s).2.2.2.2.2.2.2.2.2.1.1∧cB false (Zaz s).2.2.2.2.2.2.2.2.2.1.2∧cS (⟨#[]⟩:ByteArray) (Zaz s).2.2.2.2.2.2.2.2.2.2.1.1∧cS s.2.2.2.2.2.2.2.2.2.2.1.2 (Zaz s).2.2.2.2.2.2.2.2.2.2.1.2∧cI 0 (Zaz s).2.2.2.2.2.2.2.2.2.2.2∧True)))) (by kernel_rfl) ?_
 unfold T8
 simp only [SIA,eq_self]
 repeat' (first | apply And.intro | intro _)
 all_goals first | trivial | rfl | omega):P:=h
theorem ZyS {P:Prop} (h:P:=by
 have hm:List.length l≤maxLen:=hwf.1.1
 have hi:=fun i (h:i < List.length l)=>ZMI h
 have w2:=fun u=>Zrn (p:=fun z0:ZaO=>eqI z0.2.1 u) l
 unfold maxLen at hm
 simp only [blE,blN,Int.toNat_zero,List.drop_zero,Zbu,ZbS,Zbn,Bool.not_true,Bool.not_false,Zeg,eq_self]
 refine ⟨⟨0,⟨Nat.zero_le _,Za3⟩,rfl⟩,fun k hk=>⟨fun hlt=>?_,fun hge=>?_⟩⟩
 ·have e2:IntKind.wrap .i64 (((k:Nat):Int) - 1)=((k:Nat):Int) - 1:=ZaX (by omega) (by omega)
  have e3:1≤k→Zab l (Int.toNat (((k:Nat):Int) - 1))=Zab l (k - 1):=fun h=>by rw [show Int.toNat (((k:Nat):Int) - 1)=k - 1 by omega]
  simp only [e2]
  repeat' (first | apply And.intro | intro _)
  all_goals first
   | trivial
   | omega
   | exact (ZkI (i:=k) (by omega) (.inl (by assumption))).symm
   | exact (ZkI (i:=k) (by omega) (.inr (.inl ⟨by omega,by rw [← e3 (by omega)]; assumption⟩))).symm
   | exact (ZkI (i:=k) (by omega) (.inr (.inr (by assumption)))).symm
   | exact (ZkI (i:=k) (by omega) (.inr (.inr (fun h=>by have:=(hi k (by omega)).1 h; omega)))).symm
   | (refine ⟨k + 1,⟨by omega,ZaU hk.2 (fun hb=>?_)⟩,by omega,Zbs (by unfold maxLen; omega)⟩
      rcases hb with hb | ⟨h1,hb⟩ | hb
      ·simp_all
      ·first | omega | (rw [← e3 (by omega)] at hb; simp_all)
      ·first | exact hb (by assumption) | exact hb ((hi k (by omega)).2 (by omega)))
 ·obtain rfl:k=List.length l:=by omega
  rw [ZDR hk.2,Bool.eq_iff_iff,Zcn,decide_eq_true_eq]
  omega):P:=h
theorem ZyT {P:Prop} (h:P:=by
 have hm:List.length s.2.1≤maxLen:=hwf.1.2.1.1
 obtain hp:List.length s.2.1≤1048576:=hpre
 simp only [Zbu,ZbS,Zbn,Bool.not_true,Bool.not_false,Zeg,eq_self]
 repeat' (first | apply And.intro | intro _)
 all_goals first
  | trivial
  | omega
  | exact ⟨0,Nat.zero_le _,rfl,rfl⟩
  | exact ⟨Int.toNat (max 0 a),⟨by omega,by omega⟩,by omega,ZFl.symm⟩
  | (rename_i y _ _ _ _; show List.length (ZlW s.2.1 v a y) + 1≤rowMax; have:=ZoA s.2.1 v a y; unfold rowMax; omega)
  | (rename_i y hy hlt h1 hb; rw [Bool.and_eq_true,ZaJ,Zbu] at hb; exact ⟨y + 1,Int.ofNat_lt.1 hlt,by omega,Zbs (by omega),(if_pos ⟨h1,hb⟩).symm⟩)
  | (rename_i y hy hlt h1 hb
     refine ⟨y + 1,Int.ofNat_lt.1 hlt,by omega,Zbs (by omega),(if_neg (fun q=>?_)).symm⟩
     have h2:(eqI (Zac s.2.1 y).2.1 v && btw (Zac s.2.1 y).1 4 6)=true:=by rw [Bool.and_eq_true,ZaJ,Zbu]; exact q.2
     rw [hb] at h2
     cases h2)
  | (rename_i y hy hlt h1; exact ⟨y + 1,Int.ofNat_lt.1 hlt,by omega,Zbs (by omega),(if_neg (fun q=>h1 q.1)).symm⟩)
  | (rename_i y hy hlt h1 h2; exact ⟨y + 1,⟨by omega,by omega⟩,by omega,Zbs (by omega),(if_pos ⟨by omega,h1,h2⟩).symm⟩)
  | (rename_i y hy hlt h1 h2; exact ⟨y + 1,⟨by omega,by omega⟩,by omega,Zbs (by omega),(if_neg (fun q=>by omega)).symm⟩)
  | (rename_i y hy hlt h1; exact ⟨y + 1,⟨by omega,by omega⟩,by omega,Zbs (by omega),(if_neg (fun q=>h1 q.2.1)).symm⟩)
  | (rename_i y hy hge; exact com_fin hy hge)
  | (rename_i y hy hge; exact com_fin' hy hge)):P:=h
theorem ZyU {P:Prop} (h:P:=by
 obtain ⟨hp1,hp2,hp3⟩:ZfA v:=hpre
 have hx:∀ k,k < v.2.length→Zhu (Zaa v.2 k):=fun k hk=>hp3 _ (List.mem_of_getElem? (Zat (t:=Zae) hk))
 simp only [Zbu,ZbS,Zbn,Bool.not_true,Bool.not_false,Zeg,eq_self]
 repeat' (first | apply And.intro | intro _)
 all_goals first
  | trivial
  | omega
  | assumption
  | exact hp1.1
  | exact hp2.1
  | exact hp1.2 _ (by assumption)
  | exact hp2.2 _ (by assumption)
  | exact ⟨0,Nat.zero_le _,rfl,Eq.mpr (Za6 (t:=Zae)) rfl⟩
  | (unfold rowMax; omega)
  | (show 0 + _≤rowMax; unfold rowMax; omega)
  | exact List.take_of_length_le (by omega)
  | (rename_i y hy hlt; exact ⟨y + 1,by omega,by omega,Zbs (by unfold maxLen; omega),Eq.mpr (Za6 (t:=Zae)) (Zol (Int.ofNat_lt.1 hlt))⟩)
  | (show List.length (List.take _ _) + 1≤rowMax; rw [List.length_take]; unfold rowMax; omega)
  | (rename_i y hy hlt; have h:=hp2 _ (List.mem_of_getElem? (Zat (t:=Zak) (Int.ofNat_lt.1 hlt))); unfold rowMax; first | exact Nat.le_trans h (by decide) | (show 0 + _≤_; rw [Nat.zero_add]; exact Nat.le_trans h (by decide)))
  | exact (hx _ (Int.ofNat_lt.1 (by assumption))).1
  | exact (hx _ (Int.ofNat_lt.1 (by assumption))).2.1.1
  | exact (hx _ (Int.ofNat_lt.1 (by assumption))).2.1.2 _ (by assumption)
  | exact (hx _ (Int.ofNat_lt.1 (by assumption))).2.2
  | exact hp1.1.1
  | exact hp1.1.2 _ (by assumption)
  | exact hp1.2):P:=h
theorem ZyV {P:Prop} (h:P:=by
 simp only [Zeg,eq_self]
 repeat' (first | apply And.intro | intro _)
 all_goals as_aux_lemma=>first
  | trivial
  | omega
  | (show List.length _≤rowMax; assumption)
  | (simp only [ZMW,Zfr] at *; simp_all [Za4,midI,endI,stI,noB,Zuy,ZuA,Zuz,ZuB,ZuC,ZaJ,ZaS,ZbW,Zby,Zbp,Zbo]; done)
  | (simp_all [Za4,midI,endI,stI,noB,Zuy,ZuA,Zuz,ZuB,ZuC,ZaJ,ZaS,ZbW,Zby,Zbp,Zbo]; done)
  | (rw [Bool.eq_iff_iff]; simp only [ZMW,Zfr] at *; simp_all [Za4,midI,endI,stI,noB,Zuy,ZuA,Zuz,ZuB,ZuC,ZaJ,ZaS,ZbW,Zby,Zbp,Zbo]; done)
  | (rw [Bool.eq_iff_iff]; simp_all [Za4,midI,endI,stI,noB,Zuy,ZuA,Zuz,ZuB,ZuC,ZaJ,ZaS,ZbW,Zby,Zbp,Zbo]; done)
  | (have h3:(List.length s.2.2.2.2.1:Int)=0:=by omega
     have h4:=(Zfr s.2.2.2.2.2.2.2.2.1.1).1 (by omega)
     have hB:noB (true,2,s.2.2)=true:=by
      rw [ZEr (s:=(true,2,s.2.2)) (by assumption) (by assumption) h3 (by assumption) (by assumption)]
      show (!List.any s.2.2.2.2.2.2.2.2.1.1 (fun z0:ZaM=>eqI z0.1 1))=true
      rw [h4]
      rfl
     clear h3 h4
     rw [Bool.eq_iff_iff]
     simp_all [Za4,midI,endI,stI,Zuy,ZuA,Zuz,ZuB,ZuC,ZaJ,ZaS,ZbW,Zby,Zbp,Zbo]
     done)):P:=h
theorem ZeY {P:Prop} (h:P:=by
 simp only [SIA,eq_self]
 repeat' (first | apply And.intro | intro _)
 all_goals (first | trivial | omega | (simp_all [rowMax]; done) | (simp_all [rowMax]; omega))):P:=h
theorem ZyW {P:Prop} (h:P:=by
 have hv:∀ k,(ZiS b k).length≤List.length b.2.2.2:=fun k=>by unfold ZiS; rw [List.length_map,List.length_take]; omega
 have hs:∀ k,k < List.length b.2.2.2→ZiS b k ++ [((ZaG b.2.2.2 k).1,(ZaG b.2.2.2 k).2.1)]=ZiS b (k + 1):=fun k hk=>by
  unfold ZiS
  rw [List.take_add_one,show b.2.2.2[k]?=some (ZaG b.2.2.2 k) from Zat (t:=ZaR) hk,List.map_append]
  rfl
 have he:ZiS b (List.length b.2.2.2)=ZkY b:=by unfold ZiS ZkY; rw [List.take_length]
 have hm:List.length b.2.2.2≤1048576:=hpre
 have hr:1048576 + 1≤rowMax:=by decide
 simp only [Zbu,ZbS,Zbn,Bool.not_true,Bool.not_false,Zeg,eq_self]
 refine ⟨⟨0,Nat.zero_le _,rfl,rfl⟩,fun k hk=>⟨fun hlt=>?_,fun hge=>?_⟩⟩
 ·have hk2:=hv k
  repeat' (first | apply And.intro | intro _)
  all_goals first
   | trivial
   | omega
   | (rw [List.length_singleton]; omega)
   | exact ⟨k + 1,by omega,by omega,Zbs (by unfold maxLen; omega),hs k (by omega)⟩
 ·obtain rfl:k=List.length b.2.2.2:=by omega
  repeat' (first | apply And.intro | intro _)
  all_goals first
   | trivial
   | exact he):P:=h
theorem ZyX {P:Prop} (h:P:=by
 have hB:=ZNi hW
 have hX:=ZCn.1 hW
 have hY:=(Zfr s.2.2.2.2.2.2.2.2.1.1).2 (by
  have h:=hX.2.2.2.2.2
  have h' : s.2.2.2.2.2.2.2.2.1.1=[]:=congrArg (fun z:ZbH=>z.1) h
  rw [h']
  rfl)
 have hZ:s.2.2.2.2.2.2.2.2.1.2.1=false:=congrArg (fun z:ZbH=>z.2.1) hX.2.2.2.2.2
 obtain ⟨x1,x2,x3,x4,x5,x6⟩:=hX
 have y1:s.2.2.1=0:=x1
 have y2:s.2.2.2.1=0:=x2
 have y3:List.length s.2.2.2.2.1=0:=by
  have h:s.2.2.2.2.1=[]:=x3
  rw [h]; rfl
 have y5:s.2.2.2.2.2.2.1=(⟨#[]⟩:ByteArray):=x5
 clear x1 x2 x3 x4 x5 x6
 repeat' (first | apply And.intro | intro _)
 all_goals as_aux_lemma=>first
  | trivial
  | omega
  | contradiction
  | (show List.length _≤rowMax; assumption)
  | (rw [Bool.eq_iff_iff]; simp_all [Za4,midI,endI,stI,Zuy,ZuA,Zuz,ZuB,ZuC,ZaJ,ZaS,ZbW,Zby,Zbp,Zbo]; done)
  | (simp_all [Za4,midI,endI,stI,Zuy,ZuA,Zuz,ZuB,ZuC,ZaJ,ZaS,ZbW,Zby,Zbp,Zbo]; done)):P:=h
theorem ZyY {P:Prop} (h:P:=by
 have hm:List.length v≤maxLen:=hwf.1.1.1
 unfold maxLen at hm
 simp only [Zeg,eq_self]
 refine ⟨⟨0,⟨Nat.zero_le _,Za3⟩,rfl⟩,fun k hk=>⟨fun hlt=>?_,fun hge=>?_⟩⟩
 ·have e:0 < k→IntKind.wrap .i64 ((k:Int) - 1)=((k - 1:Nat):Int):=fun h=>by rw [ZaX (by omega) (by omega)]; omega
  repeat' (first | apply And.intro | intro _)
  all_goals as_aux_lemma=>first
   | trivial
   | omega
   | (rw [e (by omega)]; omega)
   | exact (ZFF (i:=k) (by omega) (by first | simp_all [ZAM,Zbn,Zcn,ZcT] | (rw [e (by omega),Int.toNat_natCast] at *; simp_all [ZAM,Zbn,Zcn,ZcT]))).symm
   | exact ⟨k + 1,⟨by omega,ZaU hk.2 (by first | (simp_all [ZAM,Zbn,Zcn,ZcT]; done) | (rw [e (by omega),Int.toNat_natCast] at *; simp_all [ZAM,Zbn,Zcn,ZcT]; done) | (simp_all [ZAM,Zbn,Zcn,ZcT]; omega))⟩,by omega,Zbs (by unfold maxLen; omega)⟩
 ·obtain rfl:k=List.length v:=by omega
  first | exact (ZsG hk.2).symm | exact ⟨trivial,(ZsG hk.2).symm⟩):P:=h
theorem ZyZ {P:Prop} (h:P:=by
 obtain ⟨hp1,hp2,hp3⟩:Zhu s:=hpre
 simp only [Zbu,ZbS,Zbn,Bool.not_true,Bool.not_false,Zeg,eq_self]
 repeat' (first | apply And.intro | intro _)
 all_goals first
  | trivial
  | omega
  | assumption
  | exact hp1.1
  | exact hp2.1
  | exact hp1.2 _ (by assumption)
  | exact hp2.2 _ (by assumption)
  | exact ⟨0,Nat.zero_le _,rfl,Eq.mpr (Za6 (t:=Zak)) rfl⟩
  | (unfold rowMax; omega)
  | (show 0 + _≤rowMax; unfold rowMax; omega)
  | exact List.take_of_length_le (by omega)
  | (rename_i y hy hlt; exact ⟨y + 1,by omega,by omega,Zbs (by unfold maxLen; omega),Eq.mpr (Za6 (t:=Zak)) (ZkV (Int.ofNat_lt.1 hlt))⟩)
  | (show List.length (List.take _ _) + 1≤rowMax; rw [List.length_take]; unfold rowMax; omega)
  | (rename_i y hy hlt; have h:=hp2 _ (List.mem_of_getElem? (Zat (t:=Zak) (Int.ofNat_lt.1 hlt))); unfold rowMax; first | exact Nat.le_trans h (by decide) | (show 0 + _≤_; rw [Nat.zero_add]; exact Nat.le_trans h (by decide)))
  | exact Nat.le_trans hp1 (by decide)):P:=h
theorem ZfL {P:Prop} (h:P:=by
 obtain rfl:=Option.some.inj hc'
 intro W' E' x vs gr hr
 obtain ⟨va,r,rfl,h1,hnil⟩:=hr
 obtain rfl:r=[]:=hnil
 exact hc W' E' x.1 va gr h1):P:=h
theorem Zhi {P:Prop} (h:P:=by
 repeat' (first | apply And.intro | intro _)
 all_goals (first | trivial | omega | (refine ⟨k + 1,⟨by omega,by omega⟩,by omega,?_⟩; first | (refine ⟨?_,?_⟩ <;> omega) | omega))):P:=h
theorem Zy0 {P:Prop} (h:P:=by
 have e2:IntKind.wrap .i64 (((k:Nat):Int) - 1)=((k:Nat):Int) - 1:=ZaX (by omega) (by omega)
 have e3:1≤k→ZaG b.2.2.2 (Int.toNat (((k:Nat):Int) - 1))=ZaG b.2.2.2 (k - 1):=fun h=>by rw [show Int.toNat (((k:Nat):Int) - 1)=k - 1 by omega]
 simp only [e2]
 repeat' (first | apply And.intro | intro _)
 all_goals first
  | trivial
  | omega
  | exact (ZLj (i:=k) (by omega) (by unfold Zfa; first | omega | (rw [← e3 (by omega)]; omega) | (rw [e3 (by omega)] at *; omega))).symm
  | exact (Zrh (by rintro ⟨q1,q2,q3,q4⟩; omega)).symm
  | exact ⟨k + 1,⟨by omega,fun hn=>ZaU (hk.2 hn) (by unfold Zfa; first | omega | (rw [← e3 (by omega)]; omega) | (rw [e3 (by omega)] at *; omega))⟩,by omega,Zbs (by unfold maxLen; omega)⟩
  | exact ⟨k + 1,⟨by omega,fun hn=>ZaU (hk.2 hn) (by intro hbad; unfold Zfa at hbad; rw [e3 (by omega)] at *; omega)⟩,by omega,Zbs (by unfold maxLen; omega)⟩):P:=h
theorem Zkc {P:Prop} (h:P:=by
 rw [hc] at h
 rw [Bool.and_eq_true] at hc
 obtain rfl:=Nat.eq_of_beq_eq_true hc.1
 obtain ⟨h1,h2,h3⟩:=Zra hM hx (show ZcC M _ l=_ from h) (Nat.eq_of_beq_eq_true hc.2) hr
 exact ⟨_,h1,fun z=>by omega,h2,h3⟩):P:=h
theorem Zkd {P:Prop} (h:P:=by
 by_cases hl:q < acc.length
 ·rw [List.getElem?_append_left hl] at hq; exact hacc q u hq
 ·rw [List.getElem?_append_right (by omega)] at hq
  have:=hu1 _ u hq
  rwa [show acc.length + (q - acc.length)=q by omega] at this):P:=h
theorem Zy1 {P:Prop} (h:P:=by
 refine Eq.mpr (β:=T6 (bif neI s.2.1 3 then True∧rB true (ZlF st s) else T5 (pt True∧T6 (pt (true=true)∧T2 (bif (Zlu st s.2.2.1 s.2.2.2.1).2 then T4 (pt True∧T3 (bif geI (boxW st.1 s.2.2.1) 0 then T3 ((List.length ((Zlu st s.2.2.1 s.2.2.2.1).1).2.2.2≤1048576∧pt (true=true))∧(True∧pt (true=true))∧T2 (rB (Zbt (ZkY ((Zlu st s.2.2.1 s.2.2.2.1).1)) s.2.2.2.2.1) (ZlF st s))) else T2 (rB false (ZlF st s)))) else T4 (rB false (ZlF st s))))))) (by kernel_rfl) ?_
 unfold T2 T3 T4 T5 T6
 have hsm:=ZGi st s.2.2.1 s.2.2.2.1
 simp only [Zbu,ZbS,Zbn,Bool.not_true,Bool.not_false,Zeg,eq_self]
 repeat' (first | apply And.intro | intro _)
 all_goals first
  | trivial
  | omega
  | (simp_all [ZlF,eqI,neI,geI]; done)
  | (simp_all [ZlF,eqI,neI,geI]; omega)):P:=h
theorem Zy2 {P:Prop} (h:P:=by
 obtain ⟨hp1,hp2⟩:=hpre
 simp only [Zbu,ZbS,Zbn,Bool.not_true,Bool.not_false,Zeg,eq_self]
 refine ⟨⟨0,Nat.zero_le _,rfl,Eq.mpr (Za6 (t:=Zaj)) rfl⟩,fun k hk=>⟨fun hlt=>?_,fun hge=>?_⟩⟩
 ·have hl:k < l.length:=by omega
  have hg:l[k]?=some (Zab l k):=Zat (t:=Zaj) hl
  have hs:=Ztr ⟨hp1,hp2⟩ k
  have ht:List.take k l ++ [Zab l k]=List.take (k + 1) l:=by
   rw [List.take_add_one,hg]
   rfl
  rw [ht]
  repeat' (first | apply And.intro | intro _)
  all_goals first
   | trivial
   | omega
   | (unfold rowMax; rw [List.length_take,List.length_singleton]; omega)
   | exact ⟨k + 1,by omega,by omega,Zbs (by unfold maxLen; omega),Eq.mpr (Za6 (t:=Zaj)) rfl⟩
 ·exact List.take_of_length_le (by omega)):P:=h
theorem Zy3 {P:Prop} (h:P:=by
 refine Eq.mpr (β:=T5 (bif eqI n.1 1 then T2 (pt True∧True∧bif btw n.2.1 0 300 then T2 (pt True∧T2 (bif btw n.2.2.1 0 999999998 then T5 (rB (eqS n.2.2.2 (⟨#[]⟩:ByteArray)) (Zc9 n)) else T2 (rB false (Zc9 n)))) else T4 (rB false (Zc9 n))) else T2 (pt True∧True∧bif btw n.1 2 4 then T5 (bif eqI n.2.1 0 then T5 (bif eqI n.2.2.1 0 then T2 (pt True∧T2 (rB (Zb8 n.2.2.2) (Zc9 n))) else T2 (rB false (Zc9 n))) else T4 (rB false (Zc9 n))) else T6 (rB false (Zc9 n))))) (by kernel_rfl) ?_
 unfold T2 T4 T5 T6
 simp only [SIA,eq_self]
 repeat' (first | apply And.intro | intro _)
 all_goals (first | trivial | (rw [Bool.eq_iff_iff]; simp_all [Prod.ext_iff,EQA,Zc9]; done) | (simp_all [Prod.ext_iff,EQA,Zc9]; done) | omega)):P:=h
theorem Zdw {P:Prop} (h:P:=by
 exact ⟨k + 1,⟨by omega,ZaU hk.2 hp⟩,by omega,Zbs (by omega)⟩):P:=h
theorem ZeZ {P:Prop} (h:P:=by
 obtain rfl:k=a.length:=by omega
 exact ⟨ZLs a m,by rw [List.take_length]⟩):P:=h
theorem Zy4 {P:Prop} (h:P:=by
 refine Eq.mpr (β:=T7 (bif leI x.1.size 1200 then T6 (rB (leI x.2.size 20000) (outOk x)) else T2 (rB false (outOk x)))) (by kernel_rfl) ?_
 simp only [Zeg,eq_self]
 repeat' (first | apply And.intro | intro _)
 all_goals first
  | trivial
  | omega
  | (have h1:leI (ByteArray.size x.1:Int) 1200=true:=Zcn.2 (by assumption)
     unfold outOk
     rw [h1]
     rfl)
  | (have h1:leI (ByteArray.size x.1:Int) 1200=false:=ZcT.2 (by omega)
     unfold outOk
     rw [h1]
     rfl)):P:=h
theorem Zy5 {P:Prop} (h:P:=by
 rw [List.getElem?_set_ne hqi] at hb he'
 by_cases hqj:q ∈ js
 ·have hql:q < M.length:=by
   obtain ⟨_,_,_,_,h⟩:=hj q hqj
   exact (List.getElem?_eq_some_iff.1 h).1
  rw [ZcE hqj hql] at hb
  obtain rfl:=Option.some.inj hb
  exact .inr (Zit hqj he')
 ·rw [Zb5 (fun k hk e=>hqj (by rw [← e]; exact hk))] at hb
  rw [Zci (fun k hk e=>hqj (by rw [← e]; exact hk))] at he'
  exact .inl ⟨hb,he',keptO q e' he' (fun h=>hqi h.symm)⟩):P:=h
theorem Zy6 {P:Prop} (h:P:=by
 have hw:=Zri l m.2.1
 simp only [Zbu,ZbS,Zbn,Bool.not_true,Bool.not_false,Zeg,eq_self]
 repeat' (first | apply And.intro | intro _)
 all_goals first
  | omega
  | (simp_all [ZfP]; done)
  | (try (have ha:ZfP l m=Zi2 l m:=by (unfold ZfP; rw [‹Zdq l=true›,‹ZbG m=true›]; rfl)
          rw [ha])
     rw [Bool.eq_iff_iff]
     simp only [bxB,Zkb,ZhB,ZdZ,geN,Bool.false_eq_true,false_iff,true_iff]
     omega)):P:=h
theorem Zy7 {P:Prop} (h:P:=by
 repeat' (first | apply And.intro | intro _)
 all_goals as_aux_lemma=>first
  | trivial
  | omega
  | contradiction
  | (show List.length _≤rowMax; assumption)
  | (simp_all [Za4,midI,endI,stI,Zuy,ZuA,Zuz,ZuB,ZuC,ZaJ,ZaS,ZbW,Zby,Zbp,Zbo]; done)
  | (rw [Bool.eq_iff_iff]; simp_all [Za4,midI,endI,stI,Zuy,ZuA,Zuz,ZuB,ZuC,ZaJ,ZaS,ZbW,Zby,Zbp,Zbo]; done)):P:=h
theorem Zrq {P:Prop} (h:P:=by
 simp only [SIA,eq_self]
 repeat' (first | apply And.intro | intro _)
 all_goals (first
  | trivial
  | omega
  | (rw [Bool.eq_iff_iff]; simp_all [Prod.ext_iff,EQA]; done)
  | (simp_all [Prod.ext_iff,EQA]; done))):P:=h
theorem Zy8 {P:Prop} (h:P:=by
 unfold ZlJ
 cases ho:o.op <;> simp only [ho,Op.operands] at h ⊢
 case call c =>
  obtain ⟨cal,args,ts⟩:=c
  simp only [Call.operands] at h
  cases cal <;> simp only at h ⊢
  case value fn =>
   rw [h fn (by simp)]
   have hm:args.toList.map (evalA tm)=args.toList.map (evalA tm'):=List.map_congr_left fun x hx=>h x (by simp at hx ⊢; exact .inr hx)
   rw [hm]
  all_goals exact h2
 all_goals exact h2):P:=h
theorem Ze0 {P:Prop} (h:P:=by
 obtain rfl:k=a.length:=by omega
 rw [List.take_length]):P:=h
theorem Zy9 {P:Prop} (h:P:=by
 have h0:∀ t:Tr,∀ l,okA T ops t true l=true→t.heads ≠ []:=fun t=>by
  induction t with
  | nil=>intro l h; simp [okA] at h
  | one i t _=>intro l _; simp [Tr.heads]
  | alt t u ih _=>intro l h; simp only [okA,Bool.true_or,Bool.true_and,Bool.and_eq_true] at h; simp [Tr.heads,ih l h.1]
 exact h0 (.alt t u) listed (by unfold okA; simp [hB.2.1,hB.2.2]) hh):P:=h
theorem ZmR {P:Prop} (h:P:=by
 repeat' (first | split at h | (cases h; done))
 all_goals (injection h with h; injection h with h1 h2; injection h2 with h3 h4; exact h4.symm)):P:=h
theorem Zza {P:Prop} (h:P:=by
 obtain ⟨rfl,rfl⟩:=Prod.mk.inj (Option.some.inj h)
 obtain ⟨v,r,rfl,h1,h2⟩:=hr
 exact ⟨[v],r,rfl,⟨v,[],rfl,h1,rfl⟩,h2⟩):P:=h
theorem ZmS {P:Prop} (h:P:=by
 unfold isAgg
 simp only [Sem.run_bind,run_underlying hd,Result.andThen_ok]
 cases d <;> first | rfl | simp [ZIl] at had):P:=h
theorem Zzb {P:Prop} (h:P:=by
 refine Eq.mpr (β:=T4 (bif eqS s (⟨#[]⟩:ByteArray) then T2 (rB true (Zcy s)) else True∧pt True∧T2 (rB (Zl4 s) (Zcy s)))) (by kernel_rfl) ?_
 simp only [SIA,eq_self]
 repeat' (first | apply And.intro | intro _)
 all_goals (first | trivial | (rw [Bool.eq_iff_iff]; simp_all [Prod.ext_iff,EQA,Zcy]; done) | (simp_all [Prod.ext_iff,EQA,Zcy]; done) | omega)):P:=h
theorem Zzc {P:Prop} (h:P:=by
 simp only [Zbu,ZbS,Zbn,Bool.not_true,Bool.not_false,Zeg,eq_self]
 repeat' (first | apply And.intro | intro _)
 all_goals
  rw [Bool.eq_iff_iff]
  simp only [Zjv,ZkT,ZtH,Bool.false_eq_true,false_iff,iff_false,true_iff,Zcn] at *
  first
   | omega
   | (simp_all [ZEf]; done)
   | (simp_all [ZEf]; omega)):P:=h
theorem ZfM {P:Prop} (h:P:=by
 obtain rfl:k=a.length:=by omega
 exact ZLr a _):P:=h
theorem Zzd {P:Prop} (h:P:=by
 simp only [Zbu,ZbS,Zbn,Bool.not_true,Bool.not_false,Zeg,eq_self]
 have hz:ZbZ ([]:List ZaO):=⟨Nat.zero_le _,fun x hx=>by cases hx⟩
 unfold Zgz
 rw [Int.toNat_zero,List.drop_zero]
 refine ⟨?_,hz,?_⟩
 ·repeat' (first | apply And.intro | split)
  all_goals omega
 ·congr 4
  repeat' split
  all_goals omega):P:=h
theorem Zze {P:Prop} (h:P:=by
 split at h
 ·cases v with
  | none=>exact .inl ⟨rfl,rfl,by simpa using h.symm⟩
  | some u=>exact hr.elim
 ·rename_i k l'
  obtain rfl:l'=l:=by simpa using h
  cases v with
  | none=>exact hr.elim
  | some u=>have hr' : Zc5 X W E M (.w (.c (.int k l'))) u:=hr; exact .inr ⟨k,by rw [(Ze9 hr').1]⟩
 ·cases h):P:=h
theorem Zzf {P:Prop} (h:P:=by
 refine Eq.mpr (β:=T2 (pt True∧True∧rB (btw b 0 31) (Zbn b))) (by kernel_rfl) ?_
 simp only [SIA,eq_self]
 repeat' (first | apply And.intro | intro _)
 all_goals (first | trivial | (rw [Bool.eq_iff_iff]; simp_all [Prod.ext_iff,EQA,Zbn]; done) | (simp_all [Prod.ext_iff,EQA,Zbn]; done) | omega)):P:=h
theorem Zzg {P:Prop} (h:P:=by
 refine Eq.mpr (β:=T5 (bif geI n lo then T5 (rB (leI n hi) (btw n lo hi)) else T2 (rB false (btw n lo hi)))) (by kernel_rfl) ?_
 simp only [Zeg,eq_self]
 repeat' (first | apply And.intro | intro _)
 all_goals first | trivial | omega | (simp [btw]; omega) | (rw [Bool.eq_iff_iff]; simp [btw,Zcn]; omega)):P:=h
theorem Zzh {P:Prop} (h:P:=by
 refine Eq.mpr (β:=T7 (rB (leI x.1.size 600) (ZAN x))) (by kernel_rfl) ?_
 simp only [SIA,eq_self]
 repeat' (first | apply And.intro | intro _)
 all_goals (first | trivial | (rw [Bool.eq_iff_iff]; simp_all [Prod.ext_iff,EQA,ZAN]; done) | (simp_all [Prod.ext_iff,EQA,ZAN]; done) | omega)):P:=h
theorem Zzi {P:Prop} (h:P:=by
 unfold Zcz
 rw [List.getElem?_append_right (by rw [hml]; exact Nat.le_refl _),hml,Nat.sub_self]
 refine ⟨Nat.le_refl _,fun _=>⟨⟨0,v,v.ownBlock.toList ++ G⟩,?_,rfl⟩⟩
 rw [List.getElem?_append_right (by rw [hkl,← hM.len]; exact Nat.le_refl _),hkl,← hM.len,Nat.sub_self]
 rfl):P:=h
theorem Zzj {P:Prop} (h:P:=by
 show (!List.any s.2.2.2.2.2.2.2.2.1.1 (fun z0:ZaM=>eqI z0.1 1))=true
 rw [h4]
 rfl):P:=h
theorem Zzk {P:Prop} (h:P:=by
 rw [List.take_append_of_le_length (by rw [List.length_take,← List.append_assoc,hLl,hsz]; omega)]
 rw [List.take_take,Nat.min_self,ht,← List.append_assoc,List.take_append_of_le_length (Nat.le_of_eq hl2.symm)]
 exact List.take_of_length_le (Nat.le_of_eq hl2)):P:=h
theorem Zrr {P:Prop} (h:P:=by
 refine ⟨h.1,?_⟩
 have h2:=h.2
 unfold Zcz at h2 ⊢
 exact ZAH):P:=h
theorem ZmT {P:Prop} (h:P:=by
 obtain ⟨j,_,e,he,hb⟩:=ZmJ hb
 exact Zbb.2 ⟨e,List.mem_of_getElem? he,hb⟩):P:=h
theorem Zzl {P:Prop} (h:P:=by
 rw [List.getElem?_append_left hi] at hb
 rw [List.getElem?_append_left (by rw [← hM.len]; exact hi)] at he
 exact (hM.at_ i b e hb he).keep g hm hM.len (fun q hq=>Below.heap_alloc W _ q (hM.lt q (Zbb.2 ⟨e,List.mem_of_getElem? he,hq⟩)))):P:=h
theorem Zrs {P:Prop} (h:P:=by
 simp only [SIA,eq_self]
 refine ⟨⟨fun _=>trivial,fun _ _=>trivial⟩,?_⟩
 rw [Bool.eq_iff_iff,ZdZ]
 exact Zrm xs):P:=h
theorem Ziw {P:Prop} (h:P:=by
 split at hn <;> first | exact ZbF hn | exact hn.elim):P:=h
theorem Zrt {P:Prop} (h:P:=by
 intro hb
 unfold Znl at hb
 split at hb
 ·rfl
 ·exact hb.elim):P:=h
theorem Zru {P:Prop} (h:P:=by
 unfold isAgg
 simp only [Sem.run_bind,run_underlying hu,Result.andThen_ok]
 cases d <;> first | rfl | simp [ZIl] at hd):P:=h
theorem Zzm {P:Prop} (h:P:=by
 unfold Instr.sliceAt
 simp only [Sem.run_bind,run_underlying hu,Result.andThen_ok]
 unfold Instr.slice
 simp only [Sem.run_bind,run_underlying hu,Result.andThen_ok,Sem.run_pure,hsl,sizeOf,typeInfo,run_program,hinf,hsz]):P:=h
theorem Zzn {P:Prop} (h:P:=by
 obtain ⟨rfl,rfl⟩:=Prod.mk.inj (Option.some.inj h)
 obtain ⟨v,r,rfl,h1,h2⟩:=hr
 exact ⟨[v],r,[],rfl,⟨by rw [h1.1],h1.2,rfl⟩,h2,by simp,fun i hi=>by rw [List.flatMap_cons]; exact List.mem_append_right _ hi⟩):P:=h
theorem Zzo {P:Prop} (h:P:=by
 obtain ⟨rfl,rfl⟩:=Prod.mk.inj (Option.some.inj h)
 obtain ⟨v,r,rfl,h1,h2⟩:=hr
 exact ⟨[v],r,[],rfl,⟨by rw [h1.1],h1.2,rfl⟩,h2,by simp,fun h=>by rw [List.any_cons,Bool.or_eq_false_iff] at h; exact h.2⟩):P:=h
theorem Zhj {P:Prop} (h:P:=by
 obtain rfl:k=a.length:=by omega
 omega):P:=h
theorem Zzp {P:Prop} (h:P:=by
 refine hgoal.mono fun en W' hq=>?_
 obtain ⟨u,E',rfl,g,r,hv⟩:=hq
 refine ⟨u,E,rfl,ZjT g,Zku g hM,ZqB g hM,?_⟩
 rw [hp] at hv
 exact Zqm (hsc _ _) hv):P:=h
theorem Zzq {P:Prop} (h:P:=by
 simp only [Zbu,ZbS,Zbn,Bool.not_true,Bool.not_false,Zeg,eq_self]
 first
  | (unfold rowMax; exact ⟨by simp; omega,rfl⟩)
  | (refine ⟨by unfold rowMax; omega,?_⟩; trivial)
  | (unfold rowMax; omega)):P:=h
theorem Zrv {P:Prop} (h:P:=by
 obtain ⟨rfl,rfl⟩:=Prod.mk.inj (Option.some.inj h)
 rfl):P:=h
theorem Zzr {P:Prop} (h:P:=by
 rw [ZkC]
 show W.cell? _=_
 rw [cell_of_row W b _ cur T (0,0) hg]
 rw [hnews,List.getElem?_take] at hj
 split at hj
 ·rw [List.getElem?_drop] at hj
  simpa using hj
 ·cases hj):P:=h
theorem Zhk {P:Prop} (h:P:=by
 first | (refine ⟨?_,?_⟩ <;> omega) | omega):P:=h
theorem Zzs {P:Prop} (h:P:=by
 have h1:W1.heap.size=b1:=by rw [hW1,hb1]; show (W.heap.push _).size=_; rw [Array.size_push]
 rw [hW2,← h1]
 show (W1.heap.push _)[W1.heap.size]?=_
 rw [Array.getElem?_push,if_pos rfl]):P:=h
theorem Zzt {P:Prop} (h:P:=by
 have h1:¬ boxW l m.2.1 < 0:=by have:=hne (by omega); omega
 unfold Zi2 at hft
 rw [if_neg (by omega),if_neg h1,if_neg (by omega),if_neg (by omega),if_pos h] at hft
 simpa using hft):P:=h
theorem Zzu {P:Prop} (h:P:=by
 have:(parts.toList.map fun p=>(p.1,evalA tm p.2))=parts.toList.map fun p=>(p.1,evalA tm' p.2):=List.map_congr_left fun p hp=>by rw [h p.2 (by simp at hp ⊢; exact ⟨p.1,hp⟩)]
 rw [this]):P:=h
theorem Zzv {P:Prop} (h:P:=by
 obtain rfl:=Option.some.inj hc'
 intro W' E' x vs gr hr
 obtain ⟨va,r,rfl,h1,vb,r2,rfl,h2,hnil⟩:=hr
 obtain rfl:r2=[]:=hnil
 exact hc W' E' x.1 x.2.1 va vb gr h1 h2):P:=h
theorem Zzw {P:Prop} (h:P:=by
 refine Zdj fun x=>?_
 have c1:=Zj8 (e':={ e with foot:=[] }) x he
 have c2:=ZmK hM x
 have c3:({ e with foot:=[] }:EB).foot.count x=0:=rfl
 omega):P:=h
theorem Zzx {P:Prop} (h:P:=by
 repeat' (first | apply And.intro | intro _)
 all_goals first
  | trivial
  | omega
  | contradiction
  | exact Eq.symm (by assumption)
  | assumption
  | (exfalso; simp_all; done)):P:=h
theorem Zzy {P:Prop} (h:P:=by
 repeat' (first | apply And.intro | intro _)
 all_goals first
  | trivial
  | omega
  | (subst_vars; first | rfl | omega | (simp only [GXA]; first | done | omega | (congr 1; omega)))):P:=h
theorem Zzz {P:Prop} (h:P:=by
 simp only [hs,hb]
 simp only [Zeg,eq_self]
 repeat' (first | apply And.intro | intro _)
 all_goals first
  | trivial
  | omega
  | (show List.length _≤rowMax; assumption)):P:=h
theorem ZzA {P:Prop} (h:P:=by
 have h:(bif (cellsOf t x).any slC then (match ZKr t' (cellsOf t x) with | some (x,[])=>some x | _=>none) else none)=some d:=h
 rw [Zno] at h
 cases h):P:=h
theorem ZzB {P:Prop} (h:P:=by
 rw [ByteArray.toList_eq,ByteArray.toList_eq,Bool.eq_iff_iff,beq_iff_eq,decide_eq_true_eq]
 exact ⟨fun h=>ByteArray.ext (Array.toList_inj.1 h),fun h=>by rw [h]⟩):P:=h
theorem ZzC {P:Prop} (h:P:=by
 unfold ZEE
 rw [List.any_eq_true]
 constructor
 ·rintro ⟨y,h1,h2⟩
  rw [of_decide_eq_true h2] at h1
  exact h1
 ·intro h
  exact ⟨n,h,decide_eq_true rfl⟩):P:=h
theorem ZzD {P:Prop} (h:P:=by
 rcases List.mem_cons.1 h with rfl | h
 ·exact .inl ⟨k,rfl,by rw [List.map_cons,List.sum_cons]; simp only [MTy.nb]; omega⟩
 ·exact up (inp:=[]) rfl rfl h):P:=h
theorem ZzE {P:Prop} (h:P:=by
 refine ⟨⟨b,0,none⟩,by simp [h],fun t u hu=>?_⟩
 have h0:news.length=0:=by rw [hnl]; omega
 rw [List.length_eq_zero_iff.1 h0] at hu
 simp at hu):P:=h
theorem ZzF {P:Prop} (h:P:=by
 simp only [Zeg,eq_self]
 first | exact (by rw [Bool.eq_iff_iff,ZdZ]; exact Zrm s) | exact ⟨trivial,by rw [Bool.eq_iff_iff,ZdZ]; exact Zrm s⟩):P:=h
theorem ZzG {P:Prop} (h:P:=by
 rcases Int.lt_or_le (boxW l m.2.1) 0 with h1 | h1
 ·exfalso
  unfold Zi2 at hft
  rw [if_neg h,if_pos h1] at hft
  cases hft
 ·exact h1):P:=h
theorem ZzH {P:Prop} (h:P:=by
 simp only [Bool.and_eq_true] at hc
 exact Zq9 hM ht ho hu hp hc.1.1 (Nat.le_of_ble_eq_true hc.1.2) (Nat.eq_of_beq_eq_true hc.2.1) hc.2.2):P:=h
theorem ZzI {P:Prop} (h:P:=by
 rw [ZbL,List.mem_append] at hb
 rw [World.size_alloc]
 rcases hb with hb | hb
 ·have:=hM.lt b hb; omega
 ·simp [foots] at hb; omega):P:=h
theorem ZzJ {P:Prop} (h:P:=by
 subst hqi
 obtain rfl:e=e':=Option.some.inj (he.symm.trans hq)
 exact ⟨e2,List.getElem?_set_self (by rw [hkl]; exact hilE),by rw [he2]⟩):P:=h
theorem ZzK {P:Prop} (h:P:=by
 unfold execOp
 simp only [ho,resolve,invoke,builtin,Sem.run_bind,Sem.run_pure,Result.andThen_ok,List.map_toArray,List.map_cons,List.map_nil,h]):P:=h
theorem Zrw {P:Prop} (h:P:=by
 rw [List.getElem?_append_left (List.getElem?_eq_some_iff.1 hM).1,hM]
 exact h):P:=h
theorem ZzL {P:Prop} (h:P:=by
 rw [e] at e'
 injection e' with e'
 injection e' with e'
 injection e' with a1 a2
 exact ⟨a1,by simpa using a2⟩):P:=h
theorem ZzM {P:Prop} (h:P:=by
 have hp' : ¬ 0 < k:=by omega
 exact ⟨k + 1,⟨by omega,ZaU hk.2 (by simp [Zjn,p,hp'])⟩,by omega,Zbs (by unfold maxLen; omega)⟩):P:=h
theorem ZzN {P:Prop} (h:P:=by
 obtain ⟨v,E',M',r,rfl,g,m,hv,hend⟩:=hq
 obtain ⟨E2,g2,m2,hv2⟩:=ZMC (T:=T) m g.g hv hend
 exact ⟨v,E2,rfl,g2,m2,hv2⟩):P:=h
theorem ZzO {P:Prop} (h:P:=by
 rcases List.mem_append.1 hm with hm | hm
 ·exact hM.xlt b hm (by rw [hfoot]; exact List.mem_append_left _ hb)
 ·exact hnd.2.2 b hb b hm rfl):P:=h
theorem ZzP {P:Prop} (h:P:=by
 rw [ZbL,List.mem_append] at hf
 rcases hf with hf | hf
 ·exact hM.xlt b hb hf
 ·have:=hM.xsz b hb; simp [foots] at hf; omega):P:=h
theorem ZzQ {P:Prop} (h:P:=by
 rcases hb.2 with h2 | h2
 ·rw [← Nat.eq_of_beq_eq_true h2]; exact this
 ·exact ZGG hcl n e.on this (Bool.and_eq_true_iff.1 h2).2):P:=h
theorem ZmU {P:Prop} (h:P:=by
 rw [List.count_append,List.count_append]
 omega):P:=h
theorem Zrx {P:Prop} (h:P:=by
 have:=(List.getElem?_eq_some_iff.1 hb).1
 simp at this
 omega):P:=h
theorem ZzR {P:Prop} (h:P:=by
 obtain ⟨rfl,rfl,rfl⟩:=Zir h
 obtain ⟨v,r,rfl,h1,h2⟩:=hr
 exact ⟨[v],r,rfl,⟨by rw [h1.1],h1.2,rfl⟩,h2,by simp⟩):P:=h
theorem ZzS {P:Prop} (h:P:=by
 refine ZcK hM (Instr.fieldAt s (a.eval x) n) (by unfold execOp; rw [ho]) (by rw [h]; exact key _ _) ?_
 rw [Nat.add_assoc]
 exact r _):P:=h
theorem Zry {P:Prop} (h:P:=by
 split at hn <;> first | exact ⟨[],(List.append_nil M).symm⟩ | exact hn.elim):P:=h
theorem ZzT {P:Prop} (h:P:=by
 show (tm.set d v).getD t .any=tm.getD t .any
 rw [List.getD_eq_getElem?_getD,List.getD_eq_getElem?_getD,List.getElem?_set_ne hne]):P:=h
theorem ZzU {P:Prop} (h:P:=by
 unfold execOp
 simp only [ho,hv,he,Sem.run_bind,hg,Result.andThen_ok,binOp,run_equal_slice_nil W t e A _ _ hu,Sem.run_pure]):P:=h
theorem ZzV {P:Prop} (h:P:=by
 exact ZcK hM (Instr.loadAt t (a.eval x)) (by unfold execOp; rw [ho]) (by rw [hv]; simpa [Instr.loadAt,Instr.sureAddr] using h1) h2):P:=h
theorem ZfN {P:Prop} (h:P:=by
 exact hr.trans (ZLq hk)):P:=h
theorem Zrz {P:Prop} (h:P:=by
 rw [List.length_append,List.length_take,List.length_drop]
 omega):P:=h
theorem ZzW {P:Prop} (h:P:=by
 rw [hc2,List.size_toArray,List.length_append,List.length_append,List.length_take,List.length_drop,hk,hk2,hLl,hsz]
 omega):P:=h
theorem ZzX {P:Prop} (h:P:=by
 have h2:=congrArg List.length HD.out
 have h3:=ZFg k.toNat
 rw [List.length_append] at h2
 omega):P:=h
theorem ZzY {P:Prop} (h:P:=by
 obtain ⟨h1,_⟩:=Prod.mk.inj (Option.some.inj h)
 injection h1 with h1 _ _
 subst h1
 exact List.mem_singleton.2 rfl):P:=h
theorem Zke {P:Prop} (h:P:=by
 exact ⟨E2,g1.trans g2,m1.trans m2,r2⟩):P:=h
theorem ZzZ {P:Prop} (h:P:=by
 obtain rfl:k=List.length qu.1:=by omega
 first | exact (Zpx hk.2).symm | exact ⟨trivial,(Zpx hk.2).symm⟩):P:=h
theorem Zz0 {P:Prop} (h:P:=by
 have hK:m=m:=by first | rfl | (simp only [gc1,gc2,gc3,gc4]; omega) | omega
 rw [hK] at h0
 exact h0.symm):P:=h
theorem Zz1 {P:Prop} (h:P:=by
 by_cases hj:b=j
 ·subst hj; rw [hb]; trivial
 ·rw [List.getElem?_set_ne hj]
  exact Zbq.refl W E M j):P:=h
theorem Zz2 {P:Prop} (h:P:=by
 simp only [Array.toList_append,List.append_assoc]
 rw [← List.append_assoc,← hlen]
 exact List.take_left):P:=h
theorem Zz3 {P:Prop} (h:P:=by
 obtain rfl:k=s.size:=by omega
 first | exact (ZwF hk.2).symm | exact ⟨trivial,(ZwF hk.2).symm⟩):P:=h
theorem ZrA {P:Prop} (h:P:=by
 have k1:x=q:=k1
 subst k1
 exact ⟨h.1,h.2.1,k2⟩):P:=h
theorem Zz4 {P:Prop} (h:P:=by
 have:Zab l k=Zq8:=ZLi (t:=Zaj) (Nat.le_of_not_lt hk)
 rw [this]
 exact Nat.zero_le _):P:=h
theorem Zz5 {P:Prop} (h:P:=by
 rcases h.2 with ⟨h1,h3⟩ | ⟨g',cap,cur,q1,_⟩
 ·exact ⟨none,0,by rw [h1,h3]⟩
 ·exact ⟨_,_,q1⟩):P:=h
theorem Zz6 {P:Prop} (h:P:=by
 rw [List.getElem?_set_ne hj] at hb'
 exact (hr.mem.at_ j b' e hb' he).keep g m hr.mem.len (fun _ _=>rfl)):P:=h
theorem Zz7 {P:Prop} (h:P:=by
 simp only [Zeg,eq_self]
 repeat' (first | apply And.intro | intro _)
 all_goals first | trivial | omega):P:=h
theorem Zz8 {P:Prop} (h:P:=by
 have:=Zkt (us:=us) (j:=j) (k:=k) (by simpa using h) (by omega)
 simpa [ZeO] using this):P:=h
theorem Zz9 {P:Prop} (h:P:=by
 have:=Int.natAbs_tmod x y
 have h3:x.natAbs % y.natAbs≤x.natAbs:=Nat.mod_le _ _
 omega):P:=h
theorem ZAa {P:Prop} (h:P:=by
 have:=Zs8 n (listed.setIfInBounds i true)
 show (Zh8 T ops n _).len + 1≤_
 omega):P:=h
theorem ZAb {P:Prop} (h:P:=by
 rw [← List.append_assoc,← List.append_assoc]
 exact List.Perm.append_right _ List.perm_append_comm):P:=h
theorem ZAc {P:Prop} (h:P:=by
 have h2:=ZIV hcl hj hd
 rw [ZMy (mem_ready.1 hr).1] at h2
 cases h2):P:=h
theorem ZAd {P:Prop} (h:P:=by
 unfold loadVar
 simp only [Sem.run_bind,hagg,Result.andThen_ok,if_true,hsz,hl',Sem.run_pure]):P:=h
theorem ZAe {P:Prop} (h:P:=by
 obtain rfl:u1=[]:=q2
 rw [List.append_nil] at e1
 rw [e1]
 exact q1):P:=h
theorem ZAf {P:Prop} (h:P:=by
 obtain ⟨A,c2,hsl⟩:=Zdp h4
 injection hsl with _ hll _
 rw [hll,List.length_set]):P:=h
theorem ZAg {P:Prop} (h:P:=by
 rw [Bool.eq_iff_iff,decide_eq_true_eq,Zbu]
 exact ⟨fun q=>by omega,fun q=>⟨h,by omega⟩⟩):P:=h
theorem ZAh {P:Prop} (h:P:=by
 exact ⟨_,by simp only [binOp,Sem.run_bind,ZDp hn,Result.andThen_ok,Sem.run_pure],rfl⟩):P:=h
theorem ZAi {P:Prop} (h:P:=by
 rw [if_neg (ZEk h3 h4),decide_eq_false (fun q=>by rw [q j hj] at h; cases h),Bool.false_and]):P:=h
theorem ZAj {P:Prop} (h:P:=by
 refine ⟨rfl,cur2,?_,X.out.1,by rw [X.out.2,Y.out]⟩
 rw [hW.out]
 exact Zwc _ _ _ _):P:=h
theorem Zkf {P:Prop} (h:P:=by
 exact List.mem_append_left _ hb):P:=h
theorem ZrB {P:Prop} (h:P:=by
 exact ⟨⟨fun _=>trivial,fun _ _=>trivial⟩,rfl⟩):P:=h
theorem ZmV {P:Prop} (h:P:=by
 unfold eqGuard
 cases op <;> rfl):P:=h
theorem ZAk {P:Prop} (h:P:=by
 exact ⟨k + 1,⟨by omega,ZaU hk.2 (Zdi.1 hp)⟩,by omega,Zbs (by omega)⟩):P:=h
theorem ZAl {P:Prop} (h:P:=by
 exact ⟨k + 1,⟨by omega,ZaU hk.2 (ZiV.1 hp)⟩,by omega,Zbs (by omega)⟩):P:=h
theorem ZAm {P:Prop} (h:P:=by
 exact ⟨k + 1,⟨by omega,ZaU hk.2 (Zj0.1 hp)⟩,by omega,Zbs (by omega)⟩):P:=h
theorem ZAn {P:Prop} (h:P:=by
 obtain rfl:k=List.length z.2.1:=by omega
 exact (ZB8 h1 h2 h4 hk.2).symm):P:=h
theorem ZAo {P:Prop} (h:P:=by
 rw [hW2]
 refine ZbU.trans ?_ (Zkj W1 _)
 rw [hW1]
 exact Zkj W _):P:=h
theorem ZAp {P:Prop} (h:P:=by
 obtain rfl:=Option.some.inj hb
 obtain rfl:=Option.some.inj he
 exact ho):P:=h
theorem ZAq {P:Prop} (h:P:=by
 obtain ⟨T,cells,G,_,_,h6⟩:=h4
 rw [h6,h1]
 simp [Value.ownBlock]):P:=h
theorem ZAr {P:Prop} (h:P:=by
 obtain ⟨e',q1,q2⟩:=(ZDB hkeys).2 hq
 exact absurd q2 (h2 e' q1)):P:=h
theorem ZAs {P:Prop} (h:P:=by
 have:=(List.getElem?_eq_some_iff.1 hb).1
 simp [hml] at this
 omega):P:=h
theorem ZAt {P:Prop} (h:P:=by
 rw [h1.1]
 exact ⟨none,0,rfl,Nat.le_refl _,Nat.zero_le _, .inl ⟨rfl,rfl⟩⟩):P:=h
theorem ZAu {P:Prop} (h:P:=by
 rw [← j1]
 exact ZJY ho3 (fun b hb hm=>m3.xlt b hm (by simp [foots,hb]))):P:=h
theorem ZAv {P:Prop} (h:P:=by
 rcases List.mem_append.1 hq with hq | hq
 ·simp [q1 q hq]
 ·simp [q2 q hq]):P:=h
theorem ZAw {P:Prop} (h:P:=by
 rw [hnews,List.length_take,List.length_drop,Array.length_toList,hsz]
 omega):P:=h
theorem ZAx {P:Prop} (h:P:=by
 rw [ZoN,Nat.zero_add,hlk]
 exact (congrFun (Option.map_id (α:=_)) _)):P:=h
theorem ZAy {P:Prop} (h:P:=by
 have h3:a ≠ b:=fun e=>by subst e; omega
 simp [h1,h2,h3,h3.symm]):P:=h
theorem ZAz {P:Prop} (h:P:=by
 rw [hM.len,List.getElem?_append_right (Nat.le_refl _),Nat.sub_self]
 rfl):P:=h
theorem ZAA {P:Prop} (h:P:=by
 rw [List.getElem?_take,if_pos hi,List.getElem?_take,if_pos hi]
 exact h):P:=h
theorem ZAB {P:Prop} (h:P:=by
 unfold ZeU
 rw [if_neg h1,if_neg h2,if_neg h3,if_neg h4,if_pos h5]):P:=h
theorem ZAC {P:Prop} (h:P:=by
 obtain ⟨e',q1,q2⟩:=g.blk i e h1
 exact ⟨e',q1,by rw [q2]; exact h2⟩):P:=h
theorem ZrC {P:Prop} (h:P:=by
 exact (Zrh (fun q=>by omega)).symm):P:=h
theorem ZAD {P:Prop} (h:P:=by
 have:=Zhg.1 (hbx _ (hk h))
 exact ⟨this.2.2.2.2,this.2.2.2.1⟩):P:=h
theorem ZrD {P:Prop} (h:P:=by
 exact ⟨u,by rw [e]; simpa using q1,q2⟩):P:=h
theorem ZAE {P:Prop} (h:P:=by
 rw [if_neg (ZEk h3 h4),decide_eq_true h1,decide_eq_true h2]
 rfl):P:=h
theorem ZAF {P:Prop} (h:P:=by
 exact ⟨_,_,e,hr,hgr.1,hgr.2,Or.inr rfl,fun h=>absurd h hm⟩):P:=h
theorem ZmW {P:Prop} (h:P:=by
 exact ⟨l',by simpa using hq⟩):P:=h
theorem Zdx {P:Prop} (h:P:=by
 try unfold maxLen at *
 exact ZcG):P:=h
theorem ZAG {P:Prop} (h:P:=by
 refine Eq.mpr (β:=T2 (pt True∧True∧rB (btw n 1 999999999) (btw n 1 999999999))) (by kernel_rfl) ?_
 exact Zet):P:=h
theorem ZrE {P:Prop} (h:P:=by
 split at h
 ·exact Zza
 ·cases h):P:=h
theorem ZrF {P:Prop} (h:P:=by
 split at h
 ·exact Zrv
 ·cases h):P:=h
theorem ZAH {P:Prop} (h:P:=by
 rw [(Zg0 (E':=E') hl i).1,(Zg0 (N:=N) hl i).2]
 exact h2):P:=h
theorem ZAI {P:Prop} (h:P:=by
 refine bc0 [] [] [] [] L0 Tryz.func50 (fun hwf=>?_)
 exact ZyR):P:=h
open Go.ChangeShapes Go.WideShapes Go.ChangeAt Go.RowKit Go.Joins Go.Deep
theorem ZJt {a b:ByteArray} (h:a=b):Ending.returned (.string a)=.returned (.string b):=by rw [h]
theorem ZOi {a b:Bool} (h:a=b):Ending.returned (.bool a)=.returned (.bool b):=by rw [h]
theorem ZOW {k:IntKind} {a b:Int} (h:a=b):Ending.returned (.int k a)=.returned (.int k b):=by rw [h]
theorem ZmX {H:Type} {enc:TypeId × Value→H} {P:Program} (hl:laidOutB P=true) {W W' : World} (hb:Below W.heap.size W W') :
 ∀ {ts:List TypeId} {vs:List Value} {ds:List (DataW H)} {ps:List MemPlace},
   (∀ t ∈ ts,P.readableRec t=true∧t < P.types.size)→DataW.TrodAll enc P W 0 (fun _=>true) true ts vs ds ps→(∀ x ∈ ps,x.block < W.heap.size) →
   DataW.TrodAll enc P W' 0 (fun b=>decide (b < W.heap.size)) true ts vs ds ps
 | [],[],[],_,_,h,_=>h
 | t :: ts,v :: vs,d :: ds,ps,hr,⟨p,q,h1,h2,e⟩,hlt=>by
  subst e
  have ht:=hr t (by simp)
  exact ⟨p,q,Below.trod hl ht.1 ht.2 h1 hb (fun x hx=>hlt x (by simp [hx])),ZmX hl hb (fun t' ht'=>hr t' (by simp [ht'])) h2 (fun x hx=>hlt x (by simp [hx])),rfl⟩
 | [],_ :: _,_,_,_,h,_=>by simp [DataW.TrodAll] at h
 | [],[],_ :: _,_,_,h,_=>by simp [DataW.TrodAll] at h
 | _ :: _,[],_,_,_,h,_=>by simp [DataW.TrodAll] at h
 | _ :: _,_ :: _,[],_,_,h,_=>by simp [DataW.TrodAll] at h
theorem ZLu {H:Type} {enc:TypeId × Value→H} {P:Program} {f:Func} {s:ChangeSpec} {W W' : World} {args:Array Value} {ds gs:List (DataW H)} {before:List MemPlace} {tb:TypeId}
 (hl:laidOutB P=true) (hr:(f.params.toList.all fun t=>P.readableRec t && decide (t < P.types.size))=true) (hres:f.resultTypes=#[tb]) (htb:P.underlying tb=some .bool) (hvars:s.vars=[])
 (hs:s.fn H ds={ results:=[.lit (.bool true)],args:=ds })
 (hW:DataW.Whole enc P f.params.toList s.vars false W args.toList ds gs before) (hb:Below W.heap.size W W'):s.post enc P f false true false false W args (.bool true) W':=by
 have hr:∀ t ∈ f.params.toList,P.readableRec t=true∧t < P.types.size:=fun t ht=>by
  have:=List.all_eq_true.1 hr t ht
  simpa using this
 have hlt:∀ p ∈ before,p.block < W.heap.size:=fun p hp=>hW.lt p hp
 obtain ⟨p,q,hA,hV,rfl,hz,hn⟩:=hW
 have hV':=hV
 rw [hvars] at hV
 obtain ⟨rfl,rfl⟩:=trodVars_none hV
 refine ⟨ds,[],p ++ [],[],p,[],⟨p,[],hA,hV',rfl,hz,hn⟩,?_,?_,?_,?_,fun h=>by cases h⟩
 ·rw [List.append_nil,hs,hres]
  exact trodAll_mk1 ⟨1,by simp [DataW.trod,htb,Value.cells]⟩
 ·rw [List.append_nil,hs]
  exact ZmX hl hb hr hA (fun x hx=>hlt x (by simp [hx]))
 ·rw [List.append_nil,hs,hvars]
  rfl
 ·exact World.keptBut_mono (fun x hx=>⟨hx,Or.inr (Or.inl (by simpa using hx))⟩) (hb.frame (· ∈ p ++ []))
def btw (n lo hi:Int):Bool:=decide (lo≤n) && decide (n≤hi)
theorem ZOj {n lo hi:Int} (h1:lo≤n) (h2:n≤hi):btw n lo hi=true:=by simp [btw,h1,h2]
theorem ZNP {n lo hi:Int} (h:n < lo∨hi < n):btw n lo hi=false:=by simp [btw]; omega
theorem Zbu {n lo hi:Int}:btw n lo hi=true↔lo≤n∧n≤hi:=by simp [btw]
theorem ZbS {n lo hi:Int}:btw n lo hi=false↔n < lo∨hi < n:=by simp [btw]; omega
theorem ZPt {W w1:World} (hb:Below W.heap.size W w1):(∀ b o,b < W.heap.size→w1.cell? ⟨b,o,none⟩=W.cell? ⟨b,o,none⟩)∧(∀ b o,b < W.heap.size→w1.frozen? ⟨b,o,none⟩=W.frozen? ⟨b,o,none⟩) :=
 ⟨fun b o h=>hb.cell (p:=⟨b,o,none⟩) h,fun b o h=>hb.frozen (p:=⟨b,o,none⟩) h⟩
theorem ZMK {a b c:World} (h:Below a.heap.size a b) (k:Below b.heap.size b c):Below a.heap.size a c:=h.trans (k.mono h.size)
theorem ZLv {a b:World} (h:Below a.heap.size a b) (o:Obj):Below a.heap.size a (b.alloc o):=h.alloc h.size o
def ext (w:World) (E:Array Obj) (d:Nat):World:={ w with heap:=w.heap ++ E,drawn:=d }
section
variable (w:World) (E:Array Obj) (d:Nat)
@[simp,go_sem] theorem ZOk:(ext w E d).heap.size=w.heap.size + E.size:=by simp [ext]
@[go_sem] theorem ZOl {n m:Nat} (a1:Nat) (h:n < m):(n < m + a1)=True:=by simp only [eq_iff_iff,iff_true]; omega
@[go_sem] theorem ZOm {n m:Nat} (a1 a2:Nat) (h:n < m):(n < m + a1 + a2)=True:=by simp only [eq_iff_iff,iff_true]; omega
@[go_sem] theorem ZOn {n m:Nat} (a1 a2 a3:Nat) (h:n < m):(n < m + a1 + a2 + a3)=True:=by simp only [eq_iff_iff,iff_true]; omega
@[go_sem] theorem ZOo {n m:Nat} (a1 a2 a3 a4:Nat) (h:n < m):(n < m + a1 + a2 + a3 + a4)=True:=by simp only [eq_iff_iff,iff_true]; omega
@[go_sem] theorem ZOp {n m:Nat} (a1 a2 a3 a4 a5:Nat) (h:n < m):(n < m + a1 + a2 + a3 + a4 + a5)=True:=by simp only [eq_iff_iff,iff_true]; omega
@[go_sem] theorem ZOq {n m:Nat} (a1 a2 a3 a4 a5 a6:Nat) (h:n < m):(n < m + a1 + a2 + a3 + a4 + a5 + a6)=True:=by simp only [eq_iff_iff,iff_true]; omega
@[go_sem] theorem ZOr {n m:Nat} (a1 a2 a3 a4 a5 a6 a7:Nat) (h:n < m):(n < m + a1 + a2 + a3 + a4 + a5 + a6 + a7)=True:=by simp only [eq_iff_iff,iff_true]; omega
@[go_sem] theorem ZOs {n m:Nat} (a1 a2 a3 a4 a5 a6 a7 a8:Nat) (h:n < m):(n < m + a1 + a2 + a3 + a4 + a5 + a6 + a7 + a8)=True:=by simp only [eq_iff_iff,iff_true]; omega
@[go_sem] theorem ZOt {n m:Nat} (a1 a2 a3 a4 a5 a6 a7 a8 a9:Nat) (h:n < m):(n < m + a1 + a2 + a3 + a4 + a5 + a6 + a7 + a8 + a9)=True:=by simp only [eq_iff_iff,iff_true]; omega
@[go_sem] theorem ZNQ {n m:Nat} (a1 a2 a3 a4 a5 a6 a7 a8 a9 a10:Nat) (h:n < m):(n < m + a1 + a2 + a3 + a4 + a5 + a6 + a7 + a8 + a9 + a10)=True:=by simp only [eq_iff_iff,iff_true]; omega
@[go_sem] theorem ZNR {n m:Nat} (a1 a2 a3 a4 a5 a6 a7 a8 a9 a10 a11:Nat) (h:n < m):(n < m + a1 + a2 + a3 + a4 + a5 + a6 + a7 + a8 + a9 + a10 + a11)=True:=by simp only [eq_iff_iff,iff_true]; omega
@[go_sem] theorem ZNS {n m:Nat} (a1 a2 a3 a4 a5 a6 a7 a8 a9 a10 a11 a12:Nat) (h:n < m):(n < m + a1 + a2 + a3 + a4 + a5 + a6 + a7 + a8 + a9 + a10 + a11 + a12)=True:=by simp only [eq_iff_iff,iff_true]; omega
theorem ZdE {n:Nat} (hn:n < w.heap.size):(ext w E d).heap[n]?=w.heap[n]?:=by
 show (w.heap ++ E)[n]?=_
 rw [Array.getElem?_append_left hn]
@[go_sem] theorem ZsB (n i:Nat) (hn:n < w.heap.size):(ext w E d).cell? ⟨n,i,none⟩=w.cell? ⟨n,i,none⟩:=by
  unfold World.cell?
  rw [ZdE w E d hn]
@[go_sem] theorem ZHn (n i:Nat) (hn:n < w.heap.size):(ext w E d).frozen? ⟨n,i,none⟩=w.frozen? ⟨n,i,none⟩:=by
  unfold World.frozen?
  rw [ZdE w E d hn]
@[go_sem] theorem ZHo (n i:Nat) (v:Value) (hn:n < w.heap.size):(ext w E d).setCell ⟨n,i,none⟩ v=ext (w.setCell ⟨n,i,none⟩ v) E d:=by
  unfold World.setCell ext
  simp only
  congr 1
  apply Array.ext_getElem?
  intro k
  simp only [Array.getElem?_modify,Array.getElem?_append,Array.size_modify]
  by_cases hk:n=k
  ·subst hk
   simp [hn]
  ·simp [hk]
@[go_sem] theorem ZLw:(ext w E d).drew=ext w E (d + 1):=rfl
@[go_sem] theorem ZOu:ext w.drew E d=ext w E d:=rfl
@[go_sem] theorem ZNT (n:Nat):ext (w.drewN n) E d=ext w E d:=rfl
@[go_sem] theorem ZJu (n:Nat):(ext w E d).drewN n=ext w E (d + n):=rfl
theorem ZrG (E' : Array Obj) (d' : Nat):ext (ext w E d) E' d'=ext w (E ++ E') d':=by simp [ext]
theorem ZAJ (o:Obj):(ext w E d).alloc o=ext w (E.push o) d:=by simp [ext,World.alloc]
theorem ZOX:w=ext w #[] w.drawn:=by simp [ext]
theorem ZAK {a b:World} (h:Below a.heap.size a b) (E:Array Obj) (d:Nat):Below a.heap.size a (ext b E d) :=
 h.trans ⟨rfl,rfl,rfl,by simp,fun k hk=>ZdE b E d (by have:=h.size; omega)⟩
theorem Zkg {w w1:World} (h:Below w.heap.size w w1):∃ E d,w1=ext w E d:=by
 refine ⟨w1.heap.extract w.heap.size,w1.drawn,?_⟩
 have hh:w1.heap=w.heap ++ w1.heap.extract w.heap.size:=by
  have hs:=h.size
  apply Array.ext_getElem?
  intro k
  rw [Array.getElem?_append]
  split
  ·exact h.block k (by assumption)
  ·rw [Array.getElem?_extract]
   split
   ·congr 1; omega
   ·exact Array.getElem?_eq_none (by omega)
 have h1:=h.os
 have h2:=h.tape
 have h3:=h.output
 cases w1
 simp only [ext] at *
 subst h1 h2 h3
 simp [← hh]
end
def RV (v:Value) (w:World) (e:Ending) (w' : World):Prop:=e=.returned v∧∃ E d,w'=ext w E d
theorem RV.mk {v:Value} {w w' : World} {e:Ending} (h1:e=.returned v) (h2:Below w.heap.size w w'):RV v w e w':=⟨h1,Zkg h2⟩
theorem RV.below {v:Value} {w w' : World} {e:Ending} (h:RV v w e w'):e=.returned v∧Below w.heap.size w w':=by
 obtain ⟨h1,E,d,rfl⟩:=h
 exact ⟨h1,ZAK (Below.refl _ _) _ _⟩
def szT (n:Int) (k:Nat):Int:=if n < k then -1 else n - k
theorem ZPa {n:Int} {k:Nat} (h:n < k):szT n k=-1:=by simp [szT,h]
theorem ZPb {n:Int} {k:Nat} (h:(k:Int)≤n):szT n k=n - k:=by unfold szT; rw [if_neg (by omega)]
theorem ZPc {n:Int} (k:Nat) (h : -1≤n):szT n k≤n∧-1≤szT n k:=by unfold szT; split <;> omega
theorem ZOY {n:Int} {k:Nat} (h:0≤szT n k):(k:Int)≤n∧szT n k=n - k:=by unfold szT at *; split at h <;> (try split) <;> omega
theorem ZPd (w:World) (o:Obj):Below w.heap.size w (w.alloc o):=ZLv (Below.refl _ _) o
theorem ZML:laidOutB Tryz.prog=true:=by kernel_rfl
theorem ZPu:ownKnob Tryz.prog.godebug=none:=by kernel_rfl
def Zix (W:World) (b:Nat):Array Value:=match W.heap[b]? with | some (.cells cs _ _)=>cs | _=>#[]
def ZMM (W:World) (b:Nat):Array Value:=Zix W b
theorem blkOf_ext' {w:World} {b:Nat} (E:Array Obj) (d:Nat) (h:b < w.heap.size):Zix (ext w E d) b=Zix w b:=by
 unfold Zix
 rw [ZdE w E d h]
@[go_sem] theorem ZNU {w:World} {b:Nat} (E:Array Obj) (d:Nat):Zix (ext w E d) b=if b < w.heap.size then Zix w b else ZMM (ext w E d) b:=by
  split
  ·rename_i h; exact blkOf_ext' E d h
  ·rfl
theorem blkOf_new (w:World) (cs:Array Value) (T:TypeId) (fr:Nat × Nat):Zix (w.alloc (.cells cs T fr)) w.heap.size=cs:=by
 unfold Zix
 have:(w.alloc (.cells cs T fr)).heap[w.heap.size]?=some (.cells cs T fr):=by
  show (w.heap.push _)[w.heap.size]?=_
  simp
 rw [this]
@[go_sem] theorem blkOf_past {w:World} {b:Nat} (o:Obj):Zix (w.alloc o) b=if b < w.heap.size then Zix w b else ZMM (w.alloc o) b:=by
  split
  ·rename_i h
   unfold Zix
   rw [Below.heap_alloc w o b h]
  ·rfl
@[go_sem high] theorem ZOv {w:World} {b:Nat} (cs:Array Value) (T:TypeId) (fr:Nat × Nat):Zix (w.alloc (.cells cs T fr)) b=if b < w.heap.size then Zix w b else if b=w.heap.size then cs else ZMM (w.alloc (.cells cs T fr)) b:=by
  split
  ·rename_i h; rw [blkOf_past,if_pos h]
  ·split
   ·rename_i h; subst h; exact blkOf_new _ _ _ _
   ·rfl
@[go_sem] theorem ZM3 (w:World) (b:Nat):Zix w.drew b=Zix w b:=rfl
@[go_sem] theorem ZMN (w:World) (b n:Nat):Zix (w.drewN n) b=Zix w b:=rfl
@[go_sem high] theorem ZLx {P:Program} (W:World) (b n:Nat) (h:(Zix W b).size=n):(loadCells ⟨b,0,none⟩ n).run P W=.ok (Zix W b) W:=by
  subst h
  unfold Zix
  cases hb:W.heap[b]? with
  | none=>simp [loadCells,loadCellsFrom]
  | some o =>
   cases o with
   | cells cs t fr =>
    have hl:(loadCells ⟨b,0,none⟩ cs.toList.length).run P W=.ok cs.toList.toArray W :=
     run_loadCells_list (P:=P) W ⟨b,0,none⟩ cs.toList (fun j v hv=>by
      have hadd:(⟨b,0,none⟩:Addr).add j=⟨b,j,none⟩:=by unfold Addr.add; split <;> simp_all
      rw [hadd,cell_of_row W b j cs t fr hb]
      simpa using hv)
    simpa using hl
   | _=>simp [loadCells,loadCellsFrom]
section
variable {P:Program} (w:World) (a:Addr) (n:Nat)
@[go_sem low] theorem ZLy (_:(w.cell? a).isSome=true):(loadCells a n).run P w=(loadCellsFrom a 0 n #[]).run P w:=rfl
@[go_sem low] theorem ZLz (E:Array Obj) (d:Nat):(loadCells a n).run P (ext w E d)=(loadCellsFrom a 0 n #[]).run P (ext w E d):=rfl
@[go_sem low] theorem ZJv (o:Obj):(loadCells a n).run P (w.alloc o)=(loadCellsFrom a 0 n #[]).run P (w.alloc o):=rfl
@[go_sem low] theorem ZJN:(loadCells a n).run P w.drew=(loadCellsFrom a 0 n #[]).run P w.drew:=rfl
@[go_sem low] theorem ZJw (k:Nat):(loadCells a n).run P (w.drewN k)=(loadCellsFrom a 0 n #[]).run P (w.drewN k):=rfl
@[go_sem low] theorem ZLA (p:Addr) (v:Value):(loadCells a n).run P (w.setCell p v)=(loadCellsFrom a 0 n #[]).run P (w.setCell p v):=rfl
end
def Zec (W:World) (b n:Nat):Bool:=match W.heap[b]? with | some (.cells cs _ fr)=>cs.size == n && fr == (0,0) | _=>false
def ZrH (W:World) (b n:Nat):Bool:=Zec W b n
@[go_sem] theorem ZMO {w:World} {b:Nat} (n:Nat) (E:Array Obj) (d:Nat):Zec (ext w E d) b n=if b < w.heap.size then Zec w b n else ZrH (ext w E d) b n:=by
  split
  ·rename_i h
   unfold Zec
   rw [ZdE w E d h]
  ·rfl
theorem blkFree_new (w:World) (cs:Array Value) (T:TypeId) (n:Nat):Zec (w.alloc (.cells cs T)) w.heap.size n=(cs.size == n):=by
 unfold Zec
 have:(w.alloc (.cells cs T)).heap[w.heap.size]?=some (.cells cs T):=by
  show (w.heap.push _)[w.heap.size]?=_
  simp
 rw [this]
 simp
@[go_sem] theorem blkFree_past {w:World} {b:Nat} (n:Nat) (o:Obj):Zec (w.alloc o) b n=if b < w.heap.size then Zec w b n else ZrH (w.alloc o) b n:=by
  split
  ·rename_i h
   unfold Zec
   rw [Below.heap_alloc w o b h]
  ·rfl
@[go_sem high] theorem ZM4 {w:World} {b:Nat} (cs:Array Value) (T:TypeId) (n:Nat):Zec (w.alloc (.cells cs T)) b n=if b < w.heap.size then Zec w b n else if b=w.heap.size then (cs.size == n) else ZrH (w.alloc (.cells cs T)) b n:=by
  split
  ·rename_i h; rw [blkFree_past,if_pos h]
  ·split
   ·rename_i h; subst h; exact blkFree_new _ _ _ _
   ·rfl
@[go_sem] theorem ZLY (w:World) (b n:Nat):Zec w.drew b n=Zec w b n:=rfl
@[go_sem] theorem ZLB (w:World) (b n k:Nat):Zec (w.drewN k) b n=Zec w b n:=rfl
def ZcH (W:World) (b:Nat) (cs:Array Value):World:={ W with heap:=W.heap.modify b (fun o=>match o with | .cells _ T fr=>.cells cs T fr | o=>o) }
theorem setBlk_ext' {w:World} {b:Nat} (cs:Array Value) (E:Array Obj) (d:Nat) (h:b < w.heap.size):ZcH (ext w E d) b cs=ext (ZcH w b cs) E d:=by
 unfold ZcH ext
 simp only
 congr 1
 apply Array.ext_getElem?
 intro k
 simp only [Array.getElem?_modify,Array.getElem?_append,Array.size_modify]
 by_cases hk:b=k
 ·subst hk
  simp [h]
 ·simp [hk]
theorem setBlk_new (w:World) (old cs:Array Value) (T:TypeId):ZcH (w.alloc (.cells old T)) w.heap.size cs=w.alloc (.cells cs T):=by
 unfold ZcH World.alloc
 simp only
 congr 1
 apply Array.ext_getElem?
 intro k
 simp only [Array.getElem?_modify,Array.getElem?_push]
 by_cases hk:w.heap.size=k
 ·subst hk
  simp
 ·have hk' : ¬ k=w.heap.size:=fun e=>hk e.symm
  simp [hk,hk']
theorem setBlk_past' {w:World} {b:Nat} (cs:Array Value) (o:Obj) (h:b < w.heap.size):ZcH (w.alloc o) b cs=(ZcH w b cs).alloc o:=by
 unfold ZcH World.alloc
 simp only
 congr 1
 apply Array.ext_getElem?
 intro k
 simp only [Array.getElem?_modify,Array.getElem?_push,Array.size_modify]
 by_cases hk:b=k
 ·subst hk
  have:¬ b=w.heap.size:=by omega
  simp [this]
 ·simp [hk]
def ZvX (W:World) (b:Nat) (cs:Array Value):World:=ZcH W b cs
@[go_sem] theorem ZM5 (w:World) (b:Nat) (cs:Array Value) (E:Array Obj) (d:Nat):ZcH (ext w E d) b cs=if b < w.heap.size then ext (ZcH w b cs) E d else ZvX (ext w E d) b cs:=by
  split
  ·rename_i h; exact setBlk_ext' cs E d h
  ·rfl
@[go_sem] theorem setBlk_past (w:World) (b:Nat) (cs:Array Value) (o:Obj):ZcH (w.alloc o) b cs=if b < w.heap.size then (ZcH w b cs).alloc o else ZvX (w.alloc o) b cs:=by
  split
  ·rename_i h; exact setBlk_past' cs o h
  ·rfl
@[go_sem high] theorem ZNV (w:World) (b:Nat) (old cs:Array Value) (T:TypeId):ZcH (w.alloc (.cells old T)) b cs=if b < w.heap.size then (ZcH w b cs).alloc (.cells old T) else if b=w.heap.size then w.alloc (.cells cs T) else ZvX (w.alloc (.cells old T)) b cs:=by
  split
  ·rename_i h; rw [setBlk_past,if_pos h]
  ·split
   ·rename_i h; subst h; exact setBlk_new _ _ _ _
   ·rfl
@[simp,go_sem] theorem ZMP (w:World) (b:Nat) (cs:Array Value):(ZcH w b cs).heap.size=w.heap.size:=by simp [ZcH]
@[go_sem] theorem ZMQ (w:World) (b:Nat) (cs:Array Value):ZcH w.drew b cs=(ZcH w b cs).drew:=rfl
theorem Zld {P:Program} (g:Nat) (t:TypeId):∀ (vs:List Value) (i:Nat) (cur:Array Value) (W:World),W.heap[g]?=some (.cells cur t (0,0))→i + vs.length=cur.size→vs.all (fun v=>v.oneCell')=true →
 (storeCells ⟨g,0,none⟩ vs i).run P W=.ok () (ZcH W g (cur.toList.take i ++ vs).toArray)
 | [],i,cur,W,hg,hl,_=>by
  have h1:cur.toList.take i=cur.toList:=List.take_of_length_le (by simp at hl ⊢; omega)
  have h2:ZcH W g cur=W:=by
   unfold ZcH
   congr 1
   apply Array.ext_getElem?
   intro k
   rw [Array.getElem?_modify]
   by_cases hk:g=k
   ·subst hk
    rw [if_pos rfl,hg]
    rfl
   ·rw [if_neg hk]
  simp only [storeCells,List.append_nil,h1,Array.toArray_toList,h2]
  rfl
 | v :: vs,i,cur,W,hg,hl,ho=>by
  rw [List.all_cons,Bool.and_eq_true] at ho
  have hadd:(⟨g,0,none⟩:Addr).add i=⟨g,i,none⟩:=by unfold Addr.add; split <;> simp_all
  have hi:i < cur.size:=by simp at hl; omega
  have hc:W.cell? ⟨g,i,none⟩=some cur[i]:=by simp [World.cell?,hg,hi]
  have hf:W.frozen? ⟨g,i,none⟩=false:=by simp [World.frozen?,hg]
  have hset:W.setCell ⟨g,i,none⟩ v=ZcH W g (cur.setIfInBounds i v):=by
   unfold World.setCell ZcH
   simp only
   congr 1
   apply Array.ext_getElem?
   intro k
   simp only [Array.getElem?_modify]
   by_cases hk:g=k
   ·subst hk
    rw [if_pos rfl,if_pos rfl,hg]
    rfl
   ·rw [if_neg hk,if_neg hk]
  have hg' : (ZcH W g (cur.setIfInBounds i v)).heap[g]?=some (.cells (cur.setIfInBounds i v) t (0,0)):=by
   unfold ZcH
   simp only [Array.getElem?_modify,if_pos,hg]
   rfl
  have ih:=Zld (P:=P) g t vs (i + 1) (cur.setIfInBounds i v) (ZcH W g (cur.setIfInBounds i v)) hg' (by simp at hl ⊢; omega) ho.2
  have e:((cur.setIfInBounds i v).toList.take (i + 1) ++ vs)=cur.toList.take i ++ v :: vs:=by
   rw [Array.toList_setIfInBounds,List.take_add_one,List.getElem?_set_self (by simpa using hi),List.take_set_of_le (Nat.le_refl _)]
   simp
  have e2:∀ cs cs' : Array Value,ZcH (ZcH W g cs) g cs'=ZcH W g cs':=fun cs cs'=>by
   unfold ZcH
   simp only
   congr 1
   apply Array.ext_getElem?
   intro k
   simp only [Array.getElem?_modify]
   by_cases hk:g=k
   ·subst hk
    simp only [if_true,hg]
    rfl
   ·simp [hk]
  rw [e,e2] at ih
  have hst:(store (⟨g,i,none⟩:Addr) v).run P W=.ok () (ZcH W g (cur.setIfInBounds i v)):=by
   rw [← hset,run_store P W _ v .plain ho.1,hc,hf]
   rfl
  simp only [storeCells,Sem.run_bind,hadd,hst,Result.andThen_ok]
  exact ih
@[go_sem high] theorem ZJO {P:Program} (W:World) (b:Nat) (vs:List Value) (ho:vs.all (fun v=>v.oneCell')=true) (h:Zec W b vs.length=true):(storeCells ⟨b,0,none⟩ vs 0).run P W=.ok () (ZcH W b vs.toArray):=by
  unfold Zec at h
  split at h
  ·rename_i cs T fr hb
   simp only [Bool.and_eq_true,beq_iff_eq] at h
   obtain ⟨h1,rfl⟩:=h
   have:=Zld (P:=P) b T vs 0 cs W hb (by omega) ho
   simpa using this
  ·cases h
section
variable {P:Program} (w:World) (a:Addr) (v:Value) (vs:List Value) (i:Nat)
@[go_sem low] theorem ZJP (_:(w.cell? (a.add i)).isSome=true):(storeCells a (v :: vs) i).run P w=((do store (a.add i) v; storeCells a vs (i + 1):Sem Unit)).run P w:=rfl
@[go_sem low] theorem ZJQ (E:Array Obj) (d:Nat):(storeCells a (v :: vs) i).run P (ext w E d)=((do store (a.add i) v; storeCells a vs (i + 1):Sem Unit)).run P (ext w E d):=rfl
@[go_sem low] theorem ZHp (o:Obj):(storeCells a (v :: vs) i).run P (w.alloc o)=((do store (a.add i) v; storeCells a vs (i + 1):Sem Unit)).run P (w.alloc o):=rfl
@[go_sem low] theorem ZJx:(storeCells a (v :: vs) i).run P w.drew=((do store (a.add i) v; storeCells a vs (i + 1):Sem Unit)).run P w.drew:=rfl
@[go_sem low] theorem ZHq (k:Nat):(storeCells a (v :: vs) i).run P (w.drewN k)=((do store (a.add i) v; storeCells a vs (i + 1):Sem Unit)).run P (w.drewN k):=rfl
@[go_sem low] theorem ZJR (p:Addr) (u:Value):(storeCells a (v :: vs) i).run P (w.setCell p u)=((do store (a.add i) v; storeCells a vs (i + 1):Sem Unit)).run P (w.setCell p u):=rfl
end
@[go_sem] theorem ZJS {P:Program} (W:World) (a:Addr) (i:Nat):(storeCells a [] i).run P W=.ok () W:=rfl
class GoRep (α:Type) where
 n:Nat
 pos:0 < n
 rep:World→α→List Value→List Nat→Prop
 len:∀ {w x cs F},rep w x cs F→cs.length=n
 keep:∀ {w w' x cs F},rep w x cs F→(∀ b ∈ F,w'.heap[b]?=w.heap[b]?)→rep w' x cs F
 lt:∀ {w x cs F},rep w x cs F→∀ b ∈ F,b < w.heap.size
 one:∀ {w x cs F},rep w x cs F→cs.all (fun v=>v.oneCell')=true
 bulk:α→Nat
open GoRep (rep bulk)
def I64 (x:Int):Prop:=(Lit.int .i64 x).wf=true
theorem I64.lo {x:Int} (h:I64 x) : -9223372036854775808≤x:=(bounds_i64 h).1
theorem I64.hi {x:Int} (h:I64 x):x≤9223372036854775807:=(bounds_i64 h).2
theorem I64.mk {x:Int} (h1 : -9223372036854775808≤x) (h2:x≤9223372036854775807):I64 x:=WalkArith.wf_i64 ⟨h1,h2⟩
instance:GoRep Int where
 n:=1
 pos:=by omega
 rep _ x cs F:=cs=[.int .i64 x]∧I64 x∧F=[]
 len h:=by rw [h.1]; rfl
 keep h _:=h
 lt h:=by rw [h.2.2]; simp
 one h:=by rw [h.1]; rfl
 bulk _:=0
instance:GoRep Bool where
 n:=1
 pos:=by omega
 rep _ x cs F:=cs=[.bool x]∧F=[]
 len h:=by rw [h.1]; rfl
 keep h _:=h
 lt h:=by rw [h.2]; simp
 one h:=by rw [h.1]; rfl
 bulk _:=0
instance:GoRep ByteArray where
 n:=1
 pos:=by omega
 rep _ x cs F:=cs=[.string x]∧x.size≤maxLen∧F=[]
 len h:=by rw [h.1]; rfl
 keep h _:=h
 lt h:=by rw [h.2.2]; simp
 one h:=by rw [h.1]; rfl
 bulk x:=x.size
instance {α β:Type} [GoRep α] [GoRep β]:GoRep (α × β) where
 n:=GoRep.n α + GoRep.n β
 pos:=by have:=GoRep.pos (α:=α); omega
 rep w x cs F:=∃ c1 c2 F1 F2,rep w x.1 c1 F1∧rep w x.2 c2 F2∧cs=c1 ++ c2∧F=F1 ++ F2
 len h:=by
  obtain ⟨c1,c2,F1,F2,h1,h2,rfl,rfl⟩:=h
  rw [List.length_append,GoRep.len h1,GoRep.len h2]
 keep h hk:=by
  obtain ⟨c1,c2,F1,F2,h1,h2,e1,e2⟩:=h
  subst e2
  exact ⟨c1,c2,F1,F2,GoRep.keep h1 (fun b hb=>hk b (by simp [hb])),GoRep.keep h2 (fun b hb=>hk b (by simp [hb])),e1,rfl⟩
 lt h b hb:=by
  obtain ⟨c1,c2,F1,F2,h1,h2,e1,e2⟩:=h
  subst e2
  rcases List.mem_append.1 hb with hb | hb
  ·exact GoRep.lt h1 b hb
  ·exact GoRep.lt h2 b hb
 one h:=by
  obtain ⟨c1,c2,F1,F2,h1,h2,e1,e2⟩:=h
  rw [e1,List.all_append,GoRep.one h1,GoRep.one h2]
  rfl
 bulk x:=bulk x.1 + bulk x.2
theorem ZmY {w w' : World} {b:Nat} (h:w'.heap[b]?=w.heap[b]?) (o:Nat):w'.cell? ⟨b,o,none⟩=w.cell? ⟨b,o,none⟩:=by unfold World.cell?; rw [h]
theorem ZrI {w w' : World} {b:Nat} (h:w'.heap[b]?=w.heap[b]?) (o:Nat):w'.frozen? ⟨b,o,none⟩=w.frozen? ⟨b,o,none⟩:=by unfold World.frozen?; rw [h]
theorem ZHb {w:World} {b o:Nat} {u:Value} (h:w.cell? ⟨b,o,none⟩=some u):b < w.heap.size:=by
 rcases Nat.lt_or_ge b w.heap.size with hlt | hge
 ·exact hlt
 ·unfold World.cell? at h
  rw [Array.getElem?_eq_none hge] at h
  simp at h
def ZdX (w:World) (b off:Nat) (cs:List Value):Prop:=∀ j u,cs[j]?=some u→w.cell? ⟨b,off + j,none⟩=some u∧w.frozen? ⟨b,off + j,none⟩=false
theorem ZdX.keep {w w' : World} {b off:Nat} {cs:List Value} (h:ZdX w b off cs) (hb:w'.heap[b]?=w.heap[b]?):ZdX w' b off cs:=fun j u hj=>by
 rw [ZmY hb,ZrI hb]
 exact h j u hj
def ZcV {α:Type} [GoRep α] (w:World) (b off:Nat):List α→List Nat→Prop
 | [],G=>G=[]
 | x :: xs,G=>∃ cs G1 G2,rep w x cs G1∧ZdX w b off cs∧ZcV w b (off + GoRep.n α) xs G2∧G=G1 ++ G2
section
variable {α:Type} [GoRep α]
theorem ZcV.keep {w w' : World} {b:Nat} {xs:List α}:∀ {off:Nat} {G:List Nat},ZcV w b off xs G→w'.heap[b]?=w.heap[b]?→(∀ g ∈ G,w'.heap[g]?=w.heap[g]?)→ZcV w' b off xs G:=by
 induction xs with
 | nil=>intro off G h _ _; exact h
 | cons x xs ih =>
  intro off G h hb hG
  obtain ⟨cs,G1,G2,h1,h2,h3,rfl⟩:=h
  exact ⟨cs,G1,G2,GoRep.keep h1 (fun g hg=>hG g (by simp [hg])),h2.keep hb,ih h3 hb (fun g hg=>hG g (by simp [hg])),rfl⟩
theorem ZcV.lt {w:World} {b:Nat} {xs:List α}:∀ {off:Nat} {G:List Nat},ZcV w b off xs G→∀ g ∈ G,g < w.heap.size:=by
 induction xs with
 | nil=>intro off G h g hg; rw [show G=[] from h] at hg; simp at hg
 | cons x xs ih =>
  intro off G h g hg
  obtain ⟨cs,G1,G2,h1,h2,h3,rfl⟩:=h
  rcases List.mem_append.1 hg with hg | hg
  ·exact GoRep.lt h1 g hg
  ·exact ih h3 g hg
theorem ZcV.blk {w:World} {b off:Nat} {xs:List α} {G:List Nat} (h:ZcV w b off xs G) (hx:xs ≠ []):b < w.heap.size:=by
 cases xs with
 | nil=>exact absurd rfl hx
 | cons x xs =>
  obtain ⟨cs,G1,G2,h1,h2,_,_⟩:=h
  have hl:0 < cs.length:=by rw [GoRep.len h1]; exact GoRep.pos
  have hc:=h2 0 cs[0] (List.getElem?_eq_getElem hl)
  exact ZHb hc.1
theorem ZcV.get {w:World} {b:Nat} {xs:List α}:∀ {off:Nat} {G:List Nat} (k:Nat) (x:α),ZcV w b off xs G→xs[k]?=some x →
 ∃ cs Gk,rep w x cs Gk∧(∀ g ∈ Gk,g ∈ G)∧ZdX w b (off + k * GoRep.n α) cs:=by
 induction xs with
 | nil=>intro off G k x _ h; simp at h
 | cons y xs ih =>
  intro off G k x h hk
  obtain ⟨cs,G1,G2,h1,h2,h3,rfl⟩:=h
  cases k with
  | zero =>
   simp at hk
   subst hk
   exact ⟨cs,G1,h1,fun g hg=>by simp [hg],by simpa using h2⟩
  | succ k =>
   simp at hk
   obtain ⟨cs',Gk,a1,a2,a3⟩:=ih k x h3 hk
   refine ⟨cs',Gk,a1,fun g hg=>by simp [a2 g hg],?_⟩
   rw [show off + (k + 1) * GoRep.n α=off + GoRep.n α + k * GoRep.n α from by rw [Nat.add_mul]; omega]
   exact a3
end
def ZmZ {α:Type} [GoRep α] (w:World) (xs:List α) (A:Option Addr) (c:Nat) (F:List Nat):Prop :=
 xs.length≤c∧c≤maxLen∧((xs=[]∧F=[])∨(xs ≠ []∧∃ b off G,A=some ⟨b,off,none⟩∧F=b :: G∧ZcV w b off xs G))
def ZaN {α:Type} [GoRep α]:List α→Nat
 | []=>0
 | x :: xs=>bulk x + ZaN xs
theorem Zoj {α:Type} [GoRep α] (xs ys:List α):ZaN (xs ++ ys)=ZaN xs + ZaN ys:=by
 induction xs with
 | nil=>simp [ZaN]
 | cons x xs ih=>simp [ZaN,ih]; omega
instance {α:Type} [GoRep α]:GoRep (List α) where
 n:=1
 pos:=by omega
 rep w xs cs F:=∃ A c,cs=[.slice A xs.length c]∧ZmZ w xs A c F
 len h:=by obtain ⟨A,c,rfl,_⟩:=h; rfl
 keep h hk:=by
  obtain ⟨A,c,e,h1,h2,h3⟩:=h
  refine ⟨A,c,e,h1,h2,?_⟩
  rcases h3 with h3 | ⟨hx,b,off,G,rfl,rfl,hr⟩
  ·exact Or.inl h3
  ·exact Or.inr ⟨hx,b,off,G,rfl,rfl,hr.keep (hk b (by simp)) (fun g hg=>hk g (by simp [hg]))⟩
 lt h b hb:=by
  obtain ⟨A,c,e,h1,h2,h3⟩:=h
  rcases h3 with ⟨_,rfl⟩ | ⟨hx,b',off,G,rfl,rfl,hr⟩
  ·simp at hb
  ·rcases List.mem_cons.1 hb with rfl | hb
   ·exact hr.blk hx
   ·exact hr.lt b hb
 one h:=by obtain ⟨A,c,rfl,_⟩:=h; rfl
 bulk xs:=xs.length + ZaN xs
section
variable {α:Type} [GoRep α] {w:World} {x:α} {cs:List Value} {F:List Nat}
theorem ZJy (h:rep w x cs F) (o:Obj):rep (w.alloc o) x cs F:=GoRep.keep h (fun b hb=>Below.heap_alloc w o b (GoRep.lt h b hb))
theorem ZMR (h:rep w x cs F) (E:Array Obj) (d:Nat):rep (ext w E d) x cs F:=GoRep.keep h (fun b hb=>ZdE w E d (GoRep.lt h b hb))
theorem ZOw (h:rep w x cs F):rep w.drew x cs F:=GoRep.keep h (fun _ _=>rfl)
theorem ZNW {w' : World} (h:rep w x cs F) (hb:Below w.heap.size w w'):rep w' x cs F:=GoRep.keep h (fun b hm=>hb.block b (GoRep.lt h b hm))
theorem ZOZ (h:rep w x cs F) {p:Addr} (hp:p.block ∉ F) (u:Value):rep (w.setCell p u) x cs F:=GoRep.keep h (fun b hb=>Below.heap_setCell w p u b (fun e=>hp (e ▸ hb)))
theorem ZO0 {y:Int}:rep w y cs F↔cs=[.int .i64 y]∧I64 y∧F=[]:=Iff.rfl
theorem ZOx {y:Bool}:rep w y cs F↔cs=[.bool y]∧F=[]:=Iff.rfl
theorem ZO1 {y:ByteArray}:rep w y cs F↔cs=[.string y]∧y.size≤maxLen∧F=[]:=Iff.rfl
theorem ZOy {β:Type} [GoRep β] {y:α × β}:rep w y cs F↔∃ c1 c2 F1 F2,rep w y.1 c1 F1∧rep w y.2 c2 F2∧cs=c1 ++ c2∧F=F1 ++ F2:=Iff.rfl
theorem ZOz {xs:List α}:rep w xs cs F↔∃ A c,cs=[.slice A xs.length c]∧ZmZ w xs A c F:=Iff.rfl
end
def RN {α:Type} [GoRep α] (mk:List Value→Value) (x:α) (w:World) (e:Ending) (w' : World):Prop :=
 ∃ cs F E d,e=.returned (mk cs)∧w'=ext w E d∧rep w' x cs F∧F.Nodup∧∀ b ∈ F,w.heap.size≤b
def mkA (cs:List Value):Value:=.agg cs.toArray
def mk1 (cs:List Value):Value:=cs.headD undef
end Go.Proofs.YtafhbjjcpncfnaaGreat
